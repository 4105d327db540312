/- Laws. -/
import Derived.Test.YtblkikjmocnllaaGreatDoorQz20
set_option linter.unusedVariables false
set_option linter.unusedSimpArgs false
set_option maxRecDepth 100000
set_option maxHeartbeats 40000000
namespace Go.Proofs.YtblkikjmocnllaaGreatDoor
section
open Go.RowKit Go.Shelf
def newM (child:Str) (x:Mbr):Mbr:={ path:=child,status:=1,kids:=0,cut:=0,last:=0,gone:=[],plan:=plan0,words:=x.words }
def admitM (l:List Mbr) (p:Str):List Mbr × Str × Nat:=match idxP l p with
 | none=>([],[],200)
 | some i=>match l[i]? with
  | none=>([],[],200)
  | some x=>if x.status ≠ 2 then ([],[],200) else if 24<=l.length ∨ 1073741824<=x.kids then ([],[],6)
   else if (childP p (x.kids+1)).2 ≠ 0 then ([],[],(childP p (x.kids+1)).2)
   else (putM (l.set i { x with kids:=x.kids+1 }) (newM (childP p (x.kids+1)).1 x),(childP p (x.kids+1)).1,0)
theorem set_cut {α:Type} {l:List α} {i:Nat} {x:α} (h:i < l.length):l.set i x=(l.set i x).take i++x :: (l.set i x).drop (i+1):=by
 have hi:i < (l.set i x).length:=by simpa using h
 have e:(l.set i x).drop i=x :: (l.set i x).drop (i+1):=by rw [List.drop_eq_getElem_cons hi,List.getElem_set_self]
 rw [<- e,List.take_append_drop]
theorem childP_len {p:Str} {n:Int} (h:p.length < 3000000000) (hn:n<=1073741824):(childP p n).1.length < 4294967296:=by
 unfold childP
 split
 ·simp
 ·split
  ·simp
  ·split
   ·simp
   ·rename_i h1 h2 h3
    have hn1:1<=n:=by omega
    have:=digits_len n.toNat
    rw [itoa_pos hn1]
    simp only [List.length_append,List.length_cons]
    omega
theorem admit_any {S:Nat->Prop} {v:Value} {l:List Mbr} {w:World} (hv:Sl mbrT w S v l) (sm:SmallL l) (hp:∀ x ∈ l,x.path.length < 3000000000) (hk:∀ x ∈ l,-9223372036854775808<=x.kids) (p:Str) (ht:Pow w) :
  Calls Tryz.prog 11 #[v,St p] w fun e w'=>∃ v',e=.returned (.tuple #[v',St (admitM l p).2.1,I (admitM l p).2.2])/\Sl mbrT w' (fun b=>w.heap.size<=b) v' (admitM l p).1/\Ext w w':=by
 have HC:=Lib.hid (copyM_any hv sm)
 have hz:∀ w,(zeroValue 3).run Tryz.prog w=.ok (I (0:Nat)) w:=Tryz.zeroValue3
 obtain⟨K,hK⟩:∃ K,admitM l p=K:=⟨_,rfl⟩
 rw [hK]
 have HK:=Lib.hid hK
 have HT:=Lib.hid ht
 clear hv hK ht
 unfold admitM at HK
 go_enter Tryz.func11,Tryz.ntmps11
 go_wp2_with fail
 refine HC.out.mono ?_
 rintro e w1 ⟨v1,rfl,hcp,hx1⟩
 have HPL:=Lib.hid (places_any hcp.sl)
 go_wp2_with fail
 refine HPL.out.mono ?_
 rintro e w2 ⟨q,rfl,hq,hm,hx2⟩
 have hlk:=places_run hm hz p
 clear hm HPL HC
 cases hi:idxP l p with
 | none =>
  rw [hi] at hlk
  simp only [Option.getD_none,Option.isSome_none] at hlk
  have HF:=Lib.hid (show (([]:List Mbr),([]:Str),200)=K by rw [<- HK.out,hi])
  clear hi hcp
  go_wp2_with fail
  refine bodyPost_ret (results_tmp3 rfl _ _ _) rfl ?_
  exact⟨.slice none 0 0,by rw [<- HF.out];rfl,by rw [<- HF.out];exact Sl.nil _ _ (by omega),hx1.trans hx2⟩
 | some i =>
  rw [hi] at hlk
  simp only [Option.getD_some,Option.isSome_some] at hlk
  obtain⟨x,h1,h1',h2,h3,h4⟩:=idx_some hi
  have hxi:l[i]? = some x:=by unfold atP at h1;rw [hi] at h1;exact h1
  have hxm:x ∈ l:=List.mem_of_getElem? hxi
  have hsl:=hcp.sl
  obtain⟨A,c,rfl,-,-⟩:=hsl.form
  have hxx:=hx1.trans hx2
  have hcp2:CopyM w2 w.heap.size (.slice A l.length c) l:=by
   rcases hcp with ⟨e,a,b,e2,e3⟩ | ⟨g,c',us,tail,he,q1,q2,q3,q4,q5⟩
   ·exact .inl ⟨e,a,b,e2,e3⟩
   ·exact .inr ⟨g,c',us,tail,he,q1,q2,q3,q4.ext hx2,q5.ext hx2⟩
  obtain⟨b,o,B1,d1,B2,d2,rfl,-,-,-,hc⟩:=mbr_at (wr:=w2) hcp2.sl (fun _ _ _=>rfl) h3
  rw [h4] at hc
  have hob:o=0:=by
   rcases hcp2 with ⟨e,-⟩ | ⟨g,c',us,tail,he,-⟩
   ·rw [e] at h2;simp at h2
   ·injection he with e1 e2 e3;simp only [Option.some.injEq,Addr.mk.injEq] at e1;exact e1.2.1
  subst hob
  have k1:=hc 1 _ rfl
  have k2:=hc 2 _ rfl
  rw [Nat.zero_add] at k1 k2
  have h2':(i:Int) < l.length:=by omega
  have HK:=Lib.hid (show (if x.status ≠ 2 then (([]:List Mbr),([]:Str),200) else if 24<=l.length ∨ 1073741824<=x.kids then ([],[],6)
   else if (childP p (x.kids+1)).2 ≠ 0 then ([],[],(childP p (x.kids+1)).2)
   else (putM (l.set i { x with kids:=x.kids+1 }) (newM (childP p (x.kids+1)).1 x),(childP p (x.kids+1)).1,0))=K by rw [<- HK.out,hi];simp only [hxi])
  have hkx:=hk x hxm
  have hpx:p.length < 3000000000:=by rw [<- h1'];exact hp x hxm
  have hf2:w2.frozen? ⟨b,i * 15+2,none⟩=false:=by
   rcases hcp2 with ⟨e,-⟩ | ⟨g,c',us,tail,he,q1,q2,q3,q4,q5⟩
   ·rw [e] at h2;simp at h2
   ·injection he with e1 e2 e3
    simp only [Option.some.injEq,Addr.mk.injEq,and_true] at e1
    subst e1
    exact q4.frozen _
  have HCP:=Lib.hid hcp2
  have HX:=Lib.hid hxi
  have HM:=Lib.hid hxm
  clear hi hcp hc hsl h1 h1' h3 h4 hcp2 hxi hxm
  by_cases s1:x.status=2
  case neg =>
   have e1:((x.status:Int) != 2)=true:=by rw [bne_iff_ne];omega
   have HF:=Lib.hid (show (([]:List Mbr),([]:Str),200)=K by rw [<- HK.out,if_pos s1])
   clear s1 HK
   go_wp2_with fail
   refine bodyPost_ret (results_tmp3 rfl _ _ _) rfl ?_
   exact⟨.slice none 0 0,by rw [<- HF.out];rfl,by rw [<- HF.out];exact Sl.nil _ _ (by omega),hxx⟩
  have e1:((x.status:Int) != 2)=false:=by rw [s1];rfl
  have HK:=Lib.hid (HK.out.symm.trans (if_neg (by omega)))
  by_cases s2:24<=l.length
  case pos =>
   have e2:(l.length:Int) ≥ 24:=by omega
   have HF:=Lib.hid (HK.out.trans (if_pos (.inl s2)))
   clear s1 s2 HK
   go_wp2_with fail
   refine bodyPost_ret (results_tmp3 rfl _ _ _) rfl ?_
   exact⟨.slice none 0 0,by rw [HF.out];rfl,by rw [HF.out];exact Sl.nil _ _ (by omega),hxx⟩
  have e2:¬ (l.length:Int) ≥ 24:=by omega
  by_cases s3:1073741824<=x.kids
  case pos =>
   have e3:x.kids ≥ 1073741824:=by omega
   have HF:=Lib.hid (HK.out.trans (if_pos (.inr s3)))
   clear s1 s2 s3 HK
   go_wp2_with fail
   refine bodyPost_ret (results_tmp3 rfl _ _ _) rfl ?_
   exact⟨.slice none 0 0,by rw [HF.out];rfl,by rw [HF.out];exact Sl.nil _ _ (by omega),hxx⟩
  have e3:¬ x.kids ≥ 1073741824:=by omega
  have HK:=Lib.hid (HK.out.trans (if_neg (fun h=>by rcases h with h | h;exact s2 h;exact s3 h)))
  have HCH:=Lib.hid (child_any p (by omega) (x.kids+1) w2 (HT.out.below hxx) (by omega))
  have hcl:=childP_len (p:=p) (n:=x.kids+1) hpx (by omega)
  clear s1 s2
  go_wp2_with fail
  refine HCH.out.mono ?_
  rintro e w3 ⟨rfl,hx3⟩
  clear HCH
  generalize childP p (x.kids+1)=Z at *
  obtain⟨ch,er⟩:=Z
  have hcl:ch.length < 4294967296:=hcl
  by_cases s4:er=0
  case neg =>
   have e4:((er:Int) != 0)=true:=by rw [bne_iff_ne];omega
   have HF:=Lib.hid (HK.out.trans (if_pos s4))
   clear s3 s4 HK
   go_wp2_with fail
   refine bodyPost_ret (results_tmp3 rfl _ _ _) rfl ?_
   exact⟨.slice none 0 0,by rw [HF.out];rfl,by rw [HF.out];exact Sl.nil _ _ (by omega),hxx.trans hx3⟩
  have e4:((er:Int) != 0)=false:=by rw [s4];rfl
  have HF:=Lib.hid (HK.out.trans (if_neg (fun h=>h s4)))
  have k2:=hx3.cell k2
  have hcp3:CopyM w3 w.heap.size (.slice (some ⟨b,0,none⟩) l.length c) l:=by
   rcases HCP.out with ⟨e,a,b,e2,e3⟩ | ⟨g,c',us,tail,he,q1,q2,q3,q4,q5⟩
   ·exact .inl ⟨e,a,b,e2,e3⟩
   ·exact .inr ⟨g,c',us,tail,he,q1,q2,q3,q4.ext hx3,q5.ext hx3⟩
  have hf2:w3.frozen? ⟨b,i * 15+2,none⟩=false:=by
   rcases hcp3 with ⟨e,-⟩ | ⟨g,c',us,tail,he,q1,q2,q3,q4,q5⟩
   ·rw [e] at h2;simp at h2
   ·injection he with e1 e2 e3
    simp only [Option.some.injEq,Addr.mk.injEq,and_true] at e1
    subst e1
    exact q4.frozen _
  obtain⟨hupd,hbg⟩:=hcp3.upd (x':={ x with kids:=x.kids+1 }) (j:=2) (val:=I (x.kids+1)) HX.out rfl rfl (fun _ _=>rfl) (by omega)
  have hxz:Ext w (w3.setCell ⟨b,i * 15+2,none⟩ (I (x.kids+1))):=Below.setCell (hxx.trans hx3) hbg _
  have hl4:=set_cut (x:={ x with kids:=x.kids+1 }) h2
  have hln:(l.set i { x with kids:=x.kids+1 }).length=l.length:=by simp
  have hsl4:=hupd.sl
  rw [<- hln] at hsl4
  obtain⟨b',o',B3,d3,B4,d4,he,-,-,hwd,hc⟩:=mbr_at (wr:=w3.setCell ⟨b,i * 15+2,none⟩ (I (x.kids+1))) hsl4 (fun _ _ _=>rfl) hl4
  cases he
  have k3:=hc 14 _ rfl
  rw [Nat.zero_add,List.length_take,Nat.min_eq_left (by omega)] at k3
  have hwd:Sl wordT (w3.setCell ⟨b,i * 15+2,none⟩ (I (x.kids+1))) (fun b=>w.heap.size<=b) (.slice B4 x.words.length d4) x.words:=hwd
  rw [hln] at hsl4
  have HW:=Lib.hid hwd
  have HS:=Lib.hid hsl4
  clear hc hwd hsl4 hupd hcp3 hl4 hln s3 s4 HK hx3 hxx
  have hsm:SmallL (l.set i { x with kids:=x.kids+1 }):=⟨by rw [List.length_set];exact sm.len,fun y hy=>by
   rcases List.mem_or_eq_of_mem_set hy with h | rfl
   ·exact sm.each y h
   ·exact sm.each x HM.out⟩
  have hpp:∀ y ∈ l.set i { x with kids:=x.kids+1 },y.path.length < 4294967296:=fun y hy=>by
   rcases List.mem_or_eq_of_mem_set hy with h | rfl
   ·exact Nat.lt_of_lt_of_le (hp y h) (by decide)
   ·exact Nat.lt_of_lt_of_le (hp x HM.out) (by decide)
  have hlen:0 < (l.set i { x with kids:=x.kids+1 }).length:=by rw [List.length_set];omega
  have hww:=(sm.each x HM.out).2
  go_wp2_with fail
  have hxa:=(Ext.refl (w3.setCell ⟨b,i * 15+2,none⟩ (.int .i64 (x.kids+1)))).alloc (.cells #[St ch,.int .u8 1,.int .i64 0,.int .i64 0,.int .u64 0,.slice none 0 0,.string ⟨#[]⟩,.int .u64 0,.string ⟨#[]⟩,.string ⟨#[]⟩,.int .u64 0,.string ⟨#[]⟩,.int .u64 0,.bool false,.slice B4 x.words.length d4] 48)
  refine (put_any (m:=newM ch x) (v1:=.slice none 0 0) (v2:=.slice B4 x.words.length d4) (HS.out.ext (by decide) hxa) hsm hlen hpp (Sl.nil (S:=fun b=>w.heap.size<=b) none 0 (by omega)) (HW.out.ext (by decide) hxa) hcl (Nat.zero_le _) hww).mono ?_
  rintro e W6 ⟨v',rfl,hs,hx6⟩
  have hx7:=(Ext.trans hxz hxa).trans hx6
  have hs7:=hs.mono (S':=fun b=>w.heap.size<=b) (by decide) (fun b _ h=>Nat.le_trans (Ext.trans hxz hxa).size h)
  have HS7:=Lib.hid hs7
  clear hs hs7 hx6 hxa hxz HS HW
  go_wp2
  refine bodyPost_ret (results_tmp3 rfl _ _ _) rfl ?_
  exact⟨v',by rw [HF.out];rfl,by rw [HF.out];exact HS7.out,hx7⟩
theorem refOf_any {S:Nat->Prop} {v:Value} {l:List Mbr} {w:World} (hv:Sl mbrT w S v l) (p:Str) :
  Calls Tryz.prog 39 #[v,St p] w fun e w'=>∃ u1 u2,e=.returned (.tuple #[mbrV ((findP l p).getD mbr0) u1 u2,.bool (findP l p).isSome])/\Sl spanT w' S u1 ((findP l p).getD mbr0).gone/\Sl wordT w' S u2 ((findP l p).getD mbr0).words/\Ext w w':=by
 have hv':=hv
 obtain⟨A,c,rfl,hc1,hc2⟩:=hv.form
 have r0:=rowNew w 48 [St [],.int .u8 0,I 0,I 0,.int .u64 0,.slice none 0 0,St [],.int .u64 0,St [],St [],.int .u64 0,St [],.int .u64 0,.bool false,.slice none 0 0]
 have hx0:=(Ext.refl w).alloc (.cells #[St [],.int .u8 0,I 0,I 0,.int .u64 0,.slice none 0 0,St [],.int .u64 0,St [],St [],.int .u64 0,St [],.int .u64 0,.bool false,.slice none 0 0] 48)
 have HAT:=Lib.hid (fun (pre post:List Mbr) (x:Mbr) (hl:l=pre++x :: post)=>mbr_at (wr:=w) hv' (fun b _ hb=>rfl) hl)
 obtain⟨K,hK⟩:∃ K,findP l p=K:=⟨_,rfl⟩
 rw [hK]
 have HK:=Lib.hid hK
 clear hv hv' hK
 go_enter Tryz.func39,Tryz.ntmps39
 go_wp2_with fail
 generalize w.alloc (.cells #[St [],.int .u8 0,I 0,I 0,.int .u64 0,.slice none 0 0,St [],.int .u64 0,St [],St [],.int .u64 0,St [],.int .u64 0,.bool false,.slice none 0 0] 48)=W0 at *
 go_loopw [6] (fun i wr=>∃ pre post,l=pre++post/\i=I pre.length/\(∀ x ∈ pre,x.path ≠ p)/\Ext W0 wr) (fun i _=>l.length - (intOf i).toNat)
 case atStart=>exact⟨[],l,rfl,rfl,by simp,Ext.refl _⟩
 case round =>
  obtain⟨pre,post,hl,rfl,hpre,hx⟩:=hrel
  have rr:=r0.ext hx
  have hxw:=hx0.trans hx
  cases post with
  | nil =>
   rw [List.append_nil] at hl
   subst hl
   have HF:=Lib.hid (show none=K by rw [<- HK.out];unfold findP;symm;rw [List.find?_eq_none];intro x hxm;simpa using hpre x hxm)
   have d1:¬ (l.length:Int) < l.length:=by omega
   obtain⟨j0,j1,j2,j3,j4,j5,j6,j7,j8,j9,j10,j11,j12,j13,j14⟩:=rr.c15
   obtain⟨f0,f1,f2,f3,f4,f5,f6,f7,f8,f9,f10,f11,f12,f13,f14⟩:=rr.f15
   clear hpre r0 hx0 hx
   go_wp2_with fail
   clear  j0 j1 j2 j3 j4 j5 j6 j7 j8 j9 j10 j11 j12 j13 j14 f0 f1 f2 f3 f4 f5 f6 f7 f8 f9 f10 f11 f12 f13 f14
   (try simp only [Exit.inBlock,Exit.then])
   change bodyPost Tryz.prog Tryz.f39 _ Exit.ret _ (put15z wr w.heap.size (St []) (.int .u8 0) (I 0) (I 0) (.int .u64 0) (.slice none 0 0) (St []) (.int .u64 0) (St []) (St []) (.int .u64 0) (St []) (.int .u64 0) (.bool false) (.slice none 0 0))
   rw [put15z_eq]
   have r:=put15_mid (W:=wr) (g:=w.heap.size) [] [] rr (a0:=St []) (a1:=.int .u8 0) (a2:=I 0) (a3:=I 0) (a4:=.int .u64 0) (a5:=.slice none 0 0) (a6:=St []) (a7:=.int .u64 0) (a8:=St []) (a9:=St []) (a10:=.int .u64 0) (a11:=St []) (a12:=.int .u64 0) (a13:=.bool false) (a14:=.slice none 0 0)
   have hb:=put15_below (g:=w.heap.size) (o:=0) (a0:=St []) (a1:=.int .u8 0) (a2:=I 0) (a3:=I 0) (a4:=.int .u64 0) (a5:=.slice none 0 0) (a6:=St []) (a7:=.int .u64 0) (a8:=St []) (a9:=St []) (a10:=.int .u64 0) (a11:=St []) (a12:=.int .u64 0) (a13:=.bool false) (a14:=.slice none 0 0) hxw (Nat.le_refl _)
   simp only [List.nil_append,List.append_nil,List.length_nil] at r
   generalize put15 wr w.heap.size 0 (St []) (.int .u8 0) (I 0) (I 0) (.int .u64 0) (.slice none 0 0) (St []) (.int .u64 0) (St []) (St []) (.int .u64 0) (St []) (.int .u64 0) (.bool false) (.slice none 0 0)=W5 at *
   obtain⟨k0,k1,k2,k3,k4,k5,k6,k7,k8,k9,k10,k11,k12,k13,k14⟩:=r.c15
   refine bodyPost_ret (v:=.tuple #[mbrV mbr0 (.slice none 0 0) (.slice none 0 0),.bool false]) (by simp [results,Tryz.f39,go_sem,k0,k1,k2,k3,k4,k5,k6,k7,k8,k9,k10,k11,k12,k13,k14,mbrV,mbr0,plan0]) rfl ?_
   exact⟨.slice none 0 0,.slice none 0 0,by rw [<- HF.out];rfl,by rw [<- HF.out];exact Sl.nil _ _ (by omega),by rw [<- HF.out];exact Sl.nil _ _ (by omega),hb⟩
  | cons x post =>
   obtain⟨b,o,A1,c1,A2,c2,rfl,-,hs1,hs2,hc⟩:=HAT.out pre post x hl
   obtain⟨k0,k1,k2,k3,k4,k5,k6,k7,k8,k9,k10,k11,k12,k13,k14⟩:=mbr_c15 (fun j u hj=>hxw.cell (hc j u hj))
   have hlt:pre.length < l.length:=by rw [hl];simp
   have hlt2:(pre.length:Int) < l.length:=by omega
   have HL:=Lib.hid hl
   by_cases hp:x.path=p
   ·have HF:=Lib.hid (show some x=K by rw [<- HK.out];unfold findP;rw [hl,List.find?_append,List.find?_eq_none.2 (fun y hy=>by simpa using hpre y hy)];simp [hp])
    have e0:(x.path == p)=true:=by simpa using hp
    have HS:=Lib.hid (And.intro hs1 hs2)
    clear hl hpre hs1 hs2 hc hp r0 hx0 hx
    obtain⟨j0,j1,j2,j3,j4,j5,j6,j7,j8,j9,j10,j11,j12,j13,j14⟩:=rr.c15
    obtain⟨f0,f1,f2,f3,f4,f5,f6,f7,f8,f9,f10,f11,f12,f13,f14⟩:=rr.f15
    go_wp2_with fail
    clear k0 k1 k2 k3 k4 k5 k6 k7 k8 k9 k10 k11 k12 k13 k14 j0 j1 j2 j3 j4 j5 j6 j7 j8 j9 j10 j11 j12 j13 j14 f0 f1 f2 f3 f4 f5 f6 f7 f8 f9 f10 f11 f12 f13 f14
    (try simp only [Exit.inBlock,Exit.then])
    change bodyPost Tryz.prog Tryz.f39 _ Exit.ret _ (put15z wr w.heap.size (St x.path) (U8 x.status) (I x.kids) (I x.cut) (U x.last) (.slice A1 x.gone.length c1) (St x.plan.keeper) (U x.plan.round) (St x.plan.live) (St x.plan.by_) (U x.plan.cap) (St x.plan.owner) (U x.plan.base) (.bool x.plan.done) (.slice A2 x.words.length c2))
    rw [put15z_eq]
    have r:=put15_mid (W:=wr) (g:=w.heap.size) [] [] rr (a0:=St x.path) (a1:=U8 x.status) (a2:=I x.kids) (a3:=I x.cut) (a4:=U x.last) (a5:=.slice A1 x.gone.length c1) (a6:=St x.plan.keeper) (a7:=U x.plan.round) (a8:=St x.plan.live) (a9:=St x.plan.by_) (a10:=U x.plan.cap) (a11:=St x.plan.owner) (a12:=U x.plan.base) (a13:=.bool x.plan.done) (a14:=.slice A2 x.words.length c2)
    have hb:=put15_below (g:=w.heap.size) (o:=0) (a0:=St x.path) (a1:=U8 x.status) (a2:=I x.kids) (a3:=I x.cut) (a4:=U x.last) (a5:=.slice A1 x.gone.length c1) (a6:=St x.plan.keeper) (a7:=U x.plan.round) (a8:=St x.plan.live) (a9:=St x.plan.by_) (a10:=U x.plan.cap) (a11:=St x.plan.owner) (a12:=U x.plan.base) (a13:=.bool x.plan.done) (a14:=.slice A2 x.words.length c2) hxw (Nat.le_refl _)
    simp only [List.nil_append,List.append_nil,List.length_nil] at r
    generalize put15 wr w.heap.size 0 (St x.path) (U8 x.status) (I x.kids) (I x.cut) (U x.last) (.slice A1 x.gone.length c1) (St x.plan.keeper) (U x.plan.round) (St x.plan.live) (St x.plan.by_) (U x.plan.cap) (St x.plan.owner) (U x.plan.base) (.bool x.plan.done) (.slice A2 x.words.length c2)=W5 at *
    obtain⟨k0,k1,k2,k3,k4,k5,k6,k7,k8,k9,k10,k11,k12,k13,k14⟩:=r.c15
    refine bodyPost_ret (v:=.tuple #[mbrV x (.slice A1 x.gone.length c1) (.slice A2 x.words.length c2),.bool true]) (by simp [results,Tryz.f39,go_sem,k0,k1,k2,k3,k4,k5,k6,k7,k8,k9,k10,k11,k12,k13,k14,mbrV,mbr0,plan0]) rfl ?_
    exact⟨.slice A1 x.gone.length c1,.slice A2 x.words.length c2,by rw [<- HF.out];rfl,by rw [<- HF.out];exact HS.out.1.ext (by decide) hb,by rw [<- HF.out];exact HS.out.2.ext (by decide) hb,hb⟩
   ·have e0:(x.path == p)=false:=by simpa using hp
    have HPR:=Lib.hid hpre
    have HPN:=Lib.hid hp
    have HX:=Lib.hid hx
    clear hl hpre hs1 hs2 hc hp hx rr hxw
    go_wp2_with fail
    go_roundw
    case rel=>exact⟨pre++[x],post,by rw [HL.out];simp,by simp,fun u hu=>by
     rcases List.mem_append.1 hu with h | h
     ·exact HPR.out u h
     ·rw [List.mem_singleton.1 h];exact HPN.out,HX.out⟩
    case measure=>simp [intOf];omega
theorem refInS_any {S:Nat->Prop} {v:Value} {l:List Span} {w:World} (hv:Sl spanT w S v l) (n:Int):Calls Tryz.prog 80 #[v,I n] w fun e w'=>e=.returned (.bool (withinL l n))/\w'=w:=by
 have hv':=hv
 obtain⟨A,c,rfl,hc1,hc2⟩:=hv.form
 have HAT:=Lib.hid (fun (pre post:List Span) (m:Span) (hl:l=pre++m :: post)=>span_at hv' (Ext.refl w) hl)
 obtain⟨K,hK⟩:∃ K,withinL l n=K:=⟨_,rfl⟩
 rw [hK]
 have HK:=Lib.hid hK
 clear hv hv' hK
 unfold withinL at HK
 go_enter Tryz.func80,Tryz.ntmps80
 go_wp2_with fail
 go_loopw [5] (fun i wr=>∃ pre post,l=pre++post/\i=I pre.length/\(∀ s ∈ pre,inS n s=false)/\wr=w) (fun i _=>l.length - (intOf i).toNat)
 case atStart=>exact⟨[],l,rfl,rfl,by simp,rfl⟩
 case round =>
  obtain⟨pre,post,hl,rfl,hpre,rfl⟩:=hrel
  cases post with
  | nil =>
   rw [List.append_nil] at hl
   subst hl
   have HF:=Lib.hid (show false=K by rw [<- HK.out];symm;rw [List.any_eq_false];intro s hs;rw [hpre s hs];simp)
   have d1:¬ (l.length:Int) < l.length:=by omega
   clear hpre
   go_wp2_with fail
   go_ret
   exact⟨by rw [<- HF.out];rfl,rfl⟩
  | cons s post =>
   obtain⟨b,o,rfl,k0,k1⟩:=HAT.out pre post s hl
   have hlt:pre.length < l.length:=by rw [hl];simp
   have hlt2:(pre.length:Int) < l.length:=by omega
   have HL:=Lib.hid hl
   have HPR:=Lib.hid hpre
   have HT:=Lib.hid (show inS n s=true->true=K from fun h=>by rw [<- HK.out,hl,List.any_append,List.any_cons,h];simp)
   have HN:=Lib.hid (show inS n s=false->∀ u ∈ pre++[s],inS n u=false from fun h u hu=>by
    rcases List.mem_append.1 hu with h1 | h1
    ·exact hpre u h1
    ·rw [List.mem_singleton.1 h1];exact h)
   clear hl hpre
   by_cases t1:n ≥ s.1
   case neg =>
    have HF:=Lib.hid (HN.out (by unfold inS;rw [decide_eq_false (by omega)];rfl))
    go_wp2_with fail
    go_roundw
    case rel=>exact⟨pre++[s],post,by rw [HL.out];simp,by simp,HF.out,trivial⟩
    case measure=>simp [intOf];omega
   by_cases t2:n < s.2
   case neg =>
    have HF:=Lib.hid (HN.out (by unfold inS;rw [decide_eq_false t2];simp))
    go_wp2_with fail
    go_roundw
    case rel=>exact⟨pre++[s],post,by rw [HL.out];simp,by simp,HF.out,trivial⟩
    case measure=>simp [intOf];omega
   have HF:=Lib.hid (HT.out (by unfold inS;rw [decide_eq_true t2,decide_eq_true (show s.1<=n by omega)];rfl))
   go_wp2_with fail
   go_ret
   exact⟨by rw [<- HF.out];rfl,rfl⟩
end
end Go.Proofs.YtblkikjmocnllaaGreatDoor
