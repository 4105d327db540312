/- Laws. -/
import Derived.Test.YtblkikjmocnllaaGreatDoorQz21
import Derived.Test.YtblkikjmocnllaaGreatDoorQz25
import Derived.Test.YtblkikjmocnllaaGreatDoorQz15
import Derived.Test.YtblkikjmocnllaaGreatDoorQz18
import Derived.Test.YtblkikjmocnllaaGreatDoorQz24
import Derived.Test.YtblkikjmocnllaaGreatDoorQz22
set_option linter.unusedVariables false
set_option linter.unusedSimpArgs false
set_option maxRecDepth 100000
set_option maxHeartbeats 40000000
namespace Go.Proofs.YtblkikjmocnllaaGreatDoor
section
open Go.RowKit Go.Shelf
theorem at_find:∀ (l:List Mbr) (p:Str),atP l p=findP l p:=by
 intro l p
 unfold atP idxP findP
 induction l with
 | nil=>rfl
 | cons x l ih =>
  rw [List.findIdx?_cons,List.find?_cons]
  by_cases h:x.path=p
  ·simp [h]
  ·simp only [h,decide_false]
   rw [<- ih]
   simp only [Bool.false_eq_true,if_false]
   cases List.findIdx? (fun m=>decide (m.path=p)) l <;> simp
theorem mayP_par {p:Str} (h:mayP p=true):parP p = [] ∨ mayP (parP p)=true:=by
 by_cases h2:2<=deepP p
 ·right
  unfold mayP
  rw [parP_deep]
  simp;omega
 ·left
  unfold parP
  rw [if_pos (by omega)]
theorem mayP_ne {p:Str} (h:mayP p=true):p ≠ []:=by
 rintro rfl
 unfold mayP deepP at h
 rw [splitP_nil] at h
 simp at h
theorem refForgot_any {S:Nat->Prop} {v:Value} {l:List Mbr} {w:World} (hv:Sl mbrT w S v l) (p:Str) (hm:mayP p=true) (hl:p.length < 4611686018427387904) :
  Calls Tryz.prog 30 #[v,St p] w fun e w'=>e=.returned (.bool (forgottenM l p))/\Ext w w':=by
 obtain⟨K,hK⟩:∃ K,forgottenM l p=K:=⟨_,rfl⟩
 rw [hK]
 have HK:=Lib.hid (show (restC p).any (goneAt l)=K by
  rw [<- hK]
  unfold forgottenM restC
  rw [hm,if_neg (mayP_ne hm)]
  rfl)
 have hv':=hv
 obtain⟨A,c,rfl,-,-⟩:=hv.form
 have HOF:=Lib.hid (fun W (he:Ext w W) q=>refOf_any (hv'.ext (by decide) he) q)
 have HMY:=Lib.hid (fun (q:Str) (h:mayP q=true) (h2:q.length<=p.length) W=>refMay_any h (by omega) W)
 have HPA:=Lib.hid (fun (q:Str) (h:mayP q=true) (h2:q.length<=p.length) W=>refParent_any h (by omega) W)
 have HNU:=Lib.hid (fun (q:Str) (h:mayP q=true) (h2:q.length<=p.length) W=>refNumber_any h (by omega) W)
 have HP:=Lib.hid hm
 clear hv hv' hK hm
 go_enter Tryz.func30,Tryz.ntmps30
 go_wp2_with fail
 go_loopw [5] (fun s wr=>∃ q:Str,s=St q/\Hid (q = [] ∨ mayP q=true)/\q.length<=p.length/\Hid ((restC q).any (goneAt l)=K)/\Ext w wr) (fun s _=>(match s with | .string b=>b.size | _=>0))
 case atStart=>exact⟨p,rfl,Lib.hid (.inr HP.out),Nat.le_refl _,Lib.hid HK.out,Ext.refl _⟩
 case round =>
  obtain⟨q,rfl,hq,hql,hk,hx⟩:=hrel
  rcases hq.out with rfl | hmq
  ·have HF:=Lib.hid (show false=K from hk.out)
   clear hk hq
   go_wp2_with fail
   go_ret
   exact⟨by rw [<- HF.out];rfl,hx⟩
  ·have hne:=mayP_ne hmq
   have e0:q.isEmpty=false:=by simpa using hne
   have HM:=Lib.hid (HMY.out q hmq hql)
   have HPQ:=Lib.hid (HPA.out q hmq hql)
   have HNQ:=Lib.hid (HNU.out q hmq hql)
   have HST:=Lib.hid (show (goneAt l q || (restC (parP q)).any (goneAt l))=K by
    have hr:restC q=q :: chainP q:=by unfold restC;rw [if_neg hne]
    rw [<- hk.out,hr,List.any_cons,chainP_rest])
   have HNX:=Lib.hid (mayP_par hmq)
   have hps:=parP_short hne
   have HLS:=Lib.hid (show (parP q).length < q.length from hps)
   have HX:=Lib.hid hx
   clear hk hq hne hmq hps hx
   go_wp2_with fail
   refine (HM.out _).mono ?_
   rintro e w1 ⟨rfl,hx1⟩
   go_wp2_with fail
   refine (HPQ.out _).mono ?_
   rintro e w2 ⟨rfl,hx2⟩
   have HX2:=Lib.hid ((HX.out.trans hx1).trans hx2)
   clear hx1 hx2
   go_wp2_with fail
   refine (HOF.out _ HX2.out _).mono ?_
   rintro e w3 ⟨u1,u2,rfl,hs1,hs2,hx3⟩
   have HX3:=Lib.hid (HX2.out.trans hx3)
   obtain⟨B1,d1,rfl,-,-⟩:=hs1.form
   obtain⟨B2,d2,rfl,-,-⟩:=hs2.form
   have HGA:=Lib.hid (show goneAt l q=match findP l (parP q) with | some x=>withinL x.gone (numP q) | none=>false by
    have h:=at_find l (parP q)
    unfold atP at h
    unfold goneAt
    rw [h]
    cases findP l (parP q) <;> rfl)
   clear hs2 hx3
   rcases hf:findP l (parP q) with _ | x
   ·rw [hf] at HGA hs1
    simp only [Option.getD_none,Option.isSome_none] at hs1 ⊢
    have HF:=Lib.hid (show (restC (parP q)).any (goneAt l)=K by rw [<- HST.out,HGA.out];rfl)
    generalize parP q=pq at *
    obtain⟨x,hx0⟩:∃ x,mbr0=x:=⟨_,rfl⟩
    rw [hx0] at hs1 ⊢
    generalize hg1:x.gone.length=g1
    generalize hg2:x.words.length=g2
    have hxa:=(Ext.refl w3).alloc (.cells #[St x.path,U8 x.status,I x.kids,I x.cut,U x.last,.slice B1 g1 d1,St x.plan.keeper,U x.plan.round,St x.plan.live,St x.plan.by_,U x.plan.cap,St x.plan.owner,U x.plan.base,.bool x.plan.done,.slice B2 g2 d2] 48)
    have HXA:=Lib.hid (HX3.out.trans hxa)
    unfold mbrV
    clear hf hs1 hx0 hg1 hg2 HGA HST hxa
    go_wp2_with fail
    go_quiet (fail)
    go_wp2_with fail
    refine (HPQ.out _).mono ?_
    rintro e w5 ⟨rfl,hx5⟩
    go_wp2_with fail
    go_roundw
    case rel=>exact⟨pq,rfl,Lib.hid HNX.out,by have:=HLS.out;omega,Lib.hid HF.out,(HXA.out.drewN _).trans hx5⟩
    case measure=>have:=HLS.out;simpa [ByteArray.size] using this
   ·rw [hf] at HGA hs1
    simp only [Option.getD_some,Option.isSome_some] at hs1 ⊢
    obtain⟨g1,hg1⟩:∃ g1,x.gone.length=g1:=⟨_,rfl⟩
    obtain⟨g2,hg2⟩:∃ g2,x.words.length=g2:=⟨_,rfl⟩
    rw [hg1,hg2]
    have hxa:=(Ext.refl w3).alloc (.cells #[St x.path,U8 x.status,I x.kids,I x.cut,U x.last,.slice B1 g1 d1,St x.plan.keeper,U x.plan.round,St x.plan.live,St x.plan.by_,U x.plan.cap,St x.plan.owner,U x.plan.base,.bool x.plan.done,.slice B2 g2 d2] 48)
    have k5:=(rowNew w3 48 [St x.path,U8 x.status,I x.kids,I x.cut,U x.last,.slice B1 g1 d1,St x.plan.keeper,U x.plan.round,St x.plan.live,St x.plan.by_,U x.plan.cap,St x.plan.owner,U x.plan.base,.bool x.plan.done,.slice B2 g2 d2]).cell (j:=5) rfl
    have HXA:=Lib.hid (HX3.out.trans hxa)
    have hs1':=hs1.ext (by decide) hxa
    rw [hg1] at hs1'
    have HIN:=Lib.hid (fun W (he:Ext (w3.alloc (.cells #[St x.path,U8 x.status,I x.kids,I x.cut,U x.last,.slice B1 g1 d1,St x.plan.keeper,U x.plan.round,St x.plan.live,St x.plan.by_,U x.plan.cap,St x.plan.owner,U x.plan.base,.bool x.plan.done,.slice B2 g2 d2] 48)) W)=>(refInS_any (hs1'.ext (by decide) he) (numP q:Int)).mono (R':=fun e w'=>e=.returned (.bool (withinL x.gone (numP q)))/\Ext W w') (by rintro e w' ⟨rfl,rfl⟩;exact⟨rfl,Ext.refl _⟩))
    have HGB:=Lib.hid (show goneAt l q=withinL x.gone (numP q) from HGA.out)
    generalize withinL x.gone (numP q)=bb at HIN HGB
    generalize (numP q:Int)=np at *
    generalize parP q=pq at *
    unfold mbrV
    clear hf hs1 hs1' hg1 hg2 HGA hxa
    go_wp2_with fail
    generalize w3.alloc (.cells #[St x.path,U8 x.status,I x.kids,I x.cut,U x.last,.slice B1 g1 d1,St x.plan.keeper,U x.plan.round,St x.plan.live,St x.plan.by_,U x.plan.cap,St x.plan.owner,U x.plan.base,.bool x.plan.done,.slice B2 g2 d2] 48)=W3 at *
    generalize w3.heap.size=gm at *
    go_region_held3 (fun W=>W.cell? ⟨gm,5,none⟩=some (.slice B1 g1 d1)/\Ext W3 W) (first | exact⟨k5,(Ext.refl _).drew⟩ | exact⟨hb1.cell ‹_/\Ext W3 _›.1,‹_/\Ext W3 _›.2.trans hb1⟩) (first | (go_at_call 81;refine (HNQ.out _).mono ?_;rintro e w6 ⟨rfl,hb1⟩) | (go_at_call 80;refine (HIN.out _ ‹_/\Ext W3 _›.2).mono ?_;rintro e w6 ⟨rfl,hb1⟩))
    have hX:=(‹_/\Ext W3 _›).2
    cases bb with
    | true =>
     have HF:=Lib.hid (show true=K by rw [<- HST.out,HGB.out];rfl)
     go_wp2_with fail
     go_ret
     exact⟨by rw [<- HF.out];rfl,HXA.out.trans hX⟩
    | false =>
     have HF:=Lib.hid (show (restC pq).any (goneAt l)=K by rw [<- HST.out,HGB.out];rfl)
     go_wp2_with fail
     refine (HPQ.out _).mono ?_
     rintro e w5 ⟨rfl,hx5⟩
     go_wp2_with fail
     go_roundw
     case rel=>exact⟨pq,rfl,Lib.hid HNX.out,by have:=HLS.out;omega,Lib.hid HF.out,(HXA.out.trans hX).trans hx5⟩
     case measure=>have:=HLS.out;simpa [ByteArray.size] using this
theorem rnum_any (a b:Nat) (w:World):Calls Tryz.prog 152 #[U a,U b] w fun e w'=>e=.returned (I (cmpN a b))/\w'=w:=by
 by_cases h1:a < b
 ·have h1':(a:Int) < b:=by omega
  rw [show cmpN a b = -1 by unfold cmpN;rw [if_pos h1]]
  go_enter Tryz.func152,Tryz.ntmps152
  go_wp2_with fail
  go_ret
  exact⟨rfl,rfl⟩
 ·have h1':¬ (a:Int) < b:=by omega
  by_cases h2:b < a
  ·have h2':(a:Int) > b:=by omega
   rw [show cmpN a b=1 by unfold cmpN;rw [if_neg h1,if_pos h2]]
   go_enter Tryz.func152,Tryz.ntmps152
   go_wp2_with fail
   go_ret
   exact⟨rfl,rfl⟩
  ·have h2':¬ (a:Int) > b:=by omega
   rw [show cmpN a b=0 by unfold cmpN;rw [if_neg h1,if_neg h2]]
   go_enter Tryz.func152,Tryz.ntmps152
   go_wp2_with fail
   go_ret
   exact⟨rfl,rfl⟩
theorem rtext_any (a b:Str) (w:World):Calls Tryz.prog 153 #[St a,St b] w fun e w'=>e=.returned (I (cmpS a b))/\w'=w:=by
 rcases str_cases a b with ⟨h1,h2,h3,h4,h5⟩ | rfl | ⟨h1,h2,h3,h4,h5⟩
 ·rw [show cmpS a b = -1 by unfold cmpS;rw [h1];rfl]
  have h1:Op.bytesLess a b=true:=h1
  clear h5
  go_enter Tryz.func153,Tryz.ntmps153
  go_wp2_with fail
  go_ret
  exact⟨rfl,rfl⟩
 ·rw [show cmpS a a=0 by unfold cmpS;rw [ltS_irrefl];simp]
  have h1:Op.bytesLess a a=false:=ltS_irrefl a
  go_enter Tryz.func153,Tryz.ntmps153
  go_wp2_with fail
  go_ret
  exact⟨rfl,rfl⟩
 ·rw [show cmpS a b=1 by unfold cmpS;rw [h1,h3];rfl]
  have h1:Op.bytesLess a b=false:=h1
  have h2:Op.bytesLess b a=true:=h2
  clear h5
  go_enter Tryz.func153,Tryz.ntmps153
  go_wp2_with fail
  go_ret
  exact⟨rfl,rfl⟩
theorem firstL_at:∀ {l:List Int} {pre post:List Int} {x:Int},l=pre++x :: post->(∀ y ∈ pre,y=0)->firstL l=firstL (x :: post):=by
 rintro l pre post x rfl h
 exact firstL_skip h
theorem firstL_all {l:List Int} (h:∀ y ∈ l,y=0):firstL l=0:=by have:=firstL_skip (b:=[]) h;rw [List.append_nil] at this;rw [this];rfl
theorem rfirst_any {g c T:Nat} {l:List Int} {w:World} (hr:RowIs w g T (l.map I) []) (hl:l.length<=1000):Calls Tryz.prog 150 #[.slice (some ⟨g,0,none⟩) l.length c] w fun e w'=>e=.returned (I (firstL l))/\w'=w:=by
 have HR:=Lib.hid hr
 obtain⟨K,hK⟩:∃ K,firstL l=K:=⟨_,rfl⟩
 have HK:=Lib.hid hK
 rw [hK]
 clear hr hK
 go_enter Tryz.func150,Tryz.ntmps150
 go_wp2_with fail
 go_loopw [3] (fun i wr=>∃ pre post,Hid (l=pre++post)/\Hid (∀ y ∈ pre,y=0)/\i=I pre.length/\wr=w) (fun i _=>l.length - (intOf i).toNat)
 case atStart=>exact⟨[],l,Lib.hid rfl,Lib.hid (by simp),rfl,rfl⟩
 case round =>
  obtain⟨pre,post,hl2,hz,rfl,rfl⟩:=hrel
  have hll:l.length=pre.length+post.length:=by rw [hl2.out];simp
  cases post with
  | nil =>
   have d1:¬ (pre.length:Int) < l.length:=by simp at hll;omega
   have HF:=Lib.hid (show K=0 by rw [<- HK.out];exact firstL_all (by rw [hl2.out,List.append_nil];exact hz.out))
   clear hll
   go_wp2_with fail
   go_ret
   exact⟨by rw [HF.out];rfl,rfl⟩
  | cons x post =>
   have d1:(pre.length:Int) < l.length:=by simp at hll;omega
   have k1:=HR.out.cell (j:=pre.length) (u:=I x) (by rw [hl2.out,List.map_append,List.getElem?_append_right (by simp)];simp)
   clear hll
   by_cases hx:x=0
   ·have q1:(x != 0)=false:=by simpa using hx
    have HDS:Hid (∀ y ∈ pre++[x],y=0):=Lib.hid fun y hy=>(List.mem_append.1 hy).elim (fun h=>hz.out y h) (fun h=>by rw [List.mem_singleton.1 h];exact hx)
    clear hx
    go_wp2_with fail
    go_roundw
    case rel=>exact⟨pre++[x],post,Lib.hid (by rw [hl2.out];simp),HDS,by simp,trivial⟩
    case measure=>simp [intOf];omega
   ·have q1:(x != 0)=true:=by simpa using hx
    have q1':(x == 0)=false:=by simpa using hx
    have HF:=Lib.hid (show K=x by rw [<- HK.out,firstL_at hl2.out hz.out];unfold firstL;rw [if_neg hx])
    clear hx
    go_wp2_with fail
    go_ret
    exact⟨by rw [HF.out];rfl,rfl⟩
theorem higher_deep (a b:Str):higherM a b=if deepP a=deepP b then 0 else if deepP a=0 ∨ (deepP b ≠ 0/\deepP b < deepP a) then -1 else 1:=by
 have h1:deepP a<=8:=splitP_len a
 have h2:deepP b<=8:=splitP_len b
 have r:∀ p:Str,rankP p=if 0 < deepP p then 9 - (deepP p:Int) else 0:=fun p=>by unfold rankP mayP;simp
 unfold higherM cmpI
 rw [r,r]
 generalize deepP a=x at *
 generalize deepP b=y at *
 clear r
 (repeat' split) <;> omega
theorem rkeeper_any (a b:Str) (ha:a.length < 1073741824) (hb:b.length < 1073741824) (w:World):Calls Tryz.prog 151 #[St a,St b] w fun e w'=>e=.returned (I (higherM a b))/\Ext w w':=by
 have HA:=Lib.hid (fun W=>refDeepB_any a ha W)
 have HB:=Lib.hid (fun W=>refDeepB_any b hb W)
 rw [higher_deep]
 have h1:deepP a<=8:=splitP_len a
 have h2:deepP b<=8:=splitP_len b
 generalize deepP a=x at *
 generalize deepP b=y at *
 generalize hKK:(if x=y then (0:Int) else if x=0 ∨ (y ≠ 0/\y < x) then -1 else 1)=K at *
 have HKK:=Lib.hid hKK
 clear hKK
 by_cases e1:x=y
 ·have q1:((x:Int) == y)=true:=by rw [beq_iff_eq];omega
  have hk:(0:Int)=K:=by rw [<- HKK.out,if_pos e1]
  subst hk
  clear HKK e1
  go_enter Tryz.func151,Tryz.ntmps151
  go_wp2_with fail
  refine (HA.out _).mono ?_
  rintro e w1 ⟨rfl,hx1⟩
  go_wp2_with fail
  refine (HB.out _).mono ?_
  rintro e w2 ⟨rfl,hx2⟩
  go_wp2_with fail
  go_ret
  exact⟨rfl,hx1.trans hx2⟩
 ·have q1:((x:Int) == y)=false:=by rw [beq_eq_false_iff_ne];omega
  by_cases e2:x=0
  ·have q2:((x:Int) == 0)=true:=by simpa using e2
   have hk:(-1:Int)=K:=by rw [<- HKK.out,if_neg e1,if_pos (.inl e2)]
   subst hk
   clear HKK e1 e2
   go_enter Tryz.func151,Tryz.ntmps151
   go_wp2_with fail
   refine (HA.out _).mono ?_
   rintro e w1 ⟨rfl,hx1⟩
   go_wp2_with fail
   refine (HB.out _).mono ?_
   rintro e w2 ⟨rfl,hx2⟩
   go_wp2_with fail
   go_ret
   exact⟨rfl,hx1.trans hx2⟩
  ·have q2:((x:Int) == 0)=false:=by rw [beq_eq_false_iff_ne];omega
   by_cases e3:y=0
   ·have q3:((y:Int) != 0)=false:=by simpa using e3
    have hk:(1:Int)=K:=by rw [<- HKK.out,if_neg e1,if_neg (by omega)]
    subst hk
    clear HKK e1 e2 e3
    go_enter Tryz.func151,Tryz.ntmps151
    go_wp2_with fail
    refine (HA.out _).mono ?_
    rintro e w1 ⟨rfl,hx1⟩
    go_wp2_with fail
    refine (HB.out _).mono ?_
    rintro e w2 ⟨rfl,hx2⟩
    go_wp2_with fail
    go_ret
    exact⟨rfl,hx1.trans hx2⟩
   ·have q3:((y:Int) != 0)=true:=by rw [bne_iff_ne];omega
    have q3':((y:Int) == 0)=false:=by rw [beq_eq_false_iff_ne];omega
    by_cases e4:y < x
    ·have q4:(x:Int) > y:=by omega
     have hk:(-1:Int)=K:=by rw [<- HKK.out,if_neg e1,if_pos (.inr ⟨e3,e4⟩)]
     subst hk
     clear HKK e1 e2 e3
     go_enter Tryz.func151,Tryz.ntmps151
     go_wp2_with fail
     refine (HA.out _).mono ?_
     rintro e w1 ⟨rfl,hx1⟩
     go_wp2_with fail
     refine (HB.out _).mono ?_
     rintro e w2 ⟨rfl,hx2⟩
     go_wp2_with fail
     go_ret
     exact⟨rfl,hx1.trans hx2⟩
    ·have q4:¬ (x:Int) > y:=by omega
     have hk:(1:Int)=K:=by rw [<- HKK.out,if_neg e1,if_neg (by omega)]
     subst hk
     clear HKK e1 e2 e3
     go_enter Tryz.func151,Tryz.ntmps151
     go_wp2_with fail
     refine (HA.out _).mono ?_
     rintro e w1 ⟨rfl,hx1⟩
     go_wp2_with fail
     refine (HB.out _).mono ?_
     rintro e w2 ⟨rfl,hx2⟩
     go_wp2_with fail
     go_ret
     exact⟨rfl,hx1.trans hx2⟩
theorem rcut_any (a b:Int) (ha:0<=a) (hb:0<=b) (w:World):Calls Tryz.prog 111 #[I a,I b] w fun e w'=>e=.returned (I (lesserM a b))/\w'=w:=by
 by_cases h1:a > 0
 ·by_cases h2:b<=0
  ·rw [show lesserM a b=a by unfold lesserM;split <;> omega]
   go_enter Tryz.func111,Tryz.ntmps111
   go_wp2_with fail
   go_ret
   exact⟨rfl,rfl⟩
  ·by_cases h3:a < b
   ·rw [show lesserM a b=a by unfold lesserM;split <;> omega]
    go_enter Tryz.func111,Tryz.ntmps111
    go_wp2_with fail
    go_ret
    exact⟨rfl,rfl⟩
   ·rw [show lesserM a b=b by unfold lesserM;split <;> omega]
    go_enter Tryz.func111,Tryz.ntmps111
    go_wp2_with fail
    go_ret
    exact⟨rfl,rfl⟩
 ·rw [show lesserM a b=b by unfold lesserM;split <;> omega]
  go_enter Tryz.func111,Tryz.ntmps111
  go_wp2_with fail
  go_ret
  exact⟨rfl,rfl⟩
theorem rlater_true (xk xl xb xo yk yl yb yo:Str) (xr xc xs yr yc ys:Nat) (w:World):Calls Tryz.prog 113 #[.agg #[St xk,U xr,St xl,St xb,U xc,St xo,U xs,.bool true],.agg #[St yk,U yr,St yl,St yb,U yc,St yo,U ys,.bool false]] w fun e w'=>e=.returned (.agg #[St xk,U xr,St xl,St xb,U xc,St xo,U xs,.bool true])/\Ext w w':=by
 have rX:=((rowNew w 45 [St xk,U xr,St xl,St xb,U xc,St xo,U xs,.bool true]).alloc (.cells #[St yk,U yr,St yl,St yb,U yc,St yo,U ys,.bool false] 45)).alloc (.cells #[St [],.int .u64 0,St [],St [],.int .u64 0,St [],.int .u64 0,.bool false] 45)
 have rY:=(rowNew (w.alloc (.cells #[St xk,U xr,St xl,St xb,U xc,St xo,U xs,.bool true] 45)) 45 [St yk,U yr,St yl,St yb,U yc,St yo,U ys,.bool false]).alloc (.cells #[St [],.int .u64 0,St [],St [],.int .u64 0,St [],.int .u64 0,.bool false] 45)
 have rZ:=rowNew ((w.alloc (.cells #[St xk,U xr,St xl,St xb,U xc,St xo,U xs,.bool true] 45)).alloc (.cells #[St yk,U yr,St yl,St yb,U yc,St yo,U ys,.bool false] 45)) 45 [St [],.int .u64 0,St [],St [],.int .u64 0,St [],.int .u64 0,.bool false]
 have xZ:=(((Ext.refl w).alloc (.cells #[St xk,U xr,St xl,St xb,U xc,St xo,U xs,.bool true] 45)).alloc (.cells #[St yk,U yr,St yl,St yb,U yc,St yo,U ys,.bool false] 45)).alloc (.cells #[St [],.int .u64 0,St [],St [],.int .u64 0,St [],.int .u64 0,.bool false] 45)
 simp only [World.size_alloc] at rY rZ
 obtain⟨⟨a0,a1,a2,a3⟩,a4,a5,a6,a7⟩:=rX.p8 rfl
 obtain⟨⟨b0,b1,b2,b3⟩,b4,b5,b6,b7⟩:=rY.p8 rfl
 obtain⟨⟨c0,c1,c2,c3⟩,c4,c5,c6,c7⟩:=rZ.p8 rfl
 obtain⟨⟨f0,f1,f2,f3⟩,f4,f5,f6,f7⟩:=rZ.f8
 have HZ:=Lib.hid (And.intro rZ xZ)
 clear rX rY rZ xZ
 go_enter Tryz.func113,Tryz.ntmps113
 go_upto_region 1 with fail
 generalize (((w.alloc (.cells #[St xk,U xr,St xl,St xb,U xc,St xo,U xs,.bool true] 45)).alloc (.cells #[St yk,U yr,St yl,St yb,U yc,St yo,U ys,.bool false] 45)).alloc (.cells #[St [],.int .u64 0,St [],St [],.int .u64 0,St [],.int .u64 0,.bool false] 45))=W2 at *
 go_wp2
 clear a0 a1 a2 a3 a4 a5 a6 a7 b0 b1 b2 b3 b4 b5 b6 b7 c0 c1 c2 c3 c4 c5 c6 c7 f0 f1 f2 f3 f4 f5 f6 f7
 have r9:=put8_row (a0:=St xk) (a1:=U xr) (a2:=St xl) (a3:=St xb) (a4:=U xc) (a5:=St xo) (a6:=U xs) (a7:=.bool true) HZ.out.1
 have x9:=put8_ext (g:=w.heap.size+1+1) (a0:=St xk) (a1:=U xr) (a2:=St xl) (a3:=St xb) (a4:=U xc) (a5:=St xo) (a6:=U xs) (a7:=.bool true) HZ.out.2 (by omega)
 change bodyPost _ _ _ _ _ (put8 W2 (w.heap.size+1+1) (St xk) (U xr) (St xl) (St xb) (U xc) (St xo) (U xs) (.bool true))
 generalize put8 W2 (w.heap.size+1+1) (St xk) (U xr) (St xl) (St xb) (U xc) (St xo) (U xs) (.bool true)=W9 at *
 obtain⟨⟨g0,g1,g2,g3⟩,g4,g5,g6,g7⟩:=r9.p8 rfl
 refine bodyPost_ret (v:=.agg #[St xk,U xr,St xl,St xb,U xc,St xo,U xs,.bool true]) (by simp [results,Tryz.f113,go_sem,g0,g1,g2,g3,g4,g5,g6,g7]) rfl ?_
 exact⟨rfl,x9⟩
theorem rlater_false (xk xl xb xo yk yl yb yo:Str) (xr xc xs yr yc ys:Nat) (w:World):Calls Tryz.prog 113 #[.agg #[St xk,U xr,St xl,St xb,U xc,St xo,U xs,.bool false],.agg #[St yk,U yr,St yl,St yb,U yc,St yo,U ys,.bool true]] w fun e w'=>e=.returned (.agg #[St yk,U yr,St yl,St yb,U yc,St yo,U ys,.bool true])/\Ext w w':=by
 have rX:=((rowNew w 45 [St xk,U xr,St xl,St xb,U xc,St xo,U xs,.bool false]).alloc (.cells #[St yk,U yr,St yl,St yb,U yc,St yo,U ys,.bool true] 45)).alloc (.cells #[St [],.int .u64 0,St [],St [],.int .u64 0,St [],.int .u64 0,.bool false] 45)
 have rY:=(rowNew (w.alloc (.cells #[St xk,U xr,St xl,St xb,U xc,St xo,U xs,.bool false] 45)) 45 [St yk,U yr,St yl,St yb,U yc,St yo,U ys,.bool true]).alloc (.cells #[St [],.int .u64 0,St [],St [],.int .u64 0,St [],.int .u64 0,.bool false] 45)
 have rZ:=rowNew ((w.alloc (.cells #[St xk,U xr,St xl,St xb,U xc,St xo,U xs,.bool false] 45)).alloc (.cells #[St yk,U yr,St yl,St yb,U yc,St yo,U ys,.bool true] 45)) 45 [St [],.int .u64 0,St [],St [],.int .u64 0,St [],.int .u64 0,.bool false]
 have xZ:=(((Ext.refl w).alloc (.cells #[St xk,U xr,St xl,St xb,U xc,St xo,U xs,.bool false] 45)).alloc (.cells #[St yk,U yr,St yl,St yb,U yc,St yo,U ys,.bool true] 45)).alloc (.cells #[St [],.int .u64 0,St [],St [],.int .u64 0,St [],.int .u64 0,.bool false] 45)
 simp only [World.size_alloc] at rY rZ
 obtain⟨⟨a0,a1,a2,a3⟩,a4,a5,a6,a7⟩:=rX.p8 rfl
 obtain⟨⟨b0,b1,b2,b3⟩,b4,b5,b6,b7⟩:=rY.p8 rfl
 obtain⟨⟨c0,c1,c2,c3⟩,c4,c5,c6,c7⟩:=rZ.p8 rfl
 obtain⟨⟨f0,f1,f2,f3⟩,f4,f5,f6,f7⟩:=rZ.f8
 have HZ:=Lib.hid (And.intro rZ xZ)
 clear rX rY rZ xZ
 go_enter Tryz.func113,Tryz.ntmps113
 go_upto_region 1 with fail
 generalize (((w.alloc (.cells #[St xk,U xr,St xl,St xb,U xc,St xo,U xs,.bool false] 45)).alloc (.cells #[St yk,U yr,St yl,St yb,U yc,St yo,U ys,.bool true] 45)).alloc (.cells #[St [],.int .u64 0,St [],St [],.int .u64 0,St [],.int .u64 0,.bool false] 45))=W2 at *
 go_wp2
 clear a0 a1 a2 a3 a4 a5 a6 a7 b0 b1 b2 b3 b4 b5 b6 b7 c0 c1 c2 c3 c4 c5 c6 c7 f0 f1 f2 f3 f4 f5 f6 f7
 have r9:=put8_row (a0:=St yk) (a1:=U yr) (a2:=St yl) (a3:=St yb) (a4:=U yc) (a5:=St yo) (a6:=U ys) (a7:=.bool true) HZ.out.1
 have x9:=put8_ext (g:=w.heap.size+1+1) (a0:=St yk) (a1:=U yr) (a2:=St yl) (a3:=St yb) (a4:=U yc) (a5:=St yo) (a6:=U ys) (a7:=.bool true) HZ.out.2 (by omega)
 change bodyPost _ _ _ _ _ (put8 W2 (w.heap.size+1+1) (St yk) (U yr) (St yl) (St yb) (U yc) (St yo) (U ys) (.bool true))
 generalize put8 W2 (w.heap.size+1+1) (St yk) (U yr) (St yl) (St yb) (U yc) (St yo) (U ys) (.bool true)=W9 at *
 obtain⟨⟨g0,g1,g2,g3⟩,g4,g5,g6,g7⟩:=r9.p8 rfl
 refine bodyPost_ret (v:=.agg #[St yk,U yr,St yl,St yb,U yc,St yo,U ys,.bool true]) (by simp [results,Tryz.f113,go_sem,g0,g1,g2,g3,g4,g5,g6,g7]) rfl ?_
 exact⟨rfl,x9⟩
theorem rlater_any (x y:Plan) (hx:x.keeper.length < 1073741824) (hy:y.keeper.length < 1073741824) (w:World):Calls Tryz.prog 113 #[planV x,planV y] w fun e w'=>e=.returned (planV (laterM x y))/\Ext w w':=by
 by_cases hd:x.done=y.done
 case neg =>
  obtain⟨xk,xr,xl,xb,xc,xo,xs,xd⟩:=x
  obtain⟨yk,yr,yl,yb,yc,yo,ys,yd⟩:=y
  cases xd <;> cases yd
  ·exact absurd rfl hd
  ·refine (rlater_false xk xl xb xo yk yl yb yo xr xc xs yr yc ys w).mono ?_
   rintro e w' ⟨rfl,h⟩
   exact⟨by unfold laterM laterL settledM;simp [firstL,cmpI,planV],h⟩
  ·refine (rlater_true xk xl xb xo yk yl yb yo xr xc xs yr yc ys w).mono ?_
   rintro e w' ⟨rfl,h⟩
   exact⟨by unfold laterM laterL settledM;simp [firstL,cmpI,planV],h⟩
  ·exact absurd rfl hd
 have rX:=((rowNew w 45 [St x.keeper,U x.round,St x.live,St x.by_,U x.cap,St x.owner,U x.base,.bool x.done]).alloc (.cells #[St y.keeper,U y.round,St y.live,St y.by_,U y.cap,St y.owner,U y.base,.bool y.done] 45)).alloc (.cells #[St [],.int .u64 0,St [],St [],.int .u64 0,St [],.int .u64 0,.bool false] 45)
 have rY:=(rowNew (w.alloc (.cells #[St x.keeper,U x.round,St x.live,St x.by_,U x.cap,St x.owner,U x.base,.bool x.done] 45)) 45 [St y.keeper,U y.round,St y.live,St y.by_,U y.cap,St y.owner,U y.base,.bool y.done]).alloc (.cells #[St [],.int .u64 0,St [],St [],.int .u64 0,St [],.int .u64 0,.bool false] 45)
 have rZ:=rowNew ((w.alloc (.cells #[St x.keeper,U x.round,St x.live,St x.by_,U x.cap,St x.owner,U x.base,.bool x.done] 45)).alloc (.cells #[St y.keeper,U y.round,St y.live,St y.by_,U y.cap,St y.owner,U y.base,.bool y.done] 45)) 45 [St [],.int .u64 0,St [],St [],.int .u64 0,St [],.int .u64 0,.bool false]
 have xZ:=(((Ext.refl w).alloc (.cells #[St x.keeper,U x.round,St x.live,St x.by_,U x.cap,St x.owner,U x.base,.bool x.done] 45)).alloc (.cells #[St y.keeper,U y.round,St y.live,St y.by_,U y.cap,St y.owner,U y.base,.bool y.done] 45)).alloc (.cells #[St [],.int .u64 0,St [],St [],.int .u64 0,St [],.int .u64 0,.bool false] 45)
 simp only [World.size_alloc] at rY rZ
 have HRW:=Lib.hid (And.intro rX (And.intro rY (And.intro rZ xZ)))
 have HCK:=Lib.hid (fun W=>rkeeper_any x.keeper y.keeper hx hy W)
 have HCP:=Lib.hid (fun W=>refCmp_any x.keeper y.keeper hx hy W)
 have HCN:=Lib.hid (fun a b W=>(rnum_any a b W).mono (R':=fun e w'=>e=.returned (I (cmpN a b))/\Ext W w') (by rintro e w' ⟨rfl,rfl⟩;exact⟨rfl,Ext.refl _⟩))
 have HCT:=Lib.hid (fun a b W=>(rtext_any a b W).mono (R':=fun e w'=>e=.returned (I (cmpS a b))/\Ext W w') (by rintro e w' ⟨rfl,rfl⟩;exact⟨rfl,Ext.refl _⟩))
 obtain⟨a0,a1,a2,a3⟩:=(rX.p8 rfl).1
 obtain⟨a4,a5,a6,a7⟩:=(rX.p8 rfl).2
 obtain⟨b0,b1,b2,b3⟩:=(rY.p8 rfl).1
 obtain⟨b4,b5,b6,b7⟩:=(rY.p8 rfl).2
 obtain⟨c0,c1,c2,c3⟩:=(rZ.p8 rfl).1
 obtain⟨c4,c5,c6,c7⟩:=(rZ.p8 rfl).2
 obtain⟨⟨f0,f1,f2,f3⟩,f4,f5,f6,f7⟩:=rZ.f8
 clear rX rY rZ xZ hx hy
 unfold planV
 case pos =>
  have q0:(x.done == y.done)=true:=by rw [hd];simp
  obtain⟨K,hK⟩:∃ K,firstL [higherM x.keeper y.keeper,cmpN x.round y.round,cmpPath x.keeper y.keeper,cmpS x.live y.live,cmpS x.by_ y.by_,cmpN x.cap y.cap,cmpS x.owner y.owner,cmpN x.base y.base]=K:=⟨_,rfl⟩
  have hres:laterM x y=if K < 0 then y else x:=by
   unfold laterM laterL
   rw [show settledM x=settledM y by unfold settledM;rw [hd],show cmpI (settledM y) (settledM y)=0 by unfold cmpI;simp]
   rw [show firstL (0 :: [higherM x.keeper y.keeper,cmpN x.round y.round,cmpPath x.keeper y.keeper,cmpS x.live y.live,cmpS x.by_ y.by_,cmpN x.cap y.cap,cmpS x.owner y.owner,cmpN x.base y.base])=firstL [higherM x.keeper y.keeper,cmpN x.round y.round,cmpPath x.keeper y.keeper,cmpS x.live y.live,cmpS x.by_ y.by_,cmpN x.cap y.cap,cmpS x.owner y.owner,cmpN x.base y.base] from by rw [firstL,if_pos rfl],hK]
  have HRS:=Lib.hid (And.intro hK hres)
  clear hK hres hd
  go_enter Tryz.func113,Tryz.ntmps113
  go_wp2_with fail
  generalize (((w.alloc (.cells #[St x.keeper,U x.round,St x.live,St x.by_,U x.cap,St x.owner,U x.base,.bool x.done] 45)).alloc (.cells #[St y.keeper,U y.round,St y.live,St y.by_,U y.cap,St y.owner,U y.base,.bool y.done] 45)).alloc (.cells #[St [],.int .u64 0,St [],St [],.int .u64 0,St [],.int .u64 0,.bool false] 45))=W2 at *
  clear a0 a1 a2 a3 a4 a5 a6 a7 b0 b1 b2 b3 b4 b5 b6 b7 c0 c1 c2 c3 c4 c5 c6 c7 f0 f1 f2 f3 f4 f5 f6 f7 q0
  refine wp_region_facts ((fun v _=>v=.pointer (some ⟨w.heap.size,0,none⟩)) :: (fun v _=>v=St x.keeper) :: (fun v _=>v=.pointer (some ⟨w.heap.size+1,0,none⟩)) :: (fun v _=>v=St y.keeper) :: (fun v _=>v=I (higherM x.keeper y.keeper)) :: (fun v _=>v=.pointer (some ⟨w.heap.size,1,none⟩)) :: (fun v _=>v=U x.round) :: (fun v _=>v=.pointer (some ⟨w.heap.size+1,1,none⟩)) :: (fun v _=>v=U y.round) :: (fun v _=>v=I (cmpN x.round y.round)) :: (fun v _=>v=.pointer (some ⟨w.heap.size,0,none⟩)) :: (fun v _=>v=St x.keeper) :: (fun v _=>v=.pointer (some ⟨w.heap.size+1,0,none⟩)) :: (fun v _=>v=St y.keeper) :: (fun v _=>v=I (cmpPath x.keeper y.keeper)) :: (fun v _=>v=.pointer (some ⟨w.heap.size,2,none⟩)) :: (fun v _=>v=St x.live) :: (fun v _=>v=.pointer (some ⟨w.heap.size+1,2,none⟩)) :: (fun v _=>v=St y.live) :: (fun v _=>v=I (cmpS x.live y.live)) :: (fun v _=>v=.pointer (some ⟨w.heap.size,3,none⟩)) :: (fun v _=>v=.pointer (some ⟨w.heap.size,3,none⟩)) :: (fun v _=>v=St x.by_) :: (fun v _=>v=.pointer (some ⟨w.heap.size+1,3,none⟩)) :: (fun v _=>v=.pointer (some ⟨w.heap.size+1,3,none⟩)) :: (fun v _=>v=St y.by_) :: (fun v _=>v=I (cmpS x.by_ y.by_)) :: (fun v _=>v=.pointer (some ⟨w.heap.size,3,none⟩)) :: (fun v _=>v=.pointer (some ⟨w.heap.size,4,none⟩)) :: (fun v _=>v=U x.cap) :: (fun v _=>v=.pointer (some ⟨w.heap.size+1,3,none⟩)) :: (fun v _=>v=.pointer (some ⟨w.heap.size+1,4,none⟩)) :: (fun v _=>v=U y.cap) :: (fun v _=>v=I (cmpN x.cap y.cap)) :: (fun v _=>v=.pointer (some ⟨w.heap.size,3,none⟩)) :: (fun v _=>v=.pointer (some ⟨w.heap.size,5,none⟩)) :: (fun v _=>v=St x.owner) :: (fun v _=>v=.pointer (some ⟨w.heap.size+1,3,none⟩)) :: (fun v _=>v=.pointer (some ⟨w.heap.size+1,5,none⟩)) :: (fun v _=>v=St y.owner) :: (fun v _=>v=I (cmpS x.owner y.owner)) :: (fun v _=>v=.pointer (some ⟨w.heap.size,3,none⟩)) :: (fun v _=>v=.pointer (some ⟨w.heap.size,6,none⟩)) :: (fun v _=>v=U x.base) :: (fun v _=>v=.pointer (some ⟨w.heap.size+1,3,none⟩)) :: (fun v _=>v=.pointer (some ⟨w.heap.size+1,6,none⟩)) :: (fun v _=>v=U y.base) :: (fun v _=>v=I (cmpN x.base y.base)) :: []) rfl (by kernel_rfl) ?hR ?hstep ?hend
  case hR =>
   simp only [List.mem_cons,List.not_mem_nil,or_false,forall_eq_or_imp,forall_eq]
   exact⟨fun v _ _ h _=>h,fun v _ _ h _=>h,fun v _ _ h _=>h,fun v _ _ h _=>h,fun v _ _ h _=>h,fun v _ _ h _=>h,fun v _ _ h _=>h,fun v _ _ h _=>h,fun v _ _ h _=>h,fun v _ _ h _=>h,fun v _ _ h _=>h,fun v _ _ h _=>h,fun v _ _ h _=>h,fun v _ _ h _=>h,fun v _ _ h _=>h,fun v _ _ h _=>h,fun v _ _ h _=>h,fun v _ _ h _=>h,fun v _ _ h _=>h,fun v _ _ h _=>h,fun v _ _ h _=>h,fun v _ _ h _=>h,fun v _ _ h _=>h,fun v _ _ h _=>h,fun v _ _ h _=>h,fun v _ _ h _=>h,fun v _ _ h _=>h,fun v _ _ h _=>h,fun v _ _ h _=>h,fun v _ _ h _=>h,fun v _ _ h _=>h,fun v _ _ h _=>h,fun v _ _ h _=>h,fun v _ _ h _=>h,fun v _ _ h _=>h,fun v _ _ h _=>h,fun v _ _ h _=>h,fun v _ _ h _=>h,fun v _ _ h _=>h,fun v _ _ h _=>h,fun v _ _ h _=>h,fun v _ _ h _=>h,fun v _ _ h _=>h,fun v _ _ h _=>h,fun v _ _ h _=>h,fun v _ _ h _=>h,fun v _ _ h _=>h,fun v _ _ h _=>h⟩
  case hstep =>
   simp only [List.length_cons,List.length_nil,Nat.reduceAdd,List.take_succ_cons,List.take_zero,stepsAll,and_true]
   refine ⟨?_,?_,?_,?_,?_,?_,?_,?_,?_,?_,?_,?_,?_,?_,?_,?_,?_,?_,?_,?_,?_,?_,?_,?_,?_,?_,?_,?_,?_,?_,?_,?_,?_,?_,?_,?_,?_,?_,?_,?_,?_,?_,?_,?_,?_,?_,?_,?_⟩
   ·intro z V he f
    have h0:z 2=.pointer (some ⟨w.heap.size,0,none⟩):=f.1
    clear f
    go_wp
    exact stepQ_ok rfl (Ext.refl _)
   ·intro z V he f
    have h0:z 15=.pointer (some ⟨w.heap.size,0,none⟩):=f.1
    have c:=(HRW.out.1.ext he).cell (j:=0) rfl
    clear f
    go_wp
    exact stepQ_ok rfl (Ext.refl _)
   ·intro z V he f
    have h0:z 3=.pointer (some ⟨w.heap.size+1,0,none⟩):=f.1
    clear f
    go_wp
    exact stepQ_ok rfl (Ext.refl _)
   ·intro z V he f
    have h0:z 17=.pointer (some ⟨w.heap.size+1,0,none⟩):=f.1
    have c:=(HRW.out.2.1.ext he).cell (j:=0) rfl
    clear f
    go_wp
    exact stepQ_ok rfl (Ext.refl _)
   ·intro z V he f
    have h0:z 16=St x.keeper:=f.1
    have h1:z 18=St y.keeper:=f.2.1
    clear f
    go_wp
    refine (HCK.out _).mono ?_
    rintro e w6 ⟨rfl,hb1⟩
    dsimp only
    go_wp
    refine stepQ_ok (v:=I (higherM x.keeper y.keeper)) ?_ hb1
    rfl
   ·intro z V he f
    have h0:z 2=.pointer (some ⟨w.heap.size,0,none⟩):=f.1
    clear f
    go_wp
    exact stepQ_ok rfl (Ext.refl _)
   ·intro z V he f
    have h0:z 20=.pointer (some ⟨w.heap.size,1,none⟩):=f.1
    have c:=(HRW.out.1.ext he).cell (j:=1) rfl
    clear f
    go_wp
    exact stepQ_ok rfl (Ext.refl _)
   ·intro z V he f
    have h0:z 3=.pointer (some ⟨w.heap.size+1,0,none⟩):=f.1
    clear f
    go_wp
    exact stepQ_ok rfl (Ext.refl _)
   ·intro z V he f
    have h0:z 22=.pointer (some ⟨w.heap.size+1,1,none⟩):=f.1
    have c:=(HRW.out.2.1.ext he).cell (j:=1) rfl
    clear f
    go_wp
    exact stepQ_ok rfl (Ext.refl _)
   ·intro z V he f
    have h0:z 21=U x.round:=f.1
    have h1:z 23=U y.round:=f.2.1
    clear f
    go_wp
    refine (HCN.out _ _ _).mono ?_
    rintro e w6 ⟨rfl,hb1⟩
    dsimp only
    go_wp
    refine stepQ_ok (v:=I (cmpN x.round y.round)) ?_ hb1
    rfl
   ·intro z V he f
    have h0:z 2=.pointer (some ⟨w.heap.size,0,none⟩):=f.1
    clear f
    go_wp
    exact stepQ_ok rfl (Ext.refl _)
   ·intro z V he f
    have h0:z 25=.pointer (some ⟨w.heap.size,0,none⟩):=f.1
    have c:=(HRW.out.1.ext he).cell (j:=0) rfl
    clear f
    go_wp
    exact stepQ_ok rfl (Ext.refl _)
   ·intro z V he f
    have h0:z 3=.pointer (some ⟨w.heap.size+1,0,none⟩):=f.1
    clear f
    go_wp
    exact stepQ_ok rfl (Ext.refl _)
   ·intro z V he f
    have h0:z 27=.pointer (some ⟨w.heap.size+1,0,none⟩):=f.1
    have c:=(HRW.out.2.1.ext he).cell (j:=0) rfl
    clear f
    go_wp
    exact stepQ_ok rfl (Ext.refl _)
   ·intro z V he f
    have h0:z 26=St x.keeper:=f.1
    have h1:z 28=St y.keeper:=f.2.1
    clear f
    go_wp
    refine (HCP.out _).mono ?_
    rintro e w6 ⟨rfl,hb1⟩
    dsimp only
    go_wp
    refine stepQ_ok (v:=I (cmpPath x.keeper y.keeper)) ?_ hb1
    rfl
   ·intro z V he f
    have h0:z 2=.pointer (some ⟨w.heap.size,0,none⟩):=f.1
    clear f
    go_wp
    exact stepQ_ok rfl (Ext.refl _)
   ·intro z V he f
    have h0:z 30=.pointer (some ⟨w.heap.size,2,none⟩):=f.1
    have c:=(HRW.out.1.ext he).cell (j:=2) rfl
    clear f
    go_wp
    exact stepQ_ok rfl (Ext.refl _)
   ·intro z V he f
    have h0:z 3=.pointer (some ⟨w.heap.size+1,0,none⟩):=f.1
    clear f
    go_wp
    exact stepQ_ok rfl (Ext.refl _)
   ·intro z V he f
    have h0:z 32=.pointer (some ⟨w.heap.size+1,2,none⟩):=f.1
    have c:=(HRW.out.2.1.ext he).cell (j:=2) rfl
    clear f
    go_wp
    exact stepQ_ok rfl (Ext.refl _)
   ·intro z V he f
    have h0:z 31=St x.live:=f.1
    have h1:z 33=St y.live:=f.2.1
    clear f
    go_wp
    refine (HCT.out _ _ _).mono ?_
    rintro e w6 ⟨rfl,hb1⟩
    dsimp only
    go_wp
    refine stepQ_ok (v:=I (cmpS x.live y.live)) ?_ hb1
    rfl
   ·intro z V he f
    have h0:z 2=.pointer (some ⟨w.heap.size,0,none⟩):=f.1
    clear f
    go_wp
    exact stepQ_ok rfl (Ext.refl _)
   ·intro z V he f
    have h0:z 35=.pointer (some ⟨w.heap.size,3,none⟩):=f.1
    clear f
    go_wp
    exact stepQ_ok rfl (Ext.refl _)
   ·intro z V he f
    have h0:z 36=.pointer (some ⟨w.heap.size,3,none⟩):=f.1
    have c:=(HRW.out.1.ext he).cell (j:=3) rfl
    clear f
    go_wp
    exact stepQ_ok rfl (Ext.refl _)
   ·intro z V he f
    have h0:z 3=.pointer (some ⟨w.heap.size+1,0,none⟩):=f.1
    clear f
    go_wp
    exact stepQ_ok rfl (Ext.refl _)
   ·intro z V he f
    have h0:z 38=.pointer (some ⟨w.heap.size+1,3,none⟩):=f.1
    clear f
    go_wp
    exact stepQ_ok rfl (Ext.refl _)
   ·intro z V he f
    have h0:z 39=.pointer (some ⟨w.heap.size+1,3,none⟩):=f.1
    have c:=(HRW.out.2.1.ext he).cell (j:=3) rfl
    clear f
    go_wp
    exact stepQ_ok rfl (Ext.refl _)
   ·intro z V he f
    have h0:z 37=St x.by_:=f.1
    have h1:z 40=St y.by_:=f.2.1
    clear f
    go_wp
    refine (HCT.out _ _ _).mono ?_
    rintro e w6 ⟨rfl,hb1⟩
    dsimp only
    go_wp
    refine stepQ_ok (v:=I (cmpS x.by_ y.by_)) ?_ hb1
    rfl
   ·intro z V he f
    have h0:z 2=.pointer (some ⟨w.heap.size,0,none⟩):=f.1
    clear f
    go_wp
    exact stepQ_ok rfl (Ext.refl _)
   ·intro z V he f
    have h0:z 42=.pointer (some ⟨w.heap.size,3,none⟩):=f.1
    clear f
    go_wp
    exact stepQ_ok rfl (Ext.refl _)
   ·intro z V he f
    have h0:z 43=.pointer (some ⟨w.heap.size,4,none⟩):=f.1
    have c:=(HRW.out.1.ext he).cell (j:=4) rfl
    clear f
    go_wp
    exact stepQ_ok rfl (Ext.refl _)
   ·intro z V he f
    have h0:z 3=.pointer (some ⟨w.heap.size+1,0,none⟩):=f.1
    clear f
    go_wp
    exact stepQ_ok rfl (Ext.refl _)
   ·intro z V he f
    have h0:z 45=.pointer (some ⟨w.heap.size+1,3,none⟩):=f.1
    clear f
    go_wp
    exact stepQ_ok rfl (Ext.refl _)
   ·intro z V he f
    have h0:z 46=.pointer (some ⟨w.heap.size+1,4,none⟩):=f.1
    have c:=(HRW.out.2.1.ext he).cell (j:=4) rfl
    clear f
    go_wp
    exact stepQ_ok rfl (Ext.refl _)
   ·intro z V he f
    have h0:z 44=U x.cap:=f.1
    have h1:z 47=U y.cap:=f.2.1
    clear f
    go_wp
    refine (HCN.out _ _ _).mono ?_
    rintro e w6 ⟨rfl,hb1⟩
    dsimp only
    go_wp
    refine stepQ_ok (v:=I (cmpN x.cap y.cap)) ?_ hb1
    rfl
   ·intro z V he f
    have h0:z 2=.pointer (some ⟨w.heap.size,0,none⟩):=f.1
    clear f
    go_wp
    exact stepQ_ok rfl (Ext.refl _)
   ·intro z V he f
    have h0:z 49=.pointer (some ⟨w.heap.size,3,none⟩):=f.1
    clear f
    go_wp
    exact stepQ_ok rfl (Ext.refl _)
   ·intro z V he f
    have h0:z 50=.pointer (some ⟨w.heap.size,5,none⟩):=f.1
    have c:=(HRW.out.1.ext he).cell (j:=5) rfl
    clear f
    go_wp
    exact stepQ_ok rfl (Ext.refl _)
   ·intro z V he f
    have h0:z 3=.pointer (some ⟨w.heap.size+1,0,none⟩):=f.1
    clear f
    go_wp
    exact stepQ_ok rfl (Ext.refl _)
   ·intro z V he f
    have h0:z 52=.pointer (some ⟨w.heap.size+1,3,none⟩):=f.1
    clear f
    go_wp
    exact stepQ_ok rfl (Ext.refl _)
   ·intro z V he f
    have h0:z 53=.pointer (some ⟨w.heap.size+1,5,none⟩):=f.1
    have c:=(HRW.out.2.1.ext he).cell (j:=5) rfl
    clear f
    go_wp
    exact stepQ_ok rfl (Ext.refl _)
   ·intro z V he f
    have h0:z 51=St x.owner:=f.1
    have h1:z 54=St y.owner:=f.2.1
    clear f
    go_wp
    refine (HCT.out _ _ _).mono ?_
    rintro e w6 ⟨rfl,hb1⟩
    dsimp only
    go_wp
    refine stepQ_ok (v:=I (cmpS x.owner y.owner)) ?_ hb1
    rfl
   ·intro z V he f
    have h0:z 2=.pointer (some ⟨w.heap.size,0,none⟩):=f.1
    clear f
    go_wp
    exact stepQ_ok rfl (Ext.refl _)
   ·intro z V he f
    have h0:z 56=.pointer (some ⟨w.heap.size,3,none⟩):=f.1
    clear f
    go_wp
    exact stepQ_ok rfl (Ext.refl _)
   ·intro z V he f
    have h0:z 57=.pointer (some ⟨w.heap.size,6,none⟩):=f.1
    have c:=(HRW.out.1.ext he).cell (j:=6) rfl
    clear f
    go_wp
    exact stepQ_ok rfl (Ext.refl _)
   ·intro z V he f
    have h0:z 3=.pointer (some ⟨w.heap.size+1,0,none⟩):=f.1
    clear f
    go_wp
    exact stepQ_ok rfl (Ext.refl _)
   ·intro z V he f
    have h0:z 59=.pointer (some ⟨w.heap.size+1,3,none⟩):=f.1
    clear f
    go_wp
    exact stepQ_ok rfl (Ext.refl _)
   ·intro z V he f
    have h0:z 60=.pointer (some ⟨w.heap.size+1,6,none⟩):=f.1
    have c:=(HRW.out.2.1.ext he).cell (j:=6) rfl
    clear f
    go_wp
    exact stepQ_ok rfl (Ext.refl _)
   ·intro z V he f
    have h0:z 58=U x.base:=f.1
    have h1:z 61=U y.base:=f.2.1
    clear f
    go_wp
    refine (HCN.out _ _ _).mono ?_
    rintro e w6 ⟨rfl,hb1⟩
    dsimp only
    go_wp
    refine stepQ_ok (v:=I (cmpN x.base y.base)) ?_ hb1
    rfl
  case hend =>
  intro z V he f
  have h19:z 19=I (higherM x.keeper y.keeper):=f.2.2.2.2.1
  have h24:z 24=I (cmpN x.round y.round):=f.2.2.2.2.2.2.2.2.2.1
  have h29:z 29=I (cmpPath x.keeper y.keeper):=f.2.2.2.2.2.2.2.2.2.2.2.2.2.2.1
  have h34:z 34=I (cmpS x.live y.live):=f.2.2.2.2.2.2.2.2.2.2.2.2.2.2.2.2.2.2.2.1
  have h41:z 41=I (cmpS x.by_ y.by_):=f.2.2.2.2.2.2.2.2.2.2.2.2.2.2.2.2.2.2.2.2.2.2.2.2.2.2.1
  have h48:z 48=I (cmpN x.cap y.cap):=f.2.2.2.2.2.2.2.2.2.2.2.2.2.2.2.2.2.2.2.2.2.2.2.2.2.2.2.2.2.2.2.2.2.1
  have h55:z 55=I (cmpS x.owner y.owner):=f.2.2.2.2.2.2.2.2.2.2.2.2.2.2.2.2.2.2.2.2.2.2.2.2.2.2.2.2.2.2.2.2.2.2.2.2.2.2.2.2.1
  have h62:z 62=I (cmpN x.base y.base):=f.2.2.2.2.2.2.2.2.2.2.2.2.2.2.2.2.2.2.2.2.2.2.2.2.2.2.2.2.2.2.2.2.2.2.2.2.2.2.2.2.2.2.2.2.2.2.2.1
  have HZ:=Lib.hid (And.intro (HRW.out.2.2.1.ext he) (HRW.out.2.2.2.trans he))
  have hrx:=HRW.out.1.ext he
  have hry:=HRW.out.2.1.ext he
  have HXY:=Lib.hid (And.intro hrx hry)
  clear hrx hry f
  simp only [List.length_cons,List.length_nil,Nat.reduceAdd,List.take_succ_cons,List.take_zero,List.filterMap_cons,List.filterMap_nil,List.drop_succ_cons,List.drop_zero,putAll,Act.put,List.setIfInBounds_toArray,List.set_cons_succ,List.set_cons_zero,h19,h24,h29,h34,h41,h48,h55,h62]
  clear h19 h24 h29 h34 h41 h48 h55 h62
  go_wp2_with fail
  have hr4:=rowNew V 3 [I (higherM x.keeper y.keeper),I (cmpN x.round y.round),I (cmpPath x.keeper y.keeper),I (cmpS x.live y.live),I (cmpS x.by_ y.by_),I (cmpN x.cap y.cap),I (cmpS x.owner y.owner),I (cmpN x.base y.base)]
  have hx4:=(Ext.refl V).alloc (.cells #[I (higherM x.keeper y.keeper),I (cmpN x.round y.round),I (cmpPath x.keeper y.keeper),I (cmpS x.live y.live),I (cmpS x.by_ y.by_),I (cmpN x.cap y.cap),I (cmpS x.owner y.owner),I (cmpN x.base y.base)] 3)
  have HF:=rfirst_any (c:=8) (l:=[higherM x.keeper y.keeper,cmpN x.round y.round,cmpPath x.keeper y.keeper,cmpS x.live y.live,cmpS x.by_ y.by_,cmpN x.cap y.cap,cmpS x.owner y.owner,cmpN x.base y.base]) hr4 (by simp)
  rw [HRS.out.1] at HF
  refine HF.mono ?_
  rintro e w6 ⟨rfl,hw6⟩
  obtain⟨WW,hWW⟩:∃ WW,WW=V.alloc (.cells #[I (higherM x.keeper y.keeper),I (cmpN x.round y.round),I (cmpPath x.keeper y.keeper),I (cmpS x.live y.live),I (cmpS x.by_ y.by_),I (cmpN x.cap y.cap),I (cmpS x.owner y.owner),I (cmpN x.base y.base)] 3):=⟨_,rfl⟩
  have hw7:w6=WW:=hw6.trans hWW.symm
  subst hw7
  rw [<- hWW] at hx4
  have HZ:=Lib.hid (And.intro (HZ.out.1.ext hx4) (HZ.out.2.trans hx4))
  have hrx:=HXY.out.1.ext hx4
  have hry:=HXY.out.2.ext hx4
  have hrz:=HZ.out.1
  clear hr4 hx4 HF hw6 hWW
  obtain⟨⟨a0,a1,a2,a3⟩,a4,a5,a6,a7⟩:=hrx.p8 rfl
  obtain⟨⟨b0,b1,b2,b3⟩,b4,b5,b6,b7⟩:=hry.p8 rfl
  obtain⟨⟨c0,c1,c2,c3⟩,c4,c5,c6,c7⟩:=hrz.p8 rfl
  obtain⟨⟨f0,f1,f2,f3⟩,f4,f5,f6,f7⟩:=hrz.f8
  clear hrx hry hrz
  by_cases hlt:K < 0
  ·have HK:=Lib.hid (HRS.out.2.trans (if_pos hlt))
   go_wp2
   clear a0 a1 a2 a3 a4 a5 a6 a7 b0 b1 b2 b3 b4 b5 b6 b7 c0 c1 c2 c3 c4 c5 c6 c7 f0 f1 f2 f3 f4 f5 f6 f7
   have r9:=put8_row (a0:=St y.keeper) (a1:=U y.round) (a2:=St y.live) (a3:=St y.by_) (a4:=U y.cap) (a5:=St y.owner) (a6:=U y.base) (a7:=.bool y.done) HZ.out.1
   have x9:=put8_ext (g:=w.heap.size+1+1) (a0:=St y.keeper) (a1:=U y.round) (a2:=St y.live) (a3:=St y.by_) (a4:=U y.cap) (a5:=St y.owner) (a6:=U y.base) (a7:=.bool y.done) HZ.out.2 (by omega)
   change bodyPost _ _ _ _ _ (put8 w6 (w.heap.size+1+1) (St y.keeper) (U y.round) (St y.live) (St y.by_) (U y.cap) (St y.owner) (U y.base) (.bool y.done))
   generalize put8 w6 (w.heap.size+1+1) (St y.keeper) (U y.round) (St y.live) (St y.by_) (U y.cap) (St y.owner) (U y.base) (.bool y.done)=W9 at *
   obtain⟨⟨g0,g1,g2,g3⟩,g4,g5,g6,g7⟩:=r9.p8 rfl
   refine bodyPost_ret (v:=planV y) (by simp [results,Tryz.f113,go_sem,g0,g1,g2,g3,g4,g5,g6,g7,planV]) rfl ?_
   exact⟨by rw [HK.out];rfl,x9⟩
  ·have HK:=Lib.hid (HRS.out.2.trans (if_neg hlt))
   go_wp2
   clear a0 a1 a2 a3 a4 a5 a6 a7 b0 b1 b2 b3 b4 b5 b6 b7 c0 c1 c2 c3 c4 c5 c6 c7 f0 f1 f2 f3 f4 f5 f6 f7
   have r9:=put8_row (a0:=St x.keeper) (a1:=U x.round) (a2:=St x.live) (a3:=St x.by_) (a4:=U x.cap) (a5:=St x.owner) (a6:=U x.base) (a7:=.bool x.done) HZ.out.1
   have x9:=put8_ext (g:=w.heap.size+1+1) (a0:=St x.keeper) (a1:=U x.round) (a2:=St x.live) (a3:=St x.by_) (a4:=U x.cap) (a5:=St x.owner) (a6:=U x.base) (a7:=.bool x.done) HZ.out.2 (by omega)
   change bodyPost _ _ _ _ _ (put8 w6 (w.heap.size+1+1) (St x.keeper) (U x.round) (St x.live) (St x.by_) (U x.cap) (St x.owner) (U x.base) (.bool x.done))
   generalize put8 w6 (w.heap.size+1+1) (St x.keeper) (U x.round) (St x.live) (St x.by_) (U x.cap) (St x.owner) (U x.base) (.bool x.done)=W9 at *
   obtain⟨⟨g0,g1,g2,g3⟩,g4,g5,g6,g7⟩:=r9.p8 rfl
   refine bodyPost_ret (v:=planV x) (by simp [results,Tryz.f113,go_sem,g0,g1,g2,g3,g4,g5,g6,g7,planV]) rfl ?_
   exact⟨by rw [HK.out];rfl,x9⟩
def put7 (W:World) (g:Nat) (a0 a1 a2 a3 a4 a5 a6:Value):World:=((((((W.setCell ⟨g,0,none⟩ a0).setCell ⟨g,1,none⟩ a1).setCell ⟨g,2,none⟩ a2).setCell ⟨g,3,none⟩ a3).setCell ⟨g,4,none⟩ a4).setCell ⟨g,5,none⟩ a5).setCell ⟨g,6,none⟩ a6
section
variable {W w:World} {g T:Nat} {a0 a1 a2 a3 a4 a5 a6 b0 b1 b2 b3 b4 b5 b6:Value}
theorem put7_row (h:RowIs W g T [b0,b1,b2,b3,b4,b5,b6] []):RowIs (put7 W g a0 a1 a2 a3 a4 a5 a6) g T [a0,a1,a2,a3,a4,a5,a6] [] :=
 ((((((h.set (j:=0) (by simp) a0).set (j:=1) (by simp) a1).set (j:=2) (by simp) a2).set (j:=3) (by simp) a3).set (j:=4) (by simp) a4).set (j:=5) (by simp) a5).set (j:=6) (by simp) a6
theorem put7_ext (h:Ext w W) (hg:w.heap.size<=g):Ext w (put7 W g a0 a1 a2 a3 a4 a5 a6) :=
 ((((((h.set (p:=⟨g,0,none⟩) hg _).set (p:=⟨g,1,none⟩) hg _).set (p:=⟨g,2,none⟩) hg _).set (p:=⟨g,3,none⟩) hg _).set (p:=⟨g,4,none⟩) hg _).set (p:=⟨g,5,none⟩) hg _).set (p:=⟨g,6,none⟩) hg _
theorem p7 (h:RowIs W g T [b0,b1,b2,b3,b4,b5,b6] []):W.cell? ⟨g,0,none⟩=some b0/\W.cell? ⟨g,1,none⟩=some b1/\W.cell? ⟨g,2,none⟩=some b2/\W.cell? ⟨g,3,none⟩=some b3/\W.cell? ⟨g,4,none⟩=some b4/\W.cell? ⟨g,5,none⟩=some b5/\W.cell? ⟨g,6,none⟩=some b6 :=
 ⟨h.cell rfl,h.cell rfl,h.cell rfl,h.cell rfl,h.cell rfl,h.cell rfl,h.cell rfl⟩
theorem f7 {xs tail:List Value} (h:RowIs W g T xs tail):W.frozen? ⟨g,0,none⟩=false/\W.frozen? ⟨g,1,none⟩=false/\W.frozen? ⟨g,2,none⟩=false/\W.frozen? ⟨g,3,none⟩=false/\W.frozen? ⟨g,4,none⟩=false/\W.frozen? ⟨g,5,none⟩=false/\W.frozen? ⟨g,6,none⟩=false :=
 ⟨h.frozen 0,h.frozen 1,h.frozen 2,h.frozen 3,h.frozen 4,h.frozen 5,h.frozen 6⟩
theorem row_other {xs tail:List Value} {g' k:Nat} {v:Value} (h:RowIs W g T xs tail) (hne:g ≠ g'):RowIs (W.setCell ⟨g',k,none⟩ v) g T xs tail:=h.keep (Below.heap_setCell _ ⟨g',k,none⟩ _ g hne)
end
theorem rword_any (xo xk yo yk:Str) (xh xr xc yh yr yc:Nat) (xa xp ya yp:Bool) (hx:xk.length < 1073741824) (hy:yk.length < 1073741824) (w:World) :
  Calls Tryz.prog 154 #[.agg #[St xo,U xh,St xk,U xr,.bool xa,U xc,.bool xp],.agg #[St yo,U yh,St yk,U yr,.bool ya,U yc,.bool yp]] w fun e w'=>e=.returned (.agg #[St xo,.int .u64 (max (xh:Int) yh),St (if firstL [higherM xk yk,cmpN xr yr,cmpPath xk yk] < 0 then yk else xk),U (if firstL [higherM xk yk,cmpN xr yr,cmpPath xk yk] < 0 then yr else xr),.bool (xa || ya),.int .u64 (max (xc:Int) yc),.bool (xp || yp)])/\Ext w w':=by
 obtain⟨ag,hag⟩:∃ ag,(xa || ya)=ag:=⟨_,rfl⟩
 obtain⟨pr,hpr⟩:∃ pr,(xp || yp)=pr:=⟨_,rfl⟩
 rw [hag,hpr]
 have HAG:=Lib.hid (And.intro hag hpr)
 have rX:=(((rowNew w 71 [St xo,U xh,St xk,U xr,.bool xa,U xc,.bool xp]).alloc (.cells #[St yo,U yh,St yk,U yr,.bool ya,U yc,.bool yp] 71)).alloc (.cells #[St [],.int .u64 0,St [],.int .u64 0,.bool false,.int .u64 0,.bool false] 71)).alloc (.cells #[St xo,.int .u64 (max (xh:Int) yh),St xk,U xr,.bool ag,.int .u64 (max (xc:Int) yc),.bool pr] 71)
 have rY:=((rowNew (w.alloc (.cells #[St xo,U xh,St xk,U xr,.bool xa,U xc,.bool xp] 71)) 71 [St yo,U yh,St yk,U yr,.bool ya,U yc,.bool yp]).alloc (.cells #[St [],.int .u64 0,St [],.int .u64 0,.bool false,.int .u64 0,.bool false] 71)).alloc (.cells #[St xo,.int .u64 (max (xh:Int) yh),St xk,U xr,.bool ag,.int .u64 (max (xc:Int) yc),.bool pr] 71)
 have rZ:=(rowNew ((w.alloc (.cells #[St xo,U xh,St xk,U xr,.bool xa,U xc,.bool xp] 71)).alloc (.cells #[St yo,U yh,St yk,U yr,.bool ya,U yc,.bool yp] 71)) 71 [St [],.int .u64 0,St [],.int .u64 0,.bool false,.int .u64 0,.bool false]).alloc (.cells #[St xo,.int .u64 (max (xh:Int) yh),St xk,U xr,.bool ag,.int .u64 (max (xc:Int) yc),.bool pr] 71)
 have rR:=rowNew (((w.alloc (.cells #[St xo,U xh,St xk,U xr,.bool xa,U xc,.bool xp] 71)).alloc (.cells #[St yo,U yh,St yk,U yr,.bool ya,U yc,.bool yp] 71)).alloc (.cells #[St [],.int .u64 0,St [],.int .u64 0,.bool false,.int .u64 0,.bool false] 71)) 71 [St xo,.int .u64 (max (xh:Int) yh),St xk,U xr,.bool ag,.int .u64 (max (xc:Int) yc),.bool pr]
 have xW:=((((Ext.refl w).alloc (.cells #[St xo,U xh,St xk,U xr,.bool xa,U xc,.bool xp] 71)).alloc (.cells #[St yo,U yh,St yk,U yr,.bool ya,U yc,.bool yp] 71)).alloc (.cells #[St [],.int .u64 0,St [],.int .u64 0,.bool false,.int .u64 0,.bool false] 71)).alloc (.cells #[St xo,.int .u64 (max (xh:Int) yh),St xk,U xr,.bool ag,.int .u64 (max (xc:Int) yc),.bool pr] 71)
 have rX0:=((rowNew w 71 [St xo,U xh,St xk,U xr,.bool xa,U xc,.bool xp]).alloc (.cells #[St yo,U yh,St yk,U yr,.bool ya,U yc,.bool yp] 71)).alloc (.cells #[St [],.int .u64 0,St [],.int .u64 0,.bool false,.int .u64 0,.bool false] 71)
 have rY0:=(rowNew (w.alloc (.cells #[St xo,U xh,St xk,U xr,.bool xa,U xc,.bool xp] 71)) 71 [St yo,U yh,St yk,U yr,.bool ya,U yc,.bool yp]).alloc (.cells #[St [],.int .u64 0,St [],.int .u64 0,.bool false,.int .u64 0,.bool false] 71)
 simp only [World.size_alloc] at rY rZ rR rY0
 obtain⟨W2,hW2⟩:∃ W2,((((w.alloc (.cells #[St xo,U xh,St xk,U xr,.bool xa,U xc,.bool xp] 71)).alloc (.cells #[St yo,U yh,St yk,U yr,.bool ya,U yc,.bool yp] 71)).alloc (.cells #[St [],.int .u64 0,St [],.int .u64 0,.bool false,.int .u64 0,.bool false] 71)).alloc (.cells #[St xo,.int .u64 (max (xh:Int) yh),St xk,U xr,.bool ag,.int .u64 (max (xc:Int) yc),.bool pr] 71))=W2:=⟨_,rfl⟩
 rw [hW2] at rX rY rZ rR xW
 have HW2:=Lib.hid hW2
 have HRW:=Lib.hid (And.intro rX (And.intro rY (And.intro rZ (And.intro rR xW))))
 have HCK:=Lib.hid (fun W=>rkeeper_any xk yk hx hy W)
 have HCP:=Lib.hid (fun W=>refCmp_any xk yk hx hy W)
 have HCN:=Lib.hid (fun W=>(rnum_any xr yr W).mono (R':=fun e w'=>e=.returned (I (cmpN xr yr))/\Ext W w') (by rintro e w' ⟨rfl,rfl⟩;exact⟨rfl,Ext.refl _⟩))
 obtain⟨K,hK⟩:∃ K,firstL [higherM xk yk,cmpN xr yr,cmpPath xk yk]=K:=⟨_,rfl⟩
 rw [hK]
 have HRS:=Lib.hid (And.intro hK trivial)
 obtain⟨a0,a1,a2,a3,a4,a5,a6⟩:=p7 rX0
 obtain⟨b0,b1,b2,b3,b4,b5,b6⟩:=p7 rY0
 clear rX rY rZ rR xW rX0 rY0 hK hag hpr hx hy
 clear hW2
 cases xa <;> cases xp
 all_goals
  go_enter Tryz.func154,Tryz.ntmps154
  go_wp2_with fail
  obtain⟨e1,e2⟩:=HAG.out
  simp only [Bool.true_or,Bool.false_or] at e1 e2
  have hW2:=HW2.out
  rw [<- e1,<- e2] at hW2
  rw [hW2]
  clear e1 e2 hW2 HAG
  clear a0 a1 a2 a3 a4 a5 a6 b0 b1 b2 b3 b4 b5 b6 HW2
  refine wp_region_facts ((fun v _=>v=.pointer (some ⟨w.heap.size,2,none⟩)) :: (fun v _=>v=St xk) :: (fun v _=>v=.pointer (some ⟨w.heap.size+1,2,none⟩)) :: (fun v _=>v=St yk) :: (fun v _=>v=I (higherM xk yk)) :: (fun v _=>v=.pointer (some ⟨w.heap.size,3,none⟩)) :: (fun v _=>v=U xr) :: (fun v _=>v=.pointer (some ⟨w.heap.size+1,3,none⟩)) :: (fun v _=>v=U yr) :: (fun v _=>v=I (cmpN xr yr)) :: (fun v _=>v=.pointer (some ⟨w.heap.size,2,none⟩)) :: (fun v _=>v=St xk) :: (fun v _=>v=.pointer (some ⟨w.heap.size+1,2,none⟩)) :: (fun v _=>v=St yk) :: (fun v _=>v=I (cmpPath xk yk)) :: []) rfl (by kernel_rfl) ?hR ?hstep ?hend
  case hR =>
   simp only [List.mem_cons,List.not_mem_nil,or_false,forall_eq_or_imp,forall_eq]
   exact⟨fun v _ _ h _=>h,fun v _ _ h _=>h,fun v _ _ h _=>h,fun v _ _ h _=>h,fun v _ _ h _=>h,fun v _ _ h _=>h,fun v _ _ h _=>h,fun v _ _ h _=>h,fun v _ _ h _=>h,fun v _ _ h _=>h,fun v _ _ h _=>h,fun v _ _ h _=>h,fun v _ _ h _=>h,fun v _ _ h _=>h,fun v _ _ h _=>h⟩
  case hstep =>
   simp only [List.length_cons,List.length_nil,Nat.reduceAdd,List.take_succ_cons,List.take_zero,stepsAll,and_true]
   refine ⟨?_,?_,?_,?_,?_,?_,?_,?_,?_,?_,?_,?_,?_,?_,?_⟩
   ·intro z V he f
    have h0:z 2=.pointer (some ⟨w.heap.size,0,none⟩):=f.1
    clear f
    go_wp
    exact stepQ_ok rfl (Ext.refl _)
   ·intro z V he f
    have h0:z 35=.pointer (some ⟨w.heap.size,2,none⟩):=f.1
    have c:=(HRW.out.1.ext he).cell (j:=2) rfl
    clear f
    go_wp
    exact stepQ_ok rfl (Ext.refl _)
   ·intro z V he f
    have h0:z 3=.pointer (some ⟨w.heap.size+1,0,none⟩):=f.1
    clear f
    go_wp
    exact stepQ_ok rfl (Ext.refl _)
   ·intro z V he f
    have h0:z 37=.pointer (some ⟨w.heap.size+1,2,none⟩):=f.1
    have c:=(HRW.out.2.1.ext he).cell (j:=2) rfl
    clear f
    go_wp
    exact stepQ_ok rfl (Ext.refl _)
   ·intro z V he f
    have h0:z 36=St xk:=f.1
    have h1:z 38=St yk:=f.2.1
    clear f
    go_wp
    refine (HCK.out _).mono ?_
    rintro e w6 ⟨rfl,hb1⟩
    dsimp only
    go_wp
    refine stepQ_ok (v:=I (higherM xk yk)) ?_ hb1
    rfl
   ·intro z V he f
    have h0:z 2=.pointer (some ⟨w.heap.size,0,none⟩):=f.1
    clear f
    go_wp
    exact stepQ_ok rfl (Ext.refl _)
   ·intro z V he f
    have h0:z 40=.pointer (some ⟨w.heap.size,3,none⟩):=f.1
    have c:=(HRW.out.1.ext he).cell (j:=3) rfl
    clear f
    go_wp
    exact stepQ_ok rfl (Ext.refl _)
   ·intro z V he f
    have h0:z 3=.pointer (some ⟨w.heap.size+1,0,none⟩):=f.1
    clear f
    go_wp
    exact stepQ_ok rfl (Ext.refl _)
   ·intro z V he f
    have h0:z 42=.pointer (some ⟨w.heap.size+1,3,none⟩):=f.1
    have c:=(HRW.out.2.1.ext he).cell (j:=3) rfl
    clear f
    go_wp
    exact stepQ_ok rfl (Ext.refl _)
   ·intro z V he f
    have h0:z 41=U xr:=f.1
    have h1:z 43=U yr:=f.2.1
    clear f
    go_wp
    refine (HCN.out _).mono ?_
    rintro e w6 ⟨rfl,hb1⟩
    dsimp only
    go_wp
    refine stepQ_ok (v:=I (cmpN xr yr)) ?_ hb1
    rfl
   ·intro z V he f
    have h0:z 2=.pointer (some ⟨w.heap.size,0,none⟩):=f.1
    clear f
    go_wp
    exact stepQ_ok rfl (Ext.refl _)
   ·intro z V he f
    have h0:z 45=.pointer (some ⟨w.heap.size,2,none⟩):=f.1
    have c:=(HRW.out.1.ext he).cell (j:=2) rfl
    clear f
    go_wp
    exact stepQ_ok rfl (Ext.refl _)
   ·intro z V he f
    have h0:z 3=.pointer (some ⟨w.heap.size+1,0,none⟩):=f.1
    clear f
    go_wp
    exact stepQ_ok rfl (Ext.refl _)
   ·intro z V he f
    have h0:z 47=.pointer (some ⟨w.heap.size+1,2,none⟩):=f.1
    have c:=(HRW.out.2.1.ext he).cell (j:=2) rfl
    clear f
    go_wp
    exact stepQ_ok rfl (Ext.refl _)
   ·intro z V he f
    have h0:z 46=St xk:=f.1
    have h1:z 48=St yk:=f.2.1
    clear f
    go_wp
    refine (HCP.out _).mono ?_
    rintro e w6 ⟨rfl,hb1⟩
    dsimp only
    go_wp
    refine stepQ_ok (v:=I (cmpPath xk yk)) ?_ hb1
    rfl
  case hend =>
   intro z V he f
   have h39:z 39=I (higherM xk yk):=f.2.2.2.2.1
   have h44:z 44=I (cmpN xr yr):=f.2.2.2.2.2.2.2.2.2.1
   have h49:z 49=I (cmpPath xk yk):=f.2.2.2.2.2.2.2.2.2.2.2.2.2.2.1
   have HRV:=Lib.hid (And.intro (HRW.out.1.ext he) (And.intro (HRW.out.2.1.ext he) (And.intro (HRW.out.2.2.1.ext he) (And.intro (HRW.out.2.2.2.1.ext he) (HRW.out.2.2.2.2.trans he)))))
   clear f
   simp only [List.length_cons,List.length_nil,Nat.reduceAdd,List.take_succ_cons,List.take_zero,List.filterMap_cons,List.filterMap_nil,List.drop_succ_cons,List.drop_zero,putAll,Act.put,List.setIfInBounds_toArray,List.set_cons_succ,List.set_cons_zero,h39,h44,h49]
   clear h39 h44 h49
   go_wp2_with fail
   have hr4:=rowNew V 3 [I (higherM xk yk),I (cmpN xr yr),I (cmpPath xk yk)]
   have hx4:=(Ext.refl V).alloc (.cells #[I (higherM xk yk),I (cmpN xr yr),I (cmpPath xk yk)] 3)
   have HF:=rfirst_any (c:=3) (l:=[higherM xk yk,cmpN xr yr,cmpPath xk yk]) hr4 (by simp)
   rw [HRS.out.1] at HF
   refine HF.mono ?_
   rintro e w6 ⟨rfl,hw6⟩
   obtain⟨WW,hWW⟩:∃ WW,WW=V.alloc (.cells #[I (higherM xk yk),I (cmpN xr yr),I (cmpPath xk yk)] 3):=⟨_,rfl⟩
   have hw7:w6=WW:=hw6.trans hWW.symm
   subst hw7
   rw [<- hWW] at hx4
   have hrY:=HRV.out.2.1.ext hx4
   have hrZ:=HRV.out.2.2.1.ext hx4
   have hrR:=HRV.out.2.2.2.1.ext hx4
   have hxZ:=HRV.out.2.2.2.2.trans hx4
   clear hr4 hx4 HF hw6 hWW
   by_cases hlt:K < 0
   ·have HLT:=Lib.hid hlt
    have n1:¬ w.heap.size+1+1+1=w.heap.size+1+1:=by omega
    have n2:¬ w.heap.size+1+1=w.heap.size+1+1+1:=by omega
    have n3:¬ w.heap.size+1=w.heap.size+1+1+1:=by omega
    obtain⟨b0,b1,b2,b3,b4,b5,b6⟩:=p7 hrY
    obtain⟨q0,q1,q2,q3,q4,q5,q6⟩:=f7 hrR
    obtain⟨r0,r1,r2,r3,r4,r5,r6⟩:=p7 hrR
    obtain⟨c0,c1,c2,c3,c4,c5,c6⟩:=p7 hrZ
    obtain⟨f0,f1,f2,f3,f4,f5,f6⟩:=f7 hrZ
    have hrZ':=row_other (k:=3) (v:=U yr) (row_other (k:=2) (v:=St yk) hrZ (g':=w.heap.size+1+1+1) (by omega)) (g':=w.heap.size+1+1+1) (by omega)
    have hxZ':=(hxZ.set (p:=⟨w.heap.size+1+1+1,2,none⟩) (show w.heap.size<=w.heap.size+1+1+1 by omega) (St yk)).set (p:=⟨w.heap.size+1+1+1,3,none⟩) (show w.heap.size<=w.heap.size+1+1+1 by omega) (U yr)
    have HZ:=Lib.hid (And.intro hrZ' hxZ')
    clear hrY hrR hrZ hxZ hrZ' hxZ'
    go_wp2
    clear b0 b1 b2 b3 b4 b5 b6 q0 q1 q2 q3 q4 q5 q6 r0 r1 r2 r3 r4 r5 r6 c0 c1 c2 c3 c4 c5 c6 f0 f1 f2 f3 f4 f5 f6
    have r9:=put7_row (a0:=St xo) (a1:=.int .u64 (max (xh:Int) yh)) (a2:=St yk) (a3:=U yr) (a4:=.bool ag) (a5:=.int .u64 (max (xc:Int) yc)) (a6:=.bool pr) HZ.out.1
    have x9:=put7_ext (g:=w.heap.size+1+1) (a0:=St xo) (a1:=.int .u64 (max (xh:Int) yh)) (a2:=St yk) (a3:=U yr) (a4:=.bool ag) (a5:=.int .u64 (max (xc:Int) yc)) (a6:=.bool pr) HZ.out.2 (by omega)
    change bodyPost _ _ _ _ _ (put7 ((w6.setCell ⟨w.heap.size+1+1+1,2,none⟩ (St yk)).setCell ⟨w.heap.size+1+1+1,3,none⟩ (U yr)) (w.heap.size+1+1) (St xo) (.int .u64 (max (xh:Int) yh)) (St yk) (U yr) (.bool ag) (.int .u64 (max (xc:Int) yc)) (.bool pr))
    generalize put7 ((w6.setCell ⟨w.heap.size+1+1+1,2,none⟩ (St yk)).setCell ⟨w.heap.size+1+1+1,3,none⟩ (U yr)) (w.heap.size+1+1) (St xo) (.int .u64 (max (xh:Int) yh)) (St yk) (U yr) (.bool ag) (.int .u64 (max (xc:Int) yc)) (.bool pr)=W9 at *
    obtain⟨g0,g1,g2,g3,g4,g5,g6⟩:=p7 r9
    refine bodyPost_ret (v:=.agg #[St xo,.int .u64 (max (xh:Int) yh),St yk,U yr,.bool ag,.int .u64 (max (xc:Int) yc),.bool pr]) (by simp [results,Tryz.f154,go_sem,g0,g1,g2,g3,g4,g5,g6]) rfl ?_
    exact⟨by first | rfl | (rw [if_pos HLT.out,if_pos HLT.out]),x9⟩
   ·have HLT:=Lib.hid hlt
    clear hrY
    obtain⟨r0,r1,r2,r3,r4,r5,r6⟩:=p7 hrR
    obtain⟨c0,c1,c2,c3,c4,c5,c6⟩:=p7 hrZ
    obtain⟨f0,f1,f2,f3,f4,f5,f6⟩:=f7 hrZ
    have HZ:=Lib.hid (And.intro hrZ hxZ)
    clear hrR hrZ hxZ
    go_wp2
    clear r0 r1 r2 r3 r4 r5 r6 c0 c1 c2 c3 c4 c5 c6 f0 f1 f2 f3 f4 f5 f6
    have r9:=put7_row (a0:=St xo) (a1:=.int .u64 (max (xh:Int) yh)) (a2:=St xk) (a3:=U xr) (a4:=.bool ag) (a5:=.int .u64 (max (xc:Int) yc)) (a6:=.bool pr) HZ.out.1
    have x9:=put7_ext (g:=w.heap.size+1+1) (a0:=St xo) (a1:=.int .u64 (max (xh:Int) yh)) (a2:=St xk) (a3:=U xr) (a4:=.bool ag) (a5:=.int .u64 (max (xc:Int) yc)) (a6:=.bool pr) HZ.out.2 (by omega)
    change bodyPost _ _ _ _ _ (put7 w6 (w.heap.size+1+1) (St xo) (.int .u64 (max (xh:Int) yh)) (St xk) (U xr) (.bool ag) (.int .u64 (max (xc:Int) yc)) (.bool pr))
    generalize put7 w6 (w.heap.size+1+1) (St xo) (.int .u64 (max (xh:Int) yh)) (St xk) (U xr) (.bool ag) (.int .u64 (max (xc:Int) yc)) (.bool pr)=W9 at *
    obtain⟨g0,g1,g2,g3,g4,g5,g6⟩:=p7 r9
    refine bodyPost_ret (v:=.agg #[St xo,.int .u64 (max (xh:Int) yh),St xk,U xr,.bool ag,.int .u64 (max (xc:Int) yc),.bool pr]) (by simp [results,Tryz.f154,go_sem,g0,g1,g2,g3,g4,g5,g6]) rfl ?_
    exact⟨by first | rfl | (rw [if_neg HLT.out,if_neg HLT.out]),x9⟩
theorem refChain_any {p:Str} (hm:mayP p=true) (hp:p.length < 4294967296) (w:World):Calls Tryz.prog 92 #[St p] w fun e w'=>∃ v,e=.returned v/\Own w' w.heap.size 9 1 v (chainP p).length ((chainP p).map St)/\Ext w w':=by
 have H:=Lib.hid (fun (q:Str) (h:mayP q=true) (h2:q.length<=p.length) W=>refParent_any h (by omega) W)
 have HL:=chainP_len p
 have hC:=chainP_rest p
 have hps:=parP_len p
 have HM:=Lib.hid hm
 have HMA:=Lib.hid (mayP_par hm)
 clear hm
 go_enter Tryz.func92,Tryz.ntmps92
 go_wp2_with fail
 refine (H.out p HM.out (Nat.le_refl _) _).mono ?_
 rintro e w1 ⟨rfl,hx1⟩
 generalize parP p=a0 at *
 go_wp2
 go_loopw [0,3] (fun av lv wr=>∃ done cur,chainP p=done++restC cur/\av=St cur/\Hid (cur = [] ∨ mayP cur=true)/\cur.length<=p.length/\Own wr w.heap.size 9 1 lv done.length (done.map St)/\Ext w wr)
  (fun av _ _=>match av with | .string s=>s.size | _=>0)
 case atStart=>exact⟨[],a0,by rw [hC];rfl,rfl,HMA,hps,Own.nil _ _ _ _ _,hx1⟩
 case round =>
  obtain⟨done,cur,hd,rfl,hmc,hl,ho,hx⟩:=hrel
  obtain⟨A,c,rfl,hnc,hcm⟩:=ho.form
  cases cur with
  | nil =>
   have HD:=Lib.hid (show chainP p=done by rw [hd];simp [restC])
   have HO:=Lib.hid ho
   have HX:=Lib.hid hx
   clear hd ho hx hC hx1
   go_wp2
   go_ret
   exact⟨_,rfl,by rw [HD.out];exact HO.out,HX.out⟩
  | cons b r =>
   have hmb:mayP (b :: r)=true:=hmc.out.resolve_left (by simp)
   have hd':chainP p=(done++[b :: r])++restC (parP (b :: r)):=by rw [hd,restC,if_neg (by simp),chainP_rest,List.append_assoc];rfl
   have hlen:done.length+1<=p.length:=by rw [hd'] at HL;simp at HL;omega
   have hsh:=parP_short (p:=b :: r) (by simp)
   have HP:=Lib.hid (H.out (b :: r) hmb hl)
   have HMB:=Lib.hid (mayP_par hmb)
   have HD:=Lib.hid hd'
   clear hd hd' hC hx1 hmb
   have e0:((b :: r) != ([]:Str))=true:=by simp
   have hbase:=hx.size
   go_wp2_with (at_builtin;refine wpList_append_Own rfl (.tmp 10) (.tmp 12) 56 rfl w.heap.size 9 1 16 (St []) Tryz.underlying56 info_str rfl (by omega) _ done.length (done.map St) rfl (ho.alloc _) _ 1 1 [St (b :: r)] rfl (Src.new rfl (by intro u hu;simp at hu;subst hu;rfl)) (by omega) (by omega) (by simp;omega) ?_;intro v' w' hown hgr)
   refine (HP.out _).mono ?_
   rintro e w2 ⟨rfl,hx2⟩
   have HO:=Lib.hid ((show Own w' w.heap.size 9 1 v' (done++[b :: r]).length ((done++[b :: r]).map St) by simpa using hown).ext hx2)
   have HX:=Lib.hid ((Ext.grewOwn (hx.alloc _) hgr (ho.alloc _) (Nat.le_refl _)).trans hx2)
   have hpl:=parP_len (b :: r)
   go_wp2
   go_roundw
   case rel=>exact⟨done++[b :: r],parP (b :: r),HD.out,rfl,HMB,by omega,HO.out,HX.out⟩
   case measure=>simp [ByteArray.size] at hsh ⊢;omega
theorem refUnder_any {p:Str} (hm:mayP p=true) (hp:p.length < 4294967296) (a:Str) (w:World):Calls Tryz.prog 33 #[St p,St a] w fun e w'=>e=.returned (.bool (decide (a ∈ chainP p)))/\Ext w w':=by
 obtain⟨K,hK⟩:∃ K,decide (a ∈ chainP p)=K:=⟨_,rfl⟩
 rw [hK]
 have HC:=Lib.hid (refChain_any hm hp w)
 have HL:=chainP_len p
 have HK:=Lib.hid hK
 clear hm hK
 generalize chainP p=L at *
 go_enter Tryz.func33,Tryz.ntmps33
 go_wp2_with fail
 refine HC.out.mono ?_
 rintro e w1 ⟨v,rfl,ho,hx⟩
 obtain⟨A,c,rfl,-,-⟩:=ho.form
 have HO:=Lib.hid ho
 have HX:=Lib.hid hx
 clear ho hx HC
 go_wp2_with fail
 go_loopw [6] (fun i wr=>∃ pre post,L=pre++post/\i=I pre.length/\Hid (decide (a ∈ post)=K)/\w1=wr) (fun i _=>L.length - (intOf i).toNat)
 case atStart=>exact⟨[],L,rfl,rfl,HK,rfl⟩
 case round =>
  obtain⟨pre,post,hl,rfl,hk,rfl⟩:=hrel
  cases post with
  | nil =>
   have HF:=Lib.hid (show false=K by rw [<- hk.out];rfl)
   rw [List.append_nil] at hl
   subst hl
   clear hk
   go_wp2_with fail
   go_ret
   exact⟨by rw [<- HF.out];rfl,HX.out⟩
  | cons s post =>
   have hlt:pre.length < L.length:=by rw [hl];simp
   obtain⟨g,cap,tail,e0,-,hr,-⟩:=HO.out.row (by omega)
   cases e0
   have cs:w1.cell? ⟨g,pre.length,none⟩=some (St s):=hr.cell (by rw [hl];simp)
   have HLL:=Lib.hid hl
   clear hl hr
   by_cases hs:s=a
   ·have g1:(s == a)=true:=by simpa using hs
    have HF:=Lib.hid (show true=K by rw [<- hk.out,hs];simp)
    clear hk hs
    go_wp2_with fail
    go_ret
    exact⟨by rw [<- HF.out];rfl,HX.out⟩
   ·have g1:(s == a)=false:=by simpa using hs
    have HF:=Lib.hid (show decide (a ∈ post)=K by
     rw [<- hk.out]
     have:¬ a=s:=fun e=>hs e.symm
     simp [this])
    clear hk hs
    go_wp2_with fail
    go_roundw
    case rel=>exact⟨pre++[s],post,by rw [HLL.out];simp,by simp,HF,by first | rfl | trivial⟩
    case measure=>simp [intOf];omega
theorem deep_no {p:Str} (hm:mayP p=false):deepP p=0:=by unfold mayP at hm;simpa using hm
theorem par_no {p:Str} (hm:mayP p=false):parP p = []:=by unfold parP;rw [if_pos (by have:=deep_no hm;omega)]
theorem chain_no {p:Str} (hm:mayP p=false):chainP p = []:=by rw [chainP_rest,par_no hm];unfold restC;rw [if_pos rfl]
theorem refParentB_any (p:Str) (hl:p.length < 1073741824) (w:World):Calls Tryz.prog 26 #[St p] w fun e w'=>e=.returned (St (parP p))/\Ext w w':=by
 cases hm:mayP p with
 | true=>exact refParent_any hm (by omega) w
 | false =>
  have HR:=Lib.hid (refRead_no p hm hl w)
  rw [par_no hm]
  clear hm hl
  go_enter Tryz.func26,Tryz.ntmps26
  go_wp2_with fail
  refine HR.out.mono ?_
  rintro e w1 ⟨⟨v,rfl⟩,hx⟩
  go_wp2_with fail
  go_ret
  exact⟨rfl,hx⟩
theorem refNumberB_any (p:Str) (hl:p.length < 1073741824) (w:World):Calls Tryz.prog 81 #[St p] w fun e w'=>e=.returned (I (numP p))/\Ext w w':=by
 cases hm:mayP p with
 | true=>exact refNumber_any hm (by omega) w
 | false =>
  have HR:=Lib.hid (refRead_no p hm hl w)
  rw [show numP p=0 by unfold numP;rw [if_pos (by have:=deep_no hm;omega)]]
  clear hm hl
  go_enter Tryz.func81,Tryz.ntmps81
  go_wp2_with fail
  refine HR.out.mono ?_
  rintro e w1 ⟨⟨v,rfl⟩,hx⟩
  go_wp2_with fail
  go_ret
  exact⟨rfl,hx⟩
theorem refUnderB_any (p a:Str) (hl:p.length < 1073741824) (w:World):Calls Tryz.prog 33 #[St p,St a] w fun e w'=>e=.returned (.bool (decide (a ∈ chainP p)))/\Ext w w':=by
 cases hm:mayP p with
 | true=>exact refUnder_any hm (by omega) a w
 | false =>
  have HP:=Lib.hid (fun W=>refParentB_any p hl W)
  rw [par_no hm] at HP
  rw [chain_no hm]
  have HC:Calls Tryz.prog 92 #[St p] w fun e w'=>e=.returned (.slice none 0 0)/\Ext w w':=by
   go_enter Tryz.func92,Tryz.ntmps92
   go_wp2_with fail
   refine (HP.out _).mono ?_
   rintro e w1 ⟨rfl,hx⟩
   go_wp2_with fail
   go_loopw [0,3] (fun s l wr=>s=St []/\l=.slice none 0 0/\Ext w wr) (fun _ _ _=>0)
   case atStart=>exact⟨rfl,rfl,hx⟩
   case round =>
    obtain⟨rfl,rfl,hx⟩:=hrel
    go_wp2_with fail
    go_ret
    exact⟨rfl,hx⟩
  have HC:=Lib.hid HC
  go_enter Tryz.func33,Tryz.ntmps33
  go_wp2_with fail
  refine HC.out.mono ?_
  rintro e w1 ⟨rfl,hx⟩
  go_wp2_with fail
  go_loopw [6] (fun i wr=>i=I (0:Nat)/\Ext w wr) (fun _ _=>0)
  case atStart=>exact⟨rfl,hx⟩
  case round =>
   obtain⟨rfl,hx⟩:=hrel
   go_wp2_with fail
   go_ret
   exact⟨by simp,hx⟩
attribute [local go_sem] byte_zero byte_at
theorem ext_mid (a b c:Str) {i j:Nat} (hi:i=a.length) (hj:j=a.length+b.length):(⟨(a++(b++c)).toArray⟩:ByteArray).extract i j=⟨b.toArray⟩:=by
 subst hi hj
 apply ByteArray.ext
 rw [ByteArray.data_extract]
 simp
theorem rpaths_any (p:Str) (hl:p.length < 1073741824) (w:World):Calls Tryz.prog 134 #[St p] w fun e w'=>(e=.returned (.bool true) ∨ e=.returned (.bool false))/\Ext w w':=by
 have HMY:=Lib.hid (fun (q:Str) (h2:q.length<=p.length) W=>refMayB_any q (by omega) W)
 have HCP:=Lib.hid (fun (a b:Str) (h1:a.length<=p.length) (h2:b.length<=p.length) W=>refCmp_any a b (by omega) (by omega) W)
 go_enter Tryz.func134,Tryz.ntmps134
 go_wp2_with fail
 go_loopw [3,4,5,6] (fun s n at' _ wr=>∃ (q:Str) (k m:Nat),s=St q/\n=I k/\at'=I m/\Hid (q.length<=p.length)/\Hid (k<=m/\m<=p.length+1)/\Hid ((∃ pre r,p=pre++r/\m=pre.length) ∨ m=p.length+1)/\Ext w wr) (fun _ _ i _ _=>p.length+1 - (intOf i).toNat)
 case atStart=>exact⟨[],0,0,rfl,rfl,rfl,Lib.hid (by simp),Lib.hid ⟨Nat.le_refl _,by omega⟩,Lib.hid (.inl ⟨[],p,rfl,rfl⟩),Ext.refl _⟩
 case round =>
  obtain⟨q,k,m,rfl,rfl,rfl,hq,hkm,hst,hx⟩:=hrel
  have HX:=Lib.hid hx
  clear hx
  rcases hst.out with ⟨pre,r,hp,rfl⟩ | rfl
  ·have hpl:p.length=pre.length+r.length:=by rw [hp];simp
   have c1:(pre.length:Int)<=p.length:=by omega
   have HP:=Lib.hid hp
   have HPL:=Lib.hid hpl
   clear hst hp hpl
   obtain⟨wo,rfl⟩:∃ wo:World,wo=wr:=⟨_,rfl⟩
   go_wp2_with fail
   go_loopw [6] (fun e wr=>∃ (g1 g2:Str),Hid (r=g1++g2)/\e=I ((pre.length+g1.length:Nat))/\wr=wo) (fun e _=>p.length - (intOf e).toNat)
   case atStart=>exact⟨[],r,Lib.hid rfl,by simp,rfl⟩
   case round =>
    obtain⟨g1,g2,hg,rfl,rfl⟩:=hrel
    obtain⟨A,hA⟩:∃ A,pre++g1=A:=⟨_,rfl⟩
    have hAl:pre.length+g1.length=A.length:=by rw [<- hA];simp
    have hg1:g1.length<=p.length:=by have h1:=HPL.out;have h2:r.length=g1.length+g2.length:=(by rw [hg.out];simp);omega
    have hex:(⟨p.toArray⟩:ByteArray).extract pre.length A.length=⟨g1.toArray⟩:=by
     have:=ext_mid pre g1 g2 (i:=pre.length) (j:=A.length) rfl (by omega)
     rw [<- hg.out,<- HP.out] at this
     exact this
    have b1:(pre.length:Int)<=A.length:=by omega
    have b2:A.length<=p.length:=by have h1:=HPL.out;have h2:r.length=g1.length+g2.length:=(by rw [hg.out];simp);omega
    have b2':(A.length:Int)<=p.length:=by omega
    have HAL:=Lib.hid hAl
    have HB:=Lib.hid (And.intro b2 hg1)
    rw [hAl]
    have go_on:g2 = [] ∨ (∃ t,g2=44 :: t) ∨ ∃ d t,g2=d :: t/\d ≠ 44:=by
     cases g2 with
     | nil=>exact .inl rfl
     | cons d t =>
      by_cases hd:d=44
      ·subst hd;exact .inr (.inl ⟨t,rfl⟩)
      ·exact .inr (.inr ⟨d,t,rfl,hd⟩)
    have HNX:=Lib.hid (show g2 = [] ∨ (∃ t,g2=44 :: t)->((∃ pre r,p=pre++r/\A.length+1=pre.length) ∨ A.length+1=p.length+1) from by
     rintro (h | ⟨t,h⟩)
     ·right
      have h1:=HPL.out
      have h2:r.length=g1.length+g2.length:=by rw [hg.out];simp
      rw [h] at h2
      simp at h2
      omega
     ·left
      exact⟨A++[44],t,by rw [HP.out,hg.out,h,<- hA];simp,by simp⟩)
    have HG:=Lib.hid hg
    have HAA:=Lib.hid hA
    rcases go_on with h | ⟨t,h⟩ | ⟨d,t,h,hd⟩
    case' inl =>
     have HN:=Lib.hid (HNX.out (.inl h))
     have hll:(A.length:Int)=p.length:=by
      have h1:=HPL.out
      have h2:r.length=g1.length+g2.length:=by rw [hg.out];simp
      rw [h] at h2
      simp at h2
      omega
     have hge:¬ (A.length:Int) < p.length:=by omega
     clear hg hA hAl h hll b2 hg1
    case' inr.inl =>
     have HN:=Lib.hid (HNX.out (.inr ⟨t,h⟩))
     have hpA:p=A++44 :: t:=by rw [HP.out,hg.out,h,<- hA];simp
     have hge:(A.length:Int) < (A++44 :: t).length:=by simp;omega
     have hge2:(A.length:Int) < (A.length:Int)+((t.length:Int)+1):=by omega
     have HEX:=Lib.hid (And.intro hex b2')
     clear hg hA hAl h b2 hg1 hex b2'
     subst hpA
     go_upto_region 8 with fail
     obtain⟨hex,b2'⟩:=HEX.out
     clear hge hge2
     generalize hP2:A++44 :: t=P2 at *
     have HP2:=Lib.hid hP2
     clear hP2
    case' inr.inr =>
     have hpA:p=A++d :: t:=by rw [HP.out,hg.out,h,<- hA];simp
     have hge:(A.length:Int) < (A++d :: t).length:=by simp;omega
     have hge2:(A.length:Int) < (A.length:Int)+((t.length:Int)+1):=by omega
     have d3:((d.toNat:Int) == 44)=false:=by
      rw [beq_eq_false_iff_ne]
      intro e
      exact hd (UInt8.toNat_inj.1 (by simpa using Int.ofNat_inj.1 e))
     have HG2:=Lib.hid (show r=(g1++[d])++t by rw [hg.out,h];simp)
     clear hg hA hAl h hex b1 b2 b2' hd hg1
     subst hpA
     go_wp2_with fail
     go_roundw
     case rel=>exact⟨g1++[d],t,Lib.hid HG2.out,by rw [List.length_append];simp;have:=HAL.out;omega,trivial⟩
     case measure=>simp [intOf];omega
    all_goals
     have HMQ:=Lib.hid (HMY.out g1 HB.out.2)
     cases hmy:mayP g1
     case' false =>
      rw [hmy] at HMQ
      clear hmy
      go_wp2_with fail
      refine (HMQ.out _).mono ?_
      rintro e w2 ⟨rfl,hx2⟩
      go_wp2_with fail
      go_ret
      exact⟨.inr rfl,HX.out.trans hx2⟩
     case' true =>
     rw [hmy] at HMQ
     clear hmy
     have HCQ:=Lib.hid (HCP.out q g1 hq.out HB.out.2)
     have HKM:=Lib.hid hkm.out
     have hkb:k<=1073741824:=by have:=hkm.out;omega
     by_cases hk0:k=0
     ·have q1:¬ (k:Int) > 0:=by omega
      have HK0:=Lib.hid hk0
      clear hk0
      go_wp2_with fail
      refine (HMQ.out _).mono ?_
      rintro e w2 ⟨rfl,hx2⟩
      go_upto_region 11 with fail
      first | (have hP2:=HP2.out;clear hex;subst hP2) | clear hex
      go_wp2_with fail
      go_roundw
      case rel=>exact⟨g1,k+1,A.length+1,rfl,by simp,by simp,Lib.hid HB.out.2,Lib.hid (by have h1:=HKM.out;have h2:=HB.out;have h3:=HAL.out;omega),HN,HX.out.trans hx2⟩
      case measure=>have h1:=HAL.out;have h2:=HB.out;simp only [intOf];omega
     ·have q1:(k:Int) > 0:=by omega
      have q1n:0 < k:=by omega
      clear hk0
      by_cases hcz:cmpPath q g1 ≥ 0
      ·go_wp2_with fail
       refine (HMQ.out _).mono ?_
       rintro e w2 ⟨rfl,hx2⟩
       go_wp2_with fail
       refine (HCQ.out _).mono ?_
       rintro e w3 ⟨rfl,hx3⟩
       go_wp2_with fail
       go_ret
       exact⟨.inr rfl,(HX.out.trans hx2).trans hx3⟩
      ·go_wp2_with fail
       refine (HMQ.out _).mono ?_
       rintro e w2 ⟨rfl,hx2⟩
       go_wp2_with fail
       refine (HCQ.out _).mono ?_
       rintro e w3 ⟨rfl,hx3⟩
       go_upto_region 11 with fail
       first | (have hP2:=HP2.out;clear hex;subst hP2) | clear hex
       go_wp2_with fail
       go_roundw
       case rel=>exact⟨g1,k+1,A.length+1,rfl,by simp,by simp,Lib.hid HB.out.2,Lib.hid (by have h1:=HKM.out;have h2:=HB.out;have h3:=HAL.out;omega),HN,(HX.out.trans hx2).trans hx3⟩
       case measure=>have h1:=HAL.out;have h2:=HB.out;simp only [intOf];omega
  ·have d1:¬ (p.length:Int)+1<=p.length:=by omega
   by_cases h24:k<=24
   ·have q1:(k:Int)<=24:=by omega
    clear hst
    go_wp2_with fail
    go_ret
    exact⟨.inl rfl,HX.out⟩
   ·have q1:¬ (k:Int)<=24:=by omega
    clear hst
    go_wp2_with fail
    go_ret
    exact⟨.inr rfl,HX.out⟩
end
end Go.Proofs.YtblkikjmocnllaaGreatDoor
