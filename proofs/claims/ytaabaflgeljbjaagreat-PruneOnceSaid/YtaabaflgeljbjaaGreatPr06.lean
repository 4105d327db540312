/- Laws. -/
import Derived.Test.YtaabaflgeljbjaaGreatPr03
import Derived.Test.YtaabaflgeljbjaaGreatPr04
import Derived.Test.YtaabaflgeljbjaaGreatPr05
import Derived.StillTailTactics
set_option linter.unusedVariables false
set_option linter.unusedSimpArgs false
set_option maxRecDepth 100000
set_option maxHeartbeats 40000000
namespace Go.Proofs.YtaabaflgeljbjaaGreat
section
open Go.RowKit
theorem zd8:KeyOk Tryz.prog 9 St:=zv6 Tryz.underlying9
theorem yb4 (w:World):(zeroValue 27).run Tryz.prog w=.ok (U 0) w:=Tryz.zeroValue27 w
structure HowOk (P:Program) (g:Nat) (f:Nat->Nat->Nat):Prop where
 enters:∀ args w,(callFunc g args).run P w=.ok (.enter g args) w
 does:∀ a b W,Calls P g #[U a,U b] W fun e w'=>e=.returned (U (f a b))/\W=w'
structure Kept2 (w w':World) (p m:Nat):Prop where
 os:w'.os=w.os
 tape:w'.tape=w.tape
 output:w'.output=w.output
 size:w.heap.size<=w'.heap.size
 other:∀ j,j < w.heap.size->j ≠ p->j ≠ m->w'.heap[j]? = w.heap[j]?
theorem ze5 {w:World} {b:Nat} {L:List (Str × Nat)} (h:MapIs St U w b L) (k:Str) :
  (Instr.lookup 208 (.map (some b)) (St k) false).run Tryz.prog w=.ok (U (getL 0 L k)) w:=(zbi (z:=0) Tryz.underlying208 zd8 yb4 h k).1
theorem zor {g:Nat} {f:Nat->Nat->Nat} (hg:HowOk Tryz.prog g f) {p m:Nat} {Lp Lm:List (Str × Nat)} (c:zag) {w:World} (hp:MapIs St U w p Lp) (hm:MapIs St U w m Lm) (hne:p ≠ m) :
  Calls Tryz.prog 141 #[.agg #[.map (some p),.map (some m)],.agg #[St c.1,U c.2.1,U c.2.2],.func (.func g) #[] #[]] w fun e w'=>e=.returned (.tuple #[])/\MapIs St U w' p (putL Lp c.1 (f (getL 0 Lp c.1) c.2.1))/\MapIs St U w' m (putL Lm c.1 (f (getL 0 Lm c.1) c.2.2))/\Kept2 w w' p m:=by
 have eg:=hg.enters;have HH:=zH hg.does;obtain⟨W1,hW1⟩:∃ W1,(w.alloc (.cells #[.map (some p),.map (some m)] 210)).alloc (.cells #[St c.1,U c.2.1,U c.2.2] 54)=W1:=⟨_,rfl⟩
 have hx1:Ext w W1:=by rw [<- hW1];exact ((Ext.refl w).alloc _).alloc _
 have c0:W1.cell? ⟨w.heap.size,0,none⟩=some (.map (some p)):=by rw [<- hW1];simp [go_sem]
 have c1:W1.cell? ⟨w.heap.size,1,none⟩=some (.map (some m)):=by rw [<- hW1];simp [go_sem]
 have d0:W1.cell? ⟨w.heap.size+1,0,none⟩=some (St c.1):=by rw [<- hW1];simp [go_sem]
 have d1:W1.cell? ⟨w.heap.size+1,1,none⟩=some (U c.2.1):=by rw [<- hW1];simp [go_sem]
 have d2:W1.cell? ⟨w.heap.size+1,2,none⟩=some (U c.2.2):=by rw [<- hW1];simp [go_sem]
 have hp1:=hp.ext hx1;have hm1:=hm.ext hx1;obtain⟨o1,ho1⟩:=zhj (P:=Tryz.prog) Tryz.underlying208 zd8 hp1 c.1 (f (getL 0 Lp c.1) c.2.1);have HO1:=zH (fun W h=>(ho1 W h));obtain⟨Wd,hWd⟩:∃ Wd,W1.drew=Wd:=⟨_,rfl⟩
 have hxd:Ext W1 Wd:=by rw [<- hWd];exact (Ext.refl W1).drew
 have hl0:=ze5 (hp1.ext hxd) c.1;have hu0:=(ho1 Wd (hxd.block p hp1.lt)).1;have HP:=zH hp;have HM:=zH hm;have HP1:=zH hp1;have HM1:=zH hm1;have c0d:=hxd.cell c0;have c1d:=hxd.cell c1;have d0d:=hxd.cell d0;have d1d:=hxd.cell d1;have d2d:=hxd.cell d2;clear hg ho1 hp hm hp1 hm1;go_enter Tryz.func141,Tryz.ntmps141;go_wp2_with fail;refine wp_region_still_tail 13 (by kernel_rfl) (by kernel_rfl) ?_;simp only [List.take_succ_cons,List.take_zero,List.drop_succ_cons,List.drop_zero];change wpStill _ _ W1.drew (fun a'=>wpList _ _ _ _ a' W1.drew) _ _;rw [hWd]
 repeat still_step
 still_call ((HH.out _ _ _).mono fun e w' h=>⟨h.1,h.2.symm⟩)
 refine wpStill_nil ?_;go_wp2_with fail;have hpw:p < w.heap.size:=HP.out.lt;have hmw:m < w.heap.size:=HM.out.lt;have hpd:Wd.heap[p]? = W1.heap[p]?:=hxd.block p (Nat.lt_of_lt_of_le hpw hx1.size);have hP2:=zH ((HO1.out Wd hpd).2);have ht2:=Turned.put Wd p o1;generalize Wd.putObj p o1=W2 at *;have c0e:=ht2.cell c0d (by omega);have c1e:=ht2.cell c1d (by omega);have d0e:=ht2.cell d0d (by omega);have d1e:=ht2.cell d1d (by omega);have d2e:=ht2.cell d2d (by omega);have hm2:MapIs St U W2 m Lm:=(HM1.out.ext hxd).turned ht2 (fun e=>hne e.symm);obtain⟨o2,ho2⟩:=zhj (P:=Tryz.prog) Tryz.underlying208 zd8 hm2 c.1 (f (getL 0 Lm c.1) c.2.2);have HO2:=zH (fun W h=>(ho2 W h));obtain⟨We,hWe⟩:∃ We,W2.drew=We:=⟨_,rfl⟩
 have hxe:Ext W2 We:=by rw [<- hWe];exact (Ext.refl W2).drew
 have hl2:=ze5 (hm2.ext hxe) c.1;have hu2:=(ho2 We (hxe.block m hm2.lt)).1;have c0f:=hxe.cell c0e;have c1f:=hxe.cell c1e;have d0f:=hxe.cell d0e;have d1f:=hxe.cell d1e;have d2f:=hxe.cell d2e;have HM2:=zH hm2;clear ho2 hm2;refine wp_region_still_tail 13 (by kernel_rfl) (by kernel_rfl) ?_;simp only [List.take_succ_cons,List.take_zero,List.drop_succ_cons,List.drop_zero];change wpStill _ _ W2.drew (fun a'=>wpList _ _ _ _ a' W2.drew) _ _;rw [hWe]
 repeat still_step
 still_call ((HH.out _ _ _).mono fun e w' h=>⟨h.1,h.2.symm⟩)
 refine wpStill_nil ?_;go_wp2_with fail;have hme:We.heap[m]? = W2.heap[m]?:=hxe.block m HM2.out.lt;have hM3:=(HO2.out We hme).2;have ht3:=Turned.put We m o2;generalize We.putObj m o2=W3 at *
 go_end0
 have hP3:=((hP2.out).ext hxe).turned ht3 hne;refine ⟨rfl,hP3,hM3,?_⟩
 exact⟨ht3.os.trans (hxe.os.trans (ht2.os.trans (hxd.os.trans hx1.os))),ht3.tape.trans (hxe.tape.trans (ht2.tape.trans (hxd.tape.trans hx1.tape))),ht3.output.trans (hxe.output.trans (ht2.output.trans (hxd.output.trans hx1.output))),
  by rw [ht3.size];exact Nat.le_trans (hx1.trans hxd).size (by rw [<- ht2.size];exact hxe.size),
  fun j hj hjp hjm=>(ht3.other j hjm).trans ((hxe.block j (by rw [ht2.size];exact Nat.lt_of_lt_of_le hj (hx1.trans hxd).size)).trans ((ht2.other j hjp).trans ((hx1.trans hxd).block j hj)))⟩
theorem ya0:HowOk Tryz.prog 188 max where
 enters:=enters_of Tryz.func188 (by kernel_rfl) rfl
 does a b W:=by go_enter Tryz.func188,Tryz.ntmps188;go_wp2;go_ret;exact⟨by simp [U];omega,rfl⟩
def addU (a b:Nat):Nat:=(a+b) % 18446744073709551616
theorem ztt:HowOk Tryz.prog 189 addU where
 enters:=enters_of Tryz.func189 (by kernel_rfl) rfl
 does a b W:=by go_enter Tryz.func189,Tryz.ntmps189;go_wp2;go_ret;exact⟨by simp [U,addU,IntKind.wrap,IntKind.signed,IntKind.bits],rfl⟩
theorem zli (W:World):Calls Tryz.prog 142 #[] W fun e w'=>e=.returned (.func (.func 189) #[] #[])/\W=w':=by
 go_enter Tryz.func142,Tryz.ntmps142;go_wp2;go_ret;exact⟨rfl,rfl⟩
def putP (f:Nat->Nat->Nat) (L:List (Str × Nat)) (c:zag):List (Str × Nat):=putL L c.1 (f (getL 0 L c.1) c.2.1)
def putM (f:Nat->Nat->Nat) (L:List (Str × Nat)) (c:zag):List (Str × Nat):=putL L c.1 (f (getL 0 L c.1) c.2.2)
def zax (cs:List zag):List (Str × Nat):=cs.foldl (putP max) []
def zaz (cs:List zag):List (Str × Nat):=cs.foldl (putM max) []
theorem zgg {w wr:World} {S:Nat->Prop} {A:Option Addr} {n c:Nat} {l pre post:List zag} {m:zag} (h:Sl zcl w S (.slice A n c) l) (hb:Ext w wr) (hl:l=pre++m :: post) :
  ∃ b o,A=some ⟨b,o,none⟩/\wr.cell? ⟨b,o+pre.length * 3,none⟩=some (St m.1)/\wr.cell? ⟨b,o+pre.length * 3+1,none⟩=some (U m.2.1)/\wr.cell? ⟨b,o+pre.length * 3+2,none⟩=some (U m.2.2):=by
 obtain⟨b,o,vs,c',hv,hS,rfl,hc⟩:=h.at_ hl;injection hv with e1 e2 e3
 subst e1;exact⟨b,o,rfl,hb.cell (hc 0 _ rfl),hb.cell (hc 1 _ rfl),hb.cell (hc 2 _ rfl)⟩
theorem yaw {α:Type} {T:Shape α} {hk:0 < T.k} {w wr:World} {S:Nat->Prop} {A:Option Addr} {n c:Nat} {ls pre post:List (List α)} {l:List α} (h:Sl (slT T hk) w S (.slice A n c) ls) (hb:Ext w wr) (hl:ls=pre++l :: post) :
  ∃ b o v,A=some ⟨b,o,none⟩/\wr.cell? ⟨b,o+pre.length,none⟩=some v/\Sl T w S v l:=by
 obtain⟨b,o,vs,c',hv,hS,⟨v,rfl,hv1⟩,hc⟩:=h.at_ hl;injection hv with e1 e2 e3
 subst e1;have h0:=hc 0 _ rfl;simp only [slT,Nat.mul_one,Nat.add_zero] at h0;exact⟨b,o,v,rfl,hb.cell h0,hv1⟩
theorem Ext.kept2 {w w1 w2:World} {p m:Nat} (h:Ext w w1) (k:Kept2 w1 w2 p m) (hp:w.heap.size<=p) (hm:w.heap.size<=m):Ext w w2 :=
 ⟨k.os.trans h.os,k.tape.trans h.tape,k.output.trans h.output,Nat.le_trans h.size k.size,fun j hj=>(k.other j (Nat.lt_of_lt_of_le hj h.size) (by omega) (by omega)).trans (h.block j hj)⟩
theorem Kept2.cell {w w':World} {p m b o:Nat} {v:Value} (k:Kept2 w w' p m) (h:w.cell? ⟨b,o,none⟩=some v) (hp:b ≠ p) (hm:b ≠ m):w'.cell? ⟨b,o,none⟩=some v :=
 (World.cell?_of_block (a:=⟨b,o,none⟩) (k.other b (zae h) hp hm)).trans h
theorem Kept2.frozen {w w':World} {p m b o:Nat} (k:Kept2 w w' p m) (hb:b < w.heap.size) (hp:b ≠ p) (hm:b ≠ m):w'.frozen? ⟨b,o,none⟩=w.frozen? ⟨b,o,none⟩:=by
 unfold World.frozen?;simp only [];rw [k.other b hb hp hm]
structure SumsAt (w W:World) (cs:List zag):Prop where
 s0:W.cell? ⟨w.heap.size+3,0,none⟩=some (.map (some (w.heap.size+1)))
 s1:W.cell? ⟨w.heap.size+3,1,none⟩=some (.map (some (w.heap.size+2)))
 r0:W.cell? ⟨w.heap.size,0,none⟩=some (.map none)
 r1:W.cell? ⟨w.heap.size,1,none⟩=some (.map none)
 f0:W.frozen? ⟨w.heap.size,0,none⟩=false
 f1:W.frozen? ⟨w.heap.size,1,none⟩=false
 plus:MapIs St U W (w.heap.size+1) (zax cs)
 minus:MapIs St U W (w.heap.size+2) (zaz cs)
 ext:Ext w W
theorem SumsAt.next {w W W':World} {cs:List zag} (h:SumsAt w W cs) (k:Ext W W'):SumsAt w W' cs :=
 ⟨k.cell h.s0,k.cell h.s1,k.cell h.r0,k.cell h.r1,(k.frozen (zae h.r0)).trans h.f0,(k.frozen (zae h.r1)).trans h.f1,h.plus.ext k,h.minus.ext k,h.ext.trans k⟩
theorem SumsAt.put {w W W':World} {cs:List zag} {c:zag} (h:SumsAt w W cs) (hp:MapIs St U W' (w.heap.size+1) (putP max (zax cs) c)) (hm:MapIs St U W' (w.heap.size+2) (putM max (zaz cs) c)) (k:Kept2 W W' (w.heap.size+1) (w.heap.size+2)):SumsAt w W' (cs++[c]) :=
 ⟨k.cell h.s0 (by omega) (by omega),k.cell h.s1 (by omega) (by omega),k.cell h.r0 (by omega) (by omega),k.cell h.r1 (by omega) (by omega),(k.frozen (zae h.r0) (by omega) (by omega)).trans h.f0,(k.frozen (zae h.r1) (by omega) (by omega)).trans h.f1,
  by unfold zax;rw [List.foldl_append];exact hp,by unfold zaz;rw [List.foldl_append];exact hm,h.ext.kept2 k (by omega) (by omega)⟩
theorem zgz {S:Nat->Prop} {v:Value} {ls:List (List zag)} {w:World} (hv:Sl (slT zcl (by decide)) w S v ls) :
  Calls Tryz.prog 140 #[v] w fun e w'=>∃ p m,e=.returned (.agg #[.map (some p),.map (some m)])/\w.heap.size<=p/\w.heap.size<=m/\p ≠ m/\MapIs St U w' p (zax ls.flatten)/\MapIs St U w' m (zaz ls.flatten)/\Ext w w':=by
 have hv':=hv;obtain⟨A,c,rfl,hc1,hc2⟩:=hv.form;have HAT:=zH (fun (pre post:List (List zag)) (l:List zag) (wr:World) (h:Ext w wr) (hl:ls=pre++l :: post)=>yaw hv' h hl);have HP:=zH (fun (c:zag) (W:World) (Lp Lm:List (Str × Nat)) (h1:MapIs St U W (w.heap.size+1) Lp) (h2:MapIs St U W (w.heap.size+2) Lm)=>zor ya0 c h1 h2 (by omega));have hmm:=@run_makeMap Tryz.prog;clear hv hv';go_enter Tryz.func140,Tryz.ntmps140;go_wp2_with fail
 go_loopw [14] (fun i wr=>∃ pre post,ls=pre++post/\i=I pre.length/\SumsAt w wr pre.flatten) (fun i _=>ls.length - (intOf i).toNat)
 case atStart=>refine ⟨[],ls,rfl,rfl,?_⟩;have h1:=MapIs.new (κ:=Str) (ν:=Nat) (K:=St) (V:=U) (w.alloc (.cells #[.map none,.map none] 210));have h2:=MapIs.new (κ:=Str) (ν:=Nat) (K:=St) (V:=U) ((w.alloc (.cells #[.map none,.map none] 210)).alloc (.map #[] 0));simp only [World.size_alloc] at h1 h2;exact⟨by simp [go_sem],by simp [go_sem],by simp [go_sem],by simp [go_sem],by simp [go_sem],by simp [go_sem],(h1.ext ((Ext.refl _).alloc _)).ext ((Ext.refl _).alloc _),h2.ext ((Ext.refl _).alloc _),((((Ext.refl w).alloc _).alloc _).alloc _).alloc _⟩
 case round =>
  obtain⟨pre,post,hl,rfl,hS⟩:=hrel
  cases post with
  | cons l post =>
   obtain⟨b,o,vl,rfl,hd,hsl⟩:=HAT.out pre post l wr hS.ext hl;have hlt:pre.length < ls.length:=(by rw [hl];simp);have hsl':=hsl;obtain⟨A2,c2,rfl,hc3,hc4⟩:=hsl.form;have HL:=zH hl;have HS:=zH hS;have HIN:=zH (fun (pre post:List zag) (x:zag) (wr':World) (h:Ext w wr') (hl:l=pre++x :: post)=>zgg hsl' h hl);clear hl hS hsl hsl';go_wp2_with fail
   go_loopw [20] (fun j wr2=>∃ p2 q2,l=p2++q2/\j=I p2.length/\SumsAt w wr2 (pre.flatten++p2)) (fun j _=>l.length - (intOf j).toNat)
   case atStart=>exact⟨[],l,rfl,rfl,by simpa using HS.out⟩
   case round =>
    obtain⟨p2,q2,hl2,rfl,hS2⟩:=hrel
    cases q2 with
    | cons x q2 =>
     obtain⟨b2,o2,rfl,e0,e1,e2⟩:=HIN.out p2 q2 x wr hS2.ext hl2;have hlt2:p2.length < l.length:=(by rw [hl2];simp);have hx2:=(Ext.refl wr).alloc (.cells #[St x.1,U x.2.1,U x.2.2] 54);have HS2:=zH (hS2.next hx2);obtain⟨s0,s1,r0,r1,f0,f1,hp,hm,hx⟩:=hS2.next hx2;have HPX:=zH (HP.out x _ _ _ hp hm);have t0:=s0;have t1:=s1;obtain⟨s0,s1,r0,r1,f0,f1,hp',hm',hx'⟩:=hS2;have HL2:=zH hl2;clear hl2 hp hm hx hp' hm' hx';go_wp2_with fail;refine HPX.out.mono ?_;rintro e wp ⟨rfl,hpp,hpm,hpk⟩;have HS3:=zH (HS2.out.put hpp hpm hpk);go_wp2;go_roundw
     case rel=>exact⟨p2++[x],q2,by rw [HL2.out];simp,by simp,by rw [<- List.append_assoc];exact HS3.out⟩
     case measure=>simp [intOf];omega
    | nil =>
     rw [List.append_nil] at hl2;subst hl2;have HS2:=zH hS2;clear hS2;go_wp2_with fail;go_roundw
     case rel=>exact⟨pre++[l],post,by rw [HL.out];simp,by simp,by simpa using HS2.out⟩
     case measure=>simp [intOf];omega
  | nil =>
   rw [List.append_nil] at hl;subst hl;obtain⟨s0,s1,r0,r1,f0,f1,hp,hm,hx⟩:=hS;have HP2:=zH hp;have HM2:=zH hm;have HX:=zH hx;clear hp hm hx;go_wp2_with fail
   (try simp only [Exit.inBlock,Exit.then])
   refine bodyPost_ret (v:=.agg #[.map (some (w.heap.size+1)),.map (some (w.heap.size+2))]) (by simp [results,Tryz.f140,go_sem,r0,r1]) rfl ?_;refine ⟨w.heap.size+1,w.heap.size+2,rfl,by omega,by omega,by omega,?_,?_,(HX.out.set (by simp) _).set (by simp) _⟩
   ·exact HP2.out.keep (by rw [Below.heap_setCell _ _ _ _ (by simp),Below.heap_setCell _ _ _ _ (by simp)])
   ·exact HM2.out.keep (by rw [Below.heap_setCell _ _ _ _ (by simp),Below.heap_setCell _ _ _ _ (by simp)])
def subU (a b:Nat):Nat:=(a+(18446744073709551616 - b % 18446744073709551616)) % 18446744073709551616
theorem zca (x:Int):IntKind.u64.wrap x=x % 18446744073709551616:=by simp [IntKind.wrap,IntKind.signed,IntKind.bits]
theorem zqy (t a b:Nat):Value.int .u64 (IntKind.u64.wrap ((t:Int)+IntKind.u64.wrap ((a:Int) - b)))=U (addU t (subU a b)):=by
 unfold U addU subU;rw [zca,zca]
 congr 1
 omega
def ziw (Lm:List (Str × Nat)) (t:Nat) (p:Str × Nat):Nat:=addU t (subU p.2 (getL 0 Lm p.1))
def sumL (Lp Lm:List (Str × Nat)):Nat:=Lp.foldl (ziw Lm) 0
theorem zv9 {A B Lm:List (Str × Nat)} (h:A.Perm B):sumL A Lm=sumL B Lm:=by
 unfold sumL;refine h.foldl_eq' (fun x _ y _ z=>?_) 0;unfold ziw addU;omega
theorem zwa (A Lm:List (Str × Nat)) (p:Str × Nat):sumL (A++[p]) Lm=ziw Lm (sumL A Lm) p:=by simp [sumL]
theorem zo6 {p m:Nat} {Lp Lm:List (Str × Nat)} {w:World} (hp:MapIs St U w p Lp) (hm:MapIs St U w m Lm) :
  Calls Tryz.prog 148 #[.agg #[.map (some p),.map (some m)]] w fun e w'=>e=.returned (I (wrap64 (sumL Lp Lm)))/\Ext w w':=by
 have hx0:=(Ext.refl w).alloc (.cells #[.map (some p),.map (some m)] 210);obtain⟨W1,hr,hR,hx1,hsz⟩:=zcz (P:=Tryz.prog) Tryz.underlying208 (hp.ext hx0);have HR:=zH hR;have HX:=zH (hx0.trans hx1);have HM:=zH hm;have HP:=zH hp;have c0:W1.cell? ⟨w.heap.size,0,none⟩=some (.map (some p)):=hx1.cell (by simp [go_sem]);have c1:W1.cell? ⟨w.heap.size,1,none⟩=some (.map (some m)):=hx1.cell (by simp [go_sem]);clear hR hx1 hm hp;rw [World.size_alloc] at hr;go_enter Tryz.func148,Tryz.ntmps148;go_wp2_with fail
 go_loopw [3] (fun t wr=>∃ done rest,t=U (sumL done Lm)/\(done++rest).Perm Lp/\RangeIs St U wr p (w.heap.size+1) Lp rest/\(wr.cell? ⟨w.heap.size,0,none⟩=some (.map (some p))/\wr.cell? ⟨w.heap.size,1,none⟩=some (.map (some m)))/\Ext w wr) (fun _ wr=>wr.rangeLeft p (w.heap.size+1))
 case atStart=>exact⟨[],Lp,rfl,.refl _,by have:=HR.out;rwa [World.size_alloc] at this,⟨c0,c1⟩,HX.out⟩
 case round =>
  obtain⟨done,rest,rfl,hperm,hR,⟨b0,b1⟩,hx⟩:=hrel;have hm1:=HM.out.ext hx;have hmr:m ≠ w.heap.size+1:=by have:=HM.out.lt;omega
  rcases zdh (P:=Tryz.prog) 0 hR with ⟨rfl,hrun⟩ | ⟨r1,q,r2,wn,rfl,hrun,hR2,ht,hent⟩
  ·have hnx:∀ ty,(Instr.next (.pointer (some ⟨w.heap.size+1,0,none⟩)) false ty).run Tryz.prog wr=.ok (.tuple #[.bool false]) wr:=fun ty=>hrun
   have HV:=zH (zv9 (Lm:=Lm) hperm);clear hperm hR hrun;rw [List.append_nil] at HV;go_wp2_with fail;go_ret;exact⟨by rw [<- HV.out];rfl,hx⟩
  ·have hnx:∀ ty,(Instr.next (.pointer (some ⟨w.heap.size+1,0,none⟩)) false ty).run Tryz.prog wr=.ok (.tuple #[.bool true,St q.1,U q.2]) wn:=fun ty=>hrun
   have b0n:=ht.cell b0 (by omega);have b1n:=ht.cell b1 (by omega);have hlk:=ze5 (hm1.turned ht hmr) q.1;have HML:=zH hR.left_eq;have HMR:=zH hR2.left_eq;have HR2:=zH hR2;have HPM:=zH hperm;have HT:=zH (hx.turned ht (by omega));clear hperm hR hrun hR2 hm1 hx ht;go_wp2_with fail;go_roundw
   case rel=>exact⟨done++[q],r1++r2,(by rw [zwa,ziw];exact zqy _ _ _),(by rw [List.append_assoc];exact ((List.perm_middle (l₁:=r1) (a:=q) (l₂:=r2)).symm.append_left done).trans HPM.out),HR2.out,⟨b0n,b1n⟩,HT.out⟩
   case measure=>rw [HML.out,HMR.out];simp
def zb7 (cs:List zag):Int:=wrap64 (sumL (zax cs) (zaz cs))
theorem zqz {α:Type} {T:Shape α} {hk:0 < T.k} {w:World} {S:Nat->Prop} {v:Value} {l:List α} (t:TypeId) (h:Sl T w S v l):Sl (slT T hk) (w.alloc (.cells #[v] t)) (fun b=>S b ∨ b=w.heap.size) (.slice (some ⟨w.heap.size,0,none⟩) 1 1) [l] :=
 ⟨_,1,rfl,Nat.le_refl _,by omega,fun pre x post hl=>by
  cases pre with
  | nil =>
   simp at hl;obtain⟨rfl,-⟩:=hl
   exact⟨_,0,[v],rfl,.inr rfl,⟨v,rfl,(h.ext hk ((Ext.refl w).alloc _)).mono hk (fun b _ hb=>.inl hb)⟩,fun j u hj=>by
    rw [cell_of_row _ w.heap.size _ #[v] t (0,0) (Go.heap_alloc_new w _)]
    simpa using hj⟩
  | cons a r=>simp at hl⟩
theorem zi6 {S:Nat->Prop} {v:Value} {l:List zag} {w:World} (hv:Sl zcl w S v l) :
  Calls Tryz.prog 101 #[v] w fun e w'=>e=.returned (I (zb7 l))/\Ext w w':=by
 have H1:=zH (zgz (zqz 41 hv));have H2:=zH (fun (p m:Nat) (Lp Lm:List (Str × Nat)) (w:World)=>@zo6 p m Lp Lm w);obtain⟨A,c,rfl,-,-⟩:=hv.form;have hx0:=(Ext.refl w).alloc (.cells #[.slice A l.length c] 41);clear hv;go_enter Tryz.func101,Tryz.ntmps101;go_wp2_with fail;refine H1.out.mono ?_;rintro e w1 ⟨p,m,rfl,-,-,-,hp,hm,hx⟩;have H3:=zH (H2.out _ _ _ _ _ hp hm);clear hp hm;go_wp2_with fail;refine H3.out.mono ?_;rintro e w2 ⟨rfl,hx2⟩;go_wp2;go_ret;exact⟨by simp [zb7],(hx0.trans hx).trans hx2⟩
end
end Go.Proofs.YtaabaflgeljbjaaGreat
