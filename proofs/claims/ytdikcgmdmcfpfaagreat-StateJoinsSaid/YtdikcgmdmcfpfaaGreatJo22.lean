/- Contracts and plain laws. -/
import Derived.Test.YtdikcgmdmcfpfaaGreatJo15
import Derived.Test.YtdikcgmdmcfpfaaGreatJo21
import Derived.Test.YtdikcgmdmcfpfaaGreatJo14
set_option linter.unusedVariables false
set_option linter.unusedSimpArgs false
set_option maxRecDepth 100000
set_option maxHeartbeats 40000000
namespace Go.Proofs.YtdikcgmdmcfpfaaGreat
section
open Go.RowKit
theorem zql {p B:Nat} {L:List (Str × Nat)} {w:World} (hB:w.cell? ⟨B,0,none⟩=some (.map (some p))) (hm:MapIs St U w p L) (hL:L.length<=1099511627776) :
  Calls Tryz.prog 258 #[.func (.func 259) #[] #[.pointer (some ⟨B,0,none⟩)]] w fun e w'=>∃ (v':Value) (ys:List Str),e=.returned v'/\ys.Perm (L.map Prod.fst)/\Own w' w.heap.size 9 1 v' ys.length (ys.flatMap strC)/\Ext w w':=by
 have H:=zH (zn9 hB hm hL);clear hB hm;go_enter Tryz.func258,Tryz.ntmps258;go_wp2_with fail;refine H.out.mono ?_;rintro e w1 ⟨v',ys,rfl,hp,hv,hx⟩;have HV:=zH hv;have HP:=zH hp;clear hv hp;go_wp2_with fail;go_ret;exact⟨_,ys,rfl,HP.out,HV.out,hx⟩
theorem zr1 {p B:Nat} {L:List (Str × Nat)} {w:World} (hB:w.cell? ⟨B,0,none⟩=some (.map (some p))) (hm:MapIs St U w p L) (hL:L.length<=1099511627776) :
  Calls Tryz.prog 228 #[.func (.func 259) #[] #[.pointer (some ⟨B,0,none⟩)]] w fun e w'=>∃ (v':Value) (ys:List Str),e=.returned v'/\ys.Perm (L.map Prod.fst)/\Own w' w.heap.size 9 1 v' (zbo ys).length ((zbo ys).flatMap strC)/\Ext w w':=by
 have H:=zH (zql hB hm hL);clear hB hm;go_enter Tryz.func228,Tryz.ntmps228;go_wp2_with fail;refine H.out.mono ?_;rintro e w1 ⟨v',ys,rfl,hp,hv,hx⟩;have H2:=zH (zo0 hv (by have:=hp.length_eq;simp at this;omega));have HP:=zH hp;clear hv hp;go_wp2_with fail;refine H2.out.mono ?_;rintro e w2 ⟨rfl,hv2,hx2⟩;have HV:=zH hv2;clear hv2;go_wp2_with fail;go_ret;exact⟨_,ys,rfl,HP.out,HV.out,Below.trans hx hx2⟩
end
section
open Go.RowKit
def zbt (Lp Lm:List (Str × Nat)) (ks:List Str):List zad:=(ks.filter fun k=>getL 0 Lp k != 0 || getL 0 Lm k != 0).map fun k=>(k,getL 0 Lp k,getL 0 Lm k)
def zec (Lp Lm:List (Str × Nat)):List zad:=zbt Lp Lm (zbo (Lp.map Prod.fst))
theorem zqo (Lp Lm:List (Str × Nat)) (ks:List Str):(zbt Lp Lm ks).length<=ks.length:=by
 unfold zbt;rw [List.length_map];exact List.length_filter_le _ _
theorem zo1 {tid base:Nat} {v:Value} {l:List Str} {w:World} (h:Own w base tid 1 v l.length (l.flatMap strC)):Sl strT w (fun b=>base<=b) v l :=
 (OwnL.flat_iff (S:=fun b=>base<=b).2 h).sl (by decide) (fun _ _ h=>h) (fun _ h _=>h)
theorem zdw {w wr:World} {S:Nat->Prop} {A:Option Addr} {n c:Nat} {l pre post:List Str} {m:Str} (h:Sl strT w S (.slice A n c) l) (hb:Ext w wr) (hl:l=pre++m :: post) :
  ∃ b o,A=some ⟨b,o,none⟩/\wr.cell? ⟨b,o+pre.length,none⟩=some (St m):=by
 obtain⟨b,o,vs,c',hv,hS,rfl,hc⟩:=h.at_ hl;injection hv with e1 e2 e3
 subst e1;have h0:w.cell? ⟨b,o+pre.length * 1+0,none⟩=some (St m):=hc 0 _ rfl;rw [Nat.mul_one,Nat.add_zero] at h0;exact⟨b,o,rfl,hb.cell h0⟩
theorem zqp {p m:Nat} {Lp Lm:List (Str × Nat)} {w:World} (hp:MapIs St U w p Lp) (hm:MapIs St U w m Lm) (hL:Lp.length<=1099511627776) :
  Calls Tryz.prog 186 #[.agg #[.map (some p),.map (some m)]] w fun e w'=>∃ v',e=.returned v'/\Own w' w.heap.size 93 3 v' (zec Lp Lm).length ((zec Lp Lm).flatMap za6)/\Ext w w':=by
 obtain⟨W1,hW1⟩:∃ W1,w.alloc (.cells #[.map (some p),.map (some m)] 225)=W1:=⟨_,rfl⟩
 have hx1:Ext w W1:=by rw [<- hW1];exact (Ext.refl w).alloc _
 have c0:W1.cell? ⟨w.heap.size,0,none⟩=some (.map (some p)):=by rw [<- hW1];simp [go_sem]
 have c1:W1.cell? ⟨w.heap.size,1,none⟩=some (.map (some m)):=by rw [<- hW1];simp [go_sem]
 have HK:=zH (zvu p W1);have hxk:=(Ext.refl W1).alloc (.cells #[.map (some p)] 223);have HS:=zH (zr1 (B:=W1.heap.size) (by simp [go_sem]) ((hp.ext hx1).ext hxk) hL);have HP:=zH hp;have HM:=zH hm;clear hp hm;go_enter Tryz.func186,Tryz.ntmps186;go_wp2_with fail;refine HK.out.mono ?_;rintro e wk ⟨rfl,rfl⟩;go_wp2_with fail;refine HS.out.mono ?_;rintro e W2 ⟨vk,ys,rfl,hperm,hks,hx2⟩;rw [ztr hperm] at hks;have hkl:(zbo (Lp.map Prod.fst)).length=Lp.length:=by rw [zil];simp
 have HLL:=zH (show zec Lp Lm=zbt Lp Lm (zbo (Lp.map Prod.fst)) from rfl);generalize zbo (Lp.map Prod.fst)=ks at *;have hw2:Ext w W2:=(hx1.trans hxk).trans hx2;have d0:=hx2.cell (hxk.cell c0);have d1:=hx2.cell (hxk.cell c1);have hsl:=zo1 hks;obtain⟨A,c,rfl,hc1,hc2⟩:=hsl.form;have HW2:=zH hw2;have HAT:=zH (fun (pre post:List Str) (x:Str) (wr:World) (h:Ext W2 wr) (hl:ks=pre++x :: post)=>zdw hsl h hl);clear hks hsl hperm hw2 hx2 hxk;go_wp2_with fail
 go_loopw [3,11] (fun l i wr=>∃ pre post,ks=pre++post/\i=I pre.length/\Own wr W2.heap.size 93 3 l (zbt Lp Lm pre).length ((zbt Lp Lm pre).flatMap za6)/\Ext W2 wr) (fun _ i _=>ks.length - (intOf i).toNat)
 case atStart=>exact⟨[],ks,rfl,rfl,Own.nil _ _ _ _ _,Ext.refl _⟩
 case round =>
  obtain⟨pre,post,hl,rfl,hown,hx⟩:=hrel;have b0:=hx.cell d0;have b1:=hx.cell d1
  cases post with
  | cons k post =>
   obtain⟨bk,ok,rfl,hd⟩:=HAT.out pre post k wr hx hl;have hlt:pre.length < ks.length:=(by rw [hl];simp);have hlp:=zfm (HP.out.ext (HW2.out.trans hx)) k;have hlm:=zfm (HM.out.ext (HW2.out.trans hx)) k;have hll:=zqo Lp Lm pre;have HL:=zH hl;have HO:=zH hown;have HX:=zH hx;have hn3:=hx.size;clear hl hx
   by_cases hz:getL 0 Lp k=0/\getL 0 Lm k=0
   ·have HF:=zH (show zbt Lp Lm (pre++[k])=zbt Lp Lm pre by simp [zbt,List.filter_append,hz.1,hz.2]);rw [hz.1] at hlp;rw [hz.2] at hlm;clear hz hown;go_wp2_with fail;go_roundw
    case rel=>exact⟨pre++[k],post,by rw [HL.out];simp,by simp,by rw [HF.out];exact HO.out,HX.out⟩
    case measure=>simp [intOf];omega
   ·have HF:=zH (show zbt Lp Lm (pre++[k])=zbt Lp Lm pre++[(k,getL 0 Lp k,getL 0 Lm k)] by
     have hb:(getL 0 Lp k != 0 || getL 0 Lm k != 0)=true:=by
      by_cases h1:getL 0 Lp k=0
      ·have:getL 0 Lm k ≠ 0:=fun h2=>hz ⟨h1,h2⟩
       simp [this]
      ·simp [h1]
     simp [zbt,List.filter_append,hb])
    by_cases h1:getL 0 Lp k=0
    ·have h2:getL 0 Lm k ≠ 0:=fun h2=>hz ⟨h1,h2⟩
     have h2':(((getL 0 Lm k:Nat):Int) == 0)=false:=(by rw [beq_eq_false_iff_ne];omega);rw [h1] at hlp HF;clear hz h1 h2
     go_wp2_with (at_builtin;refine zab rfl (.tmp 27) (.tmp 38) 32 rfl W2.heap.size 93 3 32 (.agg #[St [],U 0,U 0]) Tryz.underlying32 zcw rfl (by omega) _ (zbt Lp Lm pre).length ((zbt Lp Lm pre).flatMap za6) rfl (hown.alloc _) _ 1 1 _ rfl (Src.new rfl (by intro u hu;simp at hu;rcases hu with rfl | rfl | rfl <;> rfl)) (by omega) (by omega) (by simp;omega) ?_;intro v' w' hown2 hgr)
     go_roundw
     case rel=>exact⟨pre++[k],post,by rw [HL.out];simp,by simp,by rw [HF.out];simpa [za6] using hown2,Ext.grewOwn (HX.out.alloc _) hgr (HO.out.alloc _) (Nat.le_refl _)⟩
     case measure=>simp [intOf];omega
    ·have h1':(((getL 0 Lp k:Nat):Int) == 0)=false:=(by rw [beq_eq_false_iff_ne];omega);clear hz h1
     go_wp2_with (at_builtin;refine zab rfl (.tmp 27) (.tmp 38) 32 rfl W2.heap.size 93 3 32 (.agg #[St [],U 0,U 0]) Tryz.underlying32 zcw rfl (by omega) _ (zbt Lp Lm pre).length ((zbt Lp Lm pre).flatMap za6) rfl (hown.alloc _) _ 1 1 _ rfl (Src.new rfl (by intro u hu;simp at hu;rcases hu with rfl | rfl | rfl <;> rfl)) (by omega) (by omega) (by simp;omega) ?_;intro v' w' hown2 hgr)
     go_roundw
     case rel=>exact⟨pre++[k],post,by rw [HL.out];simp,by simp,by rw [HF.out];simpa [za6] using hown2,Ext.grewOwn (HX.out.alloc _) hgr (HO.out.alloc _) (Nat.le_refl _)⟩
     case measure=>simp [intOf];omega
  | nil=>rw [List.append_nil] at hl;subst hl;have HO:=zH hown;have HX:=zH hx;have hn3:=HW2.out.size;clear hown hx;go_wp2_with fail;go_ret;exact⟨_,rfl,by rw [HLL.out];exact HO.out.lower hn3,HW2.out.trans HX.out⟩
end
section
open Go.RowKit
theorem zz9 {α:Type} {T:Shape α} {hk:0 < T.k} {w:World} {S S':Nat->Prop} {v v':Value} {l l':List α} (t:TypeId) (h:Sl T w S v l) (h':Sl T w S' v' l') :
  Sl (slT T hk) (w.alloc (.cells #[v,v'] t)) (fun _=>True) (.slice (some ⟨w.heap.size,0,none⟩) 2 2) [l,l'] :=
 ⟨_,2,rfl,Nat.le_refl _,by omega,fun pre x post hl=>by
  cases pre with
  | nil =>
   simp at hl;obtain⟨rfl,-⟩:=hl
   exact⟨_,0,[v],rfl,trivial,⟨v,rfl,(h.ext hk ((Ext.refl w).alloc _)).mono hk (fun b _ hb=>trivial)⟩,fun j u hj=>by
    rw [cell_of_row _ w.heap.size _ #[v,v'] t (0,0) (Go.heap_alloc_new w _)]
    cases j with
    | zero=>simpa using hj
    | succ j=>simp at hj⟩
  | cons a r =>
   cases r with
   | nil =>
    simp at hl;obtain⟨rfl,rfl,-⟩:=hl
    exact⟨_,0,[v'],rfl,trivial,⟨v',rfl,(h'.ext hk ((Ext.refl w).alloc _)).mono hk (fun b _ hb=>trivial)⟩,fun j u hj=>by
     rw [cell_of_row _ w.heap.size _ #[v,v'] t (0,0) (Go.heap_alloc_new w _)]
     cases j with
     | zero=>simpa [slT] using hj
     | succ j=>simp at hj⟩
   | cons b r=>simp at hl⟩
theorem zqq (L:List (Str × Nat)) (k:Str) (v:Nat):(putL L k v).length<=L.length+1:=by
 unfold putL
 split <;> simp
theorem znf (cs:List zad):(zbn cs).length<=cs.length:=by
 have:∀ (cs:List zad) (L:List (Str × Nat)),(cs.foldl (putP max) L).length<=L.length+cs.length:=by
  intro cs
  induction cs with
  | nil=>simp
  | cons c r ih=>intro L;rw [List.foldl_cons];refine Nat.le_trans (ih _) ?_;have:=zqq L c.1 (max (getL 0 L c.1) c.2.1);unfold putP;simp only [List.length_cons];omega
 simpa [zbn] using this cs []
def zbl (a b:List zad):List zad:=zec (zbn (a++b)) (zbp (a++b))
theorem zv6 {S S':Nat->Prop} {va vb:Value} {a b:List zad} {w:World} (ha:Sl zbh w S va a) (hb:Sl zbh w S' vb b) (hl:a.length+b.length<=1099511627776) :
  Calls Tryz.prog 106 #[va,vb] w fun e w'=>∃ v',e=.returned v'/\Own w' w.heap.size 93 3 v' (zbl a b).length ((zbl a b).flatMap za6)/\Ext w w':=by
 have H1:=zH (zh1 (zz9 32 ha hb));have H2:=zH (fun (p m:Nat) (Lp Lm:List (Str × Nat)) (w:World)=>@zqp p m Lp Lm w);have hlen:(zbn (a++b)).length<=1099511627776:=Nat.le_trans (znf _) (by simpa using hl);obtain⟨A,c,rfl,-,-⟩:=ha.form;obtain⟨A',c',rfl,-,-⟩:=hb.form;have hx0:=(Ext.refl w).alloc (.cells #[.slice A a.length c,.slice A' b.length c'] 32);clear ha hb;go_enter Tryz.func106,Tryz.ntmps106;go_wp2_with fail;refine H1.out.mono ?_;rintro e w1 ⟨p,m,rfl,-,-,-,hp,hm,hx⟩;have H3:=zH (H2.out _ _ _ _ _ hp hm (by simpa using hlen));clear hp hm;go_wp2_with fail;refine H3.out.mono ?_;rintro e w2 ⟨v',rfl,hv,hx2⟩;have HV:=zH hv;have hle:=(hx0.trans hx).size;clear hv;go_wp2_with fail;go_ret;exact⟨_,rfl,by simpa [zbl] using HV.out.lower hle,(hx0.trans hx).trans hx2⟩
end
section
open Go.RowKit
def zd3:Option Str->List zad->Bool
 | _,[]=>true
 | o,c :: r=>!(c.2.1 == 0 && c.2.2 == 0) && (match o with | none=>true | some s=>ltS s c.1) && zd3 (some c.1) r
def mayL (l:List zad):Bool:=zd3 none l
theorem zx2 {S:Nat->Prop} {v:Value} {l:List zad} {w:World} (hv:Sl zbh w S v l) :
  Calls Tryz.prog 119 #[v] w fun e w'=>e=.returned (.bool (mayL l))/\Ext w w':=by
 have hv':=hv;obtain⟨A,c,rfl,h1,h2⟩:=hv.form;clear hv;go_enter Tryz.func119,Tryz.ntmps119;go_wp2
 go_loopw [7] (fun i wr=>∃ pre post,l=pre++post/\i=I pre.length/\mayL l=zd3 (pre.getLast?.map (·.1)) post/\Ext w wr) (fun i _=>l.length - (intOf i).toNat)
 case atStart=>exact⟨[],l,rfl,rfl,rfl,Ext.refl _⟩
 case round =>
  obtain⟨pre,post,hl,rfl,hm,hb⟩:=hrel
  cases post with
  | cons m post =>
   obtain⟨b,o,rfl,hd0,hd1,hd2⟩:=zc9 hv' hb hl;have hlt:pre.length < l.length:=(by rw [hl];simp);have hxa:=hb.alloc (.cells #[St m.1,U m.2.1,U m.2.2] 93);have HB:=zH hb
   by_cases hz:m.2.1=0/\m.2.2=0
   ·have HM:=zH (show mayL l=false by rw [hm];simp [zd3,hz.1,hz.2]);obtain⟨ms,mp,mm⟩:=m;obtain⟨rfl,rfl⟩:mp=0/\mm=0:=hz;clear hl hm hv';go_wp2;go_quiet (fail);go_wp2;go_ret;exact⟨by rw [HM.out];rfl,hxa.drewN _⟩
   ·have hzz:(m.2.1 == 0 && m.2.2 == 0)=false:=by
     by_cases h:m.2.1=0
     ·have:m.2.2 ≠ 0:=fun h2=>hz ⟨h,h2⟩
      simp [this]
     ·simp [h]
    rcases List.eq_nil_or_concat pre with rfl | ⟨pre',q,rfl⟩
    ·have HL:=zH hl;have HM:=zH (show mayL l=zd3 (some m.1) post by rw [hm];simp [zd3,hzz]);simp only [List.length_nil,Nat.zero_mul,Nat.add_zero] at hd0 hd1 hd2 hlt ⊢
     by_cases hp0:m.2.1=0
     ·obtain⟨ms,mp,mm⟩:=m;obtain rfl:mp=0:=hp0;have hm0:((mm:Int) == 0)=false:=(by rw [beq_eq_false_iff_ne];intro h;exact hz ⟨rfl,by simpa using h⟩);clear hz hzz hl hm hv';go_wp2;go_quiet (fail);go_wp2;go_roundw
      case rel=>refine ⟨_,post,HL.out.trans (List.append_cons _ _ _),by simp,by rw [HM.out];simp,hxa.drewN _⟩
      case measure=>simp [intOf];omega
     ·have hp1:((m.2.1:Int) == 0)=false:=(by rw [beq_eq_false_iff_ne];omega);clear hz hzz hl hm hv' hp0;go_wp2;go_quiet (fail);go_wp2;go_roundw
      case rel=>refine ⟨_,post,HL.out.trans (List.append_cons _ _ _),by simp,by rw [HM.out];simp,hxa.drewN _⟩
      case measure=>simp [intOf];omega
    ·have hl2:l=pre'++q :: (m :: post):=(by rw [hl];simp);obtain⟨b',o',e,hq0,hq1,hq2⟩:=zc9 hv' hb hl2;cases e;have hlq:pre'.length < l.length:=(by rw [hl2];simp);have HL:=zH hl;simp only [List.length_concat] at hd0 hd1 hd2 hlt ⊢;clear hl2;have hxw:=(Ext.refl wr).alloc (.cells #[St m.1,U m.2.1,U m.2.2] 93);have hq0':=hxw.cell hq0;have hm0':(wr.alloc (.cells #[St m.1,U m.2.1,U m.2.2] 93)).cell? ⟨wr.heap.size,0,none⟩=some (St m.1):=(by simp [go_sem]);have hm1':(wr.alloc (.cells #[St m.1,U m.2.1,U m.2.2] 93)).cell? ⟨wr.heap.size,1,none⟩=some (U m.2.1):=(by simp [go_sem]);have hm2':(wr.alloc (.cells #[St m.1,U m.2.1,U m.2.2] 93)).cell? ⟨wr.heap.size,2,none⟩=some (U m.2.2):=(by simp [go_sem]);have k0:(0:Int)<=(pre'.length:Int):=(by omega);have k1:((pre'.length:Int)) < (l.length:Int):=(by omega);have k2:((pre'.length:Int)+1) > 0:=(by omega);have k3:(((pre'.length+1:Nat):Int)) > 0:=(by omega);have k4:IntKind.i64.wrap ((pre'.length:Int)+1 - 1)=pre'.length:=(by rw [show (pre'.length:Int)+1 - 1=pre'.length by omega];simp [IntKind.wrap,IntKind.signed,IntKind.bits];omega);have k5:IntKind.i64.wrap (pre'.length:Int)=pre'.length:=(by simp [IntKind.wrap,IntKind.signed,IntKind.bits];omega);have k6:((pre'.length:Int)).toNat=pre'.length:=(by omega);rcases zci q.1 m.1 with ⟨q1,q2,q3,q4,q5⟩ | qq | ⟨q1,q2,q3,q4,q5⟩
     ·have HM:=zH (show mayL l=zd3 (some m.1) post by rw [hm];simp [zd3,hzz,q1])
      by_cases hp0:m.2.1=0
      ·obtain⟨ms,mp,mm⟩:=m;obtain rfl:mp=0:=hp0;have hm0:((mm:Int) == 0)=false:=(by rw [beq_eq_false_iff_ne];intro h;exact hz ⟨rfl,by simpa using h⟩);clear hz hzz hl hm hv';go_wp2;generalize wr.alloc _=W1 at *;go_quiet (fail);go_wp2;go_roundw
       case rel=>refine ⟨_,post,HL.out.trans (List.append_cons _ _ _),by simp <;> omega,by rw [HM.out];simp,hxa.drewN _⟩
       case measure=>simp [intOf];omega
      ·have hp1:((m.2.1:Int) == 0)=false:=(by rw [beq_eq_false_iff_ne];omega);clear hz hzz hl hm hv' hp0;go_wp2;generalize wr.alloc _=W1 at *;go_quiet (fail);go_wp2;go_roundw
       case rel=>refine ⟨_,post,HL.out.trans (List.append_cons _ _ _),by simp <;> omega,by rw [HM.out];simp,hxa.drewN _⟩
       case measure=>simp [intOf];omega
     ·have HM:=zH (show mayL l=false by rw [hm];simp [zd3,hzz,qq,zal]);obtain⟨qs,qp,qm⟩:=q;obtain rfl:qs=m.1:=qq;have q0:ltS m.1 m.1=false:=zal _
      by_cases hp0:m.2.1=0
      ·obtain⟨ms,mp,mm⟩:=m;obtain rfl:mp=0:=hp0;have hm0:((mm:Int) == 0)=false:=(by rw [beq_eq_false_iff_ne];intro h;exact hz ⟨rfl,by simpa using h⟩);clear hz hzz hl hm hv';go_wp2;generalize wr.alloc _=W1 at *;go_quiet (fail);go_wp2;go_ret;exact⟨by rw [HM.out];rfl,hxa.drewN _⟩
      ·have hp1:((m.2.1:Int) == 0)=false:=(by rw [beq_eq_false_iff_ne];omega);clear hz hzz hl hm hv' hp0;go_wp2;generalize wr.alloc _=W1 at *;go_quiet (fail);go_wp2;go_ret;exact⟨by rw [HM.out];rfl,hxa.drewN _⟩
     ·have HM:=zH (show mayL l=false by rw [hm];simp [zd3,hzz,q1])
      by_cases hp0:m.2.1=0
      ·obtain⟨ms,mp,mm⟩:=m;obtain rfl:mp=0:=hp0;have hm0:((mm:Int) == 0)=false:=(by rw [beq_eq_false_iff_ne];intro h;exact hz ⟨rfl,by simpa using h⟩);clear hz hzz hl hm hv';go_wp2;generalize wr.alloc _=W1 at *;go_quiet (fail);go_wp2;go_ret;exact⟨by rw [HM.out];rfl,hxa.drewN _⟩
      ·have hp1:((m.2.1:Int) == 0)=false:=(by rw [beq_eq_false_iff_ne];omega);clear hz hzz hl hm hv' hp0;go_wp2;generalize wr.alloc _=W1 at *;go_quiet (fail);go_wp2;go_ret;exact⟨by rw [HM.out];rfl,hxa.drewN _⟩
  | nil=>rw [List.append_nil] at hl;subst hl;have HM:=zH hm;clear hm hv';go_wp2;go_ret;exact⟨by rw [HM.out];rfl,hb⟩
end
section
open Go.RowKit
def upOf (n:Int):Nat:=if n > 0 then n.toNat else 0
def zd7 (n:Int):Nat:=if n > 0 then 0 else (-n).toNat
def zp4 (v n:Int):Bool:=!(decide (n > 0) && decide (v > 9223372036854775807 - n)) && !(decide (n < 0) && decide (v < -9223372036854775808 - n))
def zdn (a b:Nat):Bool:=decide (a<=9223372036854775808) && decide (b<=9223372036854775808 - a)
def zp5 (l:List zad) (s:Str) (n:Int):Bool:=zp4 (zdl l) n && (zdn (getL 0 (zbn l) s) (upOf n) && zdn (getL 0 (zbp l) s) (zd7 n))
def addL (l:List zad) (s:Str) (n:Int):List zad:=zec (putP addU (zbn l) (s,upOf n,zd7 n)) (putM addU (zbp l) (s,upOf n,zd7 n))
def addC (l:List zad) (s:Str) (n:Int):List zad × Nat:=if zp5 l s n then (addL l s n,0) else ([],9)
theorem zo2 (x:Int):-9223372036854775808<=wrap64 x/\wrap64 x<=9223372036854775807:=by
 unfold wrap64;omega
theorem zx3 {S:Nat->Prop} {v:Value} {l:List zad} {w:World} (s:Str) (n:Int) (hn1:-9223372036854775808<=n) (hn2:n<=9223372036854775807) (hv:Sl zbh w S v l) (hl:l.length < 1099511627776) :
  Calls Tryz.prog 156 #[v,St s,I n] w fun e w'=>∃ v',e=.returned (.tuple #[v',I (addC l s n).2])/\Own w' w.heap.size 93 3 v' (addC l s n).1.length ((addC l s n).1.flatMap za6)/\Ext w w':=by
 have H1:=zH (zh1 (zv4 32 hv));have H2:=zH (fun (p m:Nat) (Lp Lm:List (Str × Nat)) (w:World)=>@zoz p m Lp Lm w);obtain⟨A,c,rfl,-,-⟩:=hv.form;have hx0:=(Ext.refl w).alloc (.cells #[.slice A l.length c] 32);have hV:=zo2 (sumL (zbn l) (zbp l));have HV:=zH (show zdl l=wrap64 (sumL (zbn l) (zbp l)) from rfl);have hlen:=znf l;clear hv;go_enter Tryz.func156,Tryz.ntmps156;go_wp2_with fail;refine H1.out.mono ?_;rintro e w1 ⟨p,m,rfl,hpb,hmb,hpm,hp,hm,hx⟩;have hx2:=(Ext.refl w1).alloc (.cells #[.map (some p),.map (some m)] 225);simp only [List.flatten_cons,List.flatten_nil,List.append_nil] at hp hm;have H3:=zH (H2.out _ _ _ _ _ (hp.ext hx2) (hm.ext hx2));have b0:(w1.alloc (.cells #[.map (some p),.map (some m)] 225)).cell? ⟨w1.heap.size,0,none⟩=some (.map (some p)):=by simp [go_sem]
 have b1:(w1.alloc (.cells #[.map (some p),.map (some m)] 225)).cell? ⟨w1.heap.size,1,none⟩=some (.map (some m)):=by simp [go_sem]
 have HP:=zH hp;have HM:=zH hm;have HX:=zH ((hx0.trans hx).trans hx2);have hpw:=hp.lt;have hmw:=hm.lt;have hpb2:w.heap.size<=p:=Nat.le_trans hx0.size hpb;have hmb2:w.heap.size<=m:=Nat.le_trans hx0.size hmb;clear hp hm hx;go_wp2_with fail;refine H3.out.mono ?_;rintro e w2 ⟨rfl,hx3⟩;have c0:=hx3.cell b0;have c1:=hx3.cell b1;have HX2:=zH (HX.out.trans hx3);have hp2:=(HP.out.ext hx2).ext hx3;have hm2:=(HM.out.ext hx2).ext hx3;have hw12:=(hx2.trans hx3).size;simp only [List.flatten_cons,List.flatten_nil,List.append_nil];generalize hVV:wrap64 (sumL (zbn l) (zbp l))=V at *;clear hVV b0 b1 hx2 hx3
 by_cases hf:zp4 V n=true
 ·have HF:=zH (show zp5 l s n=(zdn (getL 0 (zbn l) s) (upOf n) && zdn (getL 0 (zbp l) s) (zd7 n)) by unfold zp5;rw [HV.out,hf];rfl);unfold zp4 at hf;simp only [Bool.and_eq_true,Bool.not_eq_true',Bool.and_eq_false_iff,decide_eq_false_iff_not] at hf;obtain⟨hf1,hf2⟩:=hf;have hT:=zH zqj;have HPUT:=zH (fun (W:World) (h1:MapIs St U W p (zbn l)) (h2:MapIs St U W m (zbp l))=>zs6 zzg (s,upOf n,zd7 n) h1 h2 hpm)
  have HLIST:=zH (fun (W:World) (h1:MapIs St U W p (putP addU (zbn l) (s,upOf n,zd7 n))) (h2:MapIs St U W m (putM addU (zbp l) (s,upOf n,zd7 n)))=>zqp h1 h2 (by refine Nat.le_trans (zqq _ _ _) ?_;omega))
  have HADD:=zH (show addC l s n=if (zdn (getL 0 (zbn l) s) (upOf n) && zdn (getL 0 (zbp l) s) (zd7 n)) then (addL l s n,0) else ([],9) by unfold addC;rw [HF.out]);have HAL:=zH (show addL l s n=zec (putP addU (zbn l) (s,upOf n,zd7 n)) (putM addU (zbp l) (s,upOf n,zd7 n)) from rfl);obtain⟨Wd,hWd⟩:∃ Wd,w2.drew=Wd:=⟨_,rfl⟩
  have hxd:Ext w2 Wd:=by rw [<- hWd];exact (Ext.refl w2).drew
  have hl0:=zfm (hp2.ext hxd) s;have hl1:=zfm (hm2.ext hxd) s;have c0d:=hxd.cell c0;have c1d:=hxd.cell c1;have HPD:=zH (hp2.ext hxd);have HMD:=zH (hm2.ext hxd);have HXD:=zH (HX2.out.trans hxd);obtain⟨a,ha⟩:∃ a,getL 0 (zbn l) s=a:=⟨_,rfl⟩
  obtain⟨b,hb⟩:∃ b,getL 0 (zbp l) s=b:=⟨_,rfl⟩
  rw [ha] at hl0 HADD;rw [hb] at hl1 HADD;clear ha hb HF
  have hways:∃ up down:Nat,upOf n=up/\zd7 n=down/\((∃ k:Nat,0 < k/\n=(k:Int)/\up=k/\down=0) ∨ (n=0/\up=0/\down=0) ∨ (∃ k:Nat,0 < k/\n = -(k:Int)/\up=0/\down=k)):=by
   refine ⟨_,_,rfl,rfl,?_⟩
   by_cases h0:n > 0
   ·exact .inl ⟨n.toNat,by omega,by omega,by simp [upOf,h0],by simp [zd7,h0]⟩
   ·by_cases h1:n=0
    ·subst h1;exact .inr (.inl ⟨rfl,rfl,rfl⟩)
    ·exact .inr (.inr ⟨(-n).toNat,by omega,by omega,by simp [upOf,h0],by simp [zd7,h0]⟩)
  obtain⟨up,down,hu,hd,hw⟩:=hways;rw [hu,hd] at HADD HAL HPUT HLIST;clear hu hd;rcases hw with ⟨k,k0,rfl,rfl,rfl⟩ | ⟨rfl,rfl,rfl⟩ | ⟨k,k0,rfl,rfl,rfl⟩
  ·have h1:¬ V > 9223372036854775807 - (up:Int):=hf1.resolve_left (fun h=>h (by omega));have h2:¬ (up:Int) < 0:=(by omega);have h3:(up:Int) > 0:=(by omega);have h4:IntKind.u64.wrap (up:Int)=up:=(by rw [zcg];omega);clear hf1 hf2;go_wp2_with fail;clear h1 h2 h3 h4;refine wp_region_still_tail 9 (by kernel_rfl) (by kernel_rfl) ?_;simp only [List.take_succ_cons,List.take_zero,List.drop_succ_cons,List.drop_zero];change wpStill _ _ w2.drew (fun a'=>wpList _ _ _ _ a' w2.drew) _ _;rw [hWd]
   repeat still_step
   refine wpStill_nil ?_
   have hbad:¬ (a<=9223372036854775808/\up<=9223372036854775808 - a/\b<=9223372036854775808/\0<=9223372036854775808 - b)->addC l s (up:Int)=([],9):=fun h=>by
    rw [HADD.out]
    have:(zdn a up && zdn b 0)=false:=by unfold zdn;rw [<- Bool.not_eq_true];intro h2;simp only [Bool.and_eq_true,decide_eq_true_eq] at h2;exact h ⟨h2.1.1,h2.1.2,h2.2.1,h2.2.2⟩
    rw [this];rfl
   have HBAD:=zH hbad;clear hbad
   by_cases q1:a<=9223372036854775808
   ·have p1:¬ (a:Int) > 9223372036854775808:=(by omega);have p1w:IntKind.u64.wrap (9223372036854775808 - (a:Int))=9223372036854775808 - (a:Int):=by rw [zcg];omega
    by_cases q2:up<=9223372036854775808 - a
    ·have p2:¬ ((up:Nat):Int) > 9223372036854775808 - (a:Int):=(by omega);have p2':¬ 9223372036854775808 - (a:Int) < 0:=by omega
     by_cases q3:b<=9223372036854775808
     ·have p3:¬ (b:Int) > 9223372036854775808:=(by omega);have p3w:IntKind.u64.wrap (9223372036854775808 - (b:Int))=9223372036854775808 - (b:Int):=by rw [zcg];omega
      by_cases q4:0<=9223372036854775808 - b
      ·have p4:¬ ((0:Nat):Int) > 9223372036854775808 - (b:Int):=(by omega);have p4':¬ 9223372036854775808 - (b:Int) < 0:=(by omega);have HOK:=zH (show addC l s (up:Int)=(addL l s (up:Int),0) by rw [HADD.out];simp [zdn,q1,q2,q3,q4]);have q1n:¬ 9223372036854775808 < a:=(by omega);have q3n:¬ 9223372036854775808 < b:=(by omega);go_wp2_with fail;clear q1 q2 q3 q4 q1n q3n;clear p1 p1w p2 p2' p3 p3w p4 p4';obtain⟨We,hWe⟩:∃ We,Wd.drew=We:=⟨_,rfl⟩
       have hxe:Ext Wd We:=(by rw [<- hWe];exact (Ext.refl Wd).drew);have c0e:=hxe.cell c0d;have c1e:=hxe.cell c1d;have HPE:=zH (HPUT.out We (HPD.out.ext hxe) (HMD.out.ext hxe));have HXE:=zH (HXD.out.trans hxe);refine wp_region_still_tail 6 (by kernel_rfl) (by kernel_rfl) ?_;simp only [List.take_succ_cons,List.take_zero,List.drop_succ_cons,List.drop_zero];change wpStill _ _ Wd.drew (fun a'=>wpList _ _ _ _ a' Wd.drew) _ _;rw [hWe]
       repeat still_step
       still_call ((hT.out _).mono fun e w' h=>⟨h.1,h.2.symm⟩)
       refine wpStill_nil ?_;go_wp2_with fail;refine HPE.out.mono ?_;rintro e W5 ⟨rfl,hp5,hm5,hk5⟩;have c05:=hk5.cell c0e (by omega) (by omega);have c15:=hk5.cell c1e (by omega) (by omega);have HL5:=zH (HLIST.out W5 hp5 hm5);have HX5:=zH (Ext.kept2 HXE.out hk5 (by omega) (by omega));clear hp5 hm5 hk5;go_wp2_with fail;refine HL5.out.mono ?_;rintro e W6 ⟨v',rfl,hv6,hx6⟩;rw [<- HAL.out] at hv6;have HV6:=zH hv6;have hff:=hv6.form;obtain⟨Av,cv,rfl,-,-⟩:=hff;have hs5:=HX5.out.size;clear hv6;go_wp2_with fail
       go_ret2
       exact⟨_,by rw [HOK.out];rfl,by rw [HOK.out];exact HV6.out.lower hs5,HX5.out.trans hx6⟩
      ·exact absurd (Nat.zero_le _) q4
     ·have p3:(b:Int) > 9223372036854775808:=(by omega);have HB2:=zH (HBAD.out (fun h=>q3 h.2.2.1));have q1n:¬ 9223372036854775808 < a:=(by omega);go_wp2_with fail
      go_ret2
      exact⟨_,by rw [HB2.out];rfl,by rw [HB2.out];exact Own.nil _ _ _ _ _,HXD.out⟩
    ·have p2:((up:Nat):Int) > 9223372036854775808 - (a:Int):=(by omega);have HB2:=zH (HBAD.out (fun h=>q2 h.2.1));have q1n:¬ 9223372036854775808 < a:=(by omega);go_wp2_with fail
     go_ret2
     exact⟨_,by rw [HB2.out];rfl,by rw [HB2.out];exact Own.nil _ _ _ _ _,HXD.out⟩
   ·have p1:(a:Int) > 9223372036854775808:=(by omega);have HB2:=zH (HBAD.out (fun h=>q1 h.1));go_wp2_with fail
    go_ret2
    exact⟨_,by rw [HB2.out];rfl,by rw [HB2.out];exact Own.nil _ _ _ _ _,HXD.out⟩
  ·clear hf1 hf2;go_wp2_with fail;refine wp_region_still_tail 9 (by kernel_rfl) (by kernel_rfl) ?_;simp only [List.take_succ_cons,List.take_zero,List.drop_succ_cons,List.drop_zero];change wpStill _ _ w2.drew (fun a'=>wpList _ _ _ _ a' w2.drew) _ _;rw [hWd]
   repeat still_step
   refine wpStill_nil ?_
   have hbad:¬ (a<=9223372036854775808/\0<=9223372036854775808 - a/\b<=9223372036854775808/\0<=9223372036854775808 - b)->addC l s 0=([],9):=fun h=>by
    rw [HADD.out]
    have:(zdn a 0 && zdn b 0)=false:=by unfold zdn;rw [<- Bool.not_eq_true];intro h2;simp only [Bool.and_eq_true,decide_eq_true_eq] at h2;exact h ⟨h2.1.1,h2.1.2,h2.2.1,h2.2.2⟩
    rw [this];rfl
   have HBAD:=zH hbad;clear hbad
   by_cases q1:a<=9223372036854775808
   ·have p1:¬ (a:Int) > 9223372036854775808:=(by omega);have p1w:IntKind.u64.wrap (9223372036854775808 - (a:Int))=9223372036854775808 - (a:Int):=by rw [zcg];omega
    by_cases q2:0<=9223372036854775808 - a
    ·have p2:¬ ((0:Nat):Int) > 9223372036854775808 - (a:Int):=(by omega);have p2':¬ 9223372036854775808 - (a:Int) < 0:=by omega
     by_cases q3:b<=9223372036854775808
     ·have p3:¬ (b:Int) > 9223372036854775808:=(by omega);have p3w:IntKind.u64.wrap (9223372036854775808 - (b:Int))=9223372036854775808 - (b:Int):=by rw [zcg];omega
      by_cases q4:0<=9223372036854775808 - b
      ·have p4:¬ ((0:Nat):Int) > 9223372036854775808 - (b:Int):=(by omega);have p4':¬ 9223372036854775808 - (b:Int) < 0:=(by omega);have HOK:=zH (show addC l s 0=(addL l s 0,0) by rw [HADD.out];simp [zdn,q1,q2,q3,q4]);have q1n:¬ 9223372036854775808 < a:=(by omega);have q3n:¬ 9223372036854775808 < b:=(by omega);go_wp2_with fail;clear q1 q2 q3 q4 q1n q3n;clear p1 p1w p2 p2' p3 p3w p4 p4';obtain⟨We,hWe⟩:∃ We,Wd.drew=We:=⟨_,rfl⟩
       have hxe:Ext Wd We:=(by rw [<- hWe];exact (Ext.refl Wd).drew);have c0e:=hxe.cell c0d;have c1e:=hxe.cell c1d;have HPE:=zH (HPUT.out We (HPD.out.ext hxe) (HMD.out.ext hxe));have HXE:=zH (HXD.out.trans hxe);refine wp_region_still_tail 6 (by kernel_rfl) (by kernel_rfl) ?_;simp only [List.take_succ_cons,List.take_zero,List.drop_succ_cons,List.drop_zero];change wpStill _ _ Wd.drew (fun a'=>wpList _ _ _ _ a' Wd.drew) _ _;rw [hWe]
       repeat still_step
       still_call ((hT.out _).mono fun e w' h=>⟨h.1,h.2.symm⟩)
       refine wpStill_nil ?_;go_wp2_with fail;refine HPE.out.mono ?_;rintro e W5 ⟨rfl,hp5,hm5,hk5⟩;have c05:=hk5.cell c0e (by omega) (by omega);have c15:=hk5.cell c1e (by omega) (by omega);have HL5:=zH (HLIST.out W5 hp5 hm5);have HX5:=zH (Ext.kept2 HXE.out hk5 (by omega) (by omega));clear hp5 hm5 hk5;go_wp2_with fail;refine HL5.out.mono ?_;rintro e W6 ⟨v',rfl,hv6,hx6⟩;rw [<- HAL.out] at hv6;have HV6:=zH hv6;have hff:=hv6.form;obtain⟨Av,cv,rfl,-,-⟩:=hff;have hs5:=HX5.out.size;clear hv6;go_wp2_with fail
       go_ret2
       exact⟨_,by rw [HOK.out];rfl,by rw [HOK.out];exact HV6.out.lower hs5,HX5.out.trans hx6⟩
      ·exact absurd (Nat.zero_le _) q4
     ·have p3:(b:Int) > 9223372036854775808:=(by omega);have HB2:=zH (HBAD.out (fun h=>q3 h.2.2.1));have q1n:¬ 9223372036854775808 < a:=(by omega);go_wp2_with fail
      go_ret2
      exact⟨_,by rw [HB2.out];rfl,by rw [HB2.out];exact Own.nil _ _ _ _ _,HXD.out⟩
    ·exact absurd (Nat.zero_le _) q2
   ·have p1:(a:Int) > 9223372036854775808:=(by omega);have HB2:=zH (HBAD.out (fun h=>q1 h.1));go_wp2_with fail
    go_ret2
    exact⟨_,by rw [HB2.out];rfl,by rw [HB2.out];exact Own.nil _ _ _ _ _,HXD.out⟩
  ·have h1:¬ V < -9223372036854775808 - -(down:Int):=hf2.resolve_left (fun h=>h (by omega));have h1':¬ V < -9223372036854775808+(down:Int):=(by omega);have h2:-(down:Int) < 0:=(by omega);have h3:¬ (-(down:Int)) > 0:=(by omega);obtain⟨X,hX⟩:∃ X,IntKind.u64.wrap (-(down:Int))=X:=⟨_,rfl⟩
   have h6:IntKind.u64.wrap (-X)=down:=(by rw [<- hX,zcg,zcg];omega);clear hf1 hf2;go_wp2_with fail;clear h1 h1' h2 h3 hX h6;refine wp_region_still_tail 9 (by kernel_rfl) (by kernel_rfl) ?_;simp only [List.take_succ_cons,List.take_zero,List.drop_succ_cons,List.drop_zero];change wpStill _ _ w2.drew (fun a'=>wpList _ _ _ _ a' w2.drew) _ _;rw [hWd]
   repeat still_step
   refine wpStill_nil ?_
   have hbad:¬ (a<=9223372036854775808/\0<=9223372036854775808 - a/\b<=9223372036854775808/\down<=9223372036854775808 - b)->addC l s (-(down:Int))=([],9):=fun h=>by
    rw [HADD.out]
    have:(zdn a 0 && zdn b down)=false:=by unfold zdn;rw [<- Bool.not_eq_true];intro h2;simp only [Bool.and_eq_true,decide_eq_true_eq] at h2;exact h ⟨h2.1.1,h2.1.2,h2.2.1,h2.2.2⟩
    rw [this];rfl
   have HBAD:=zH hbad;clear hbad
   by_cases q1:a<=9223372036854775808
   ·have p1:¬ (a:Int) > 9223372036854775808:=(by omega);have p1w:IntKind.u64.wrap (9223372036854775808 - (a:Int))=9223372036854775808 - (a:Int):=by rw [zcg];omega
    by_cases q2:0<=9223372036854775808 - a
    ·have p2:¬ ((0:Nat):Int) > 9223372036854775808 - (a:Int):=(by omega);have p2':¬ 9223372036854775808 - (a:Int) < 0:=by omega
     by_cases q3:b<=9223372036854775808
     ·have p3:¬ (b:Int) > 9223372036854775808:=(by omega);have p3w:IntKind.u64.wrap (9223372036854775808 - (b:Int))=9223372036854775808 - (b:Int):=by rw [zcg];omega
      by_cases q4:down<=9223372036854775808 - b
      ·have p4:¬ ((down:Nat):Int) > 9223372036854775808 - (b:Int):=(by omega);have p4':¬ 9223372036854775808 - (b:Int) < 0:=(by omega);have HOK:=zH (show addC l s (-(down:Int))=(addL l s (-(down:Int)),0) by rw [HADD.out];simp [zdn,q1,q2,q3,q4]);have q1n:¬ 9223372036854775808 < a:=(by omega);have q3n:¬ 9223372036854775808 < b:=(by omega);go_wp2_with fail;clear q1 q2 q3 q4 q1n q3n;clear p1 p1w p2 p2' p3 p3w p4 p4';obtain⟨We,hWe⟩:∃ We,Wd.drew=We:=⟨_,rfl⟩
       have hxe:Ext Wd We:=(by rw [<- hWe];exact (Ext.refl Wd).drew);have c0e:=hxe.cell c0d;have c1e:=hxe.cell c1d;have HPE:=zH (HPUT.out We (HPD.out.ext hxe) (HMD.out.ext hxe));have HXE:=zH (HXD.out.trans hxe);refine wp_region_still_tail 6 (by kernel_rfl) (by kernel_rfl) ?_;simp only [List.take_succ_cons,List.take_zero,List.drop_succ_cons,List.drop_zero];change wpStill _ _ Wd.drew (fun a'=>wpList _ _ _ _ a' Wd.drew) _ _;rw [hWe]
       repeat still_step
       still_call ((hT.out _).mono fun e w' h=>⟨h.1,h.2.symm⟩)
       refine wpStill_nil ?_;go_wp2_with fail;refine HPE.out.mono ?_;rintro e W5 ⟨rfl,hp5,hm5,hk5⟩;have c05:=hk5.cell c0e (by omega) (by omega);have c15:=hk5.cell c1e (by omega) (by omega);have HL5:=zH (HLIST.out W5 hp5 hm5);have HX5:=zH (Ext.kept2 HXE.out hk5 (by omega) (by omega));clear hp5 hm5 hk5;go_wp2_with fail;refine HL5.out.mono ?_;rintro e W6 ⟨v',rfl,hv6,hx6⟩;rw [<- HAL.out] at hv6;have HV6:=zH hv6;have hff:=hv6.form;obtain⟨Av,cv,rfl,-,-⟩:=hff;have hs5:=HX5.out.size;clear hv6;go_wp2_with fail
       go_ret2
       exact⟨_,by rw [HOK.out];rfl,by rw [HOK.out];exact HV6.out.lower hs5,HX5.out.trans hx6⟩
      ·have p4:((down:Nat):Int) > 9223372036854775808 - (b:Int):=(by omega);have HB2:=zH (HBAD.out (fun h=>q4 h.2.2.2));have q1n:¬ 9223372036854775808 < a:=(by omega);have q3n:¬ 9223372036854775808 < b:=(by omega);go_wp2_with fail
       go_ret2
       exact⟨_,by rw [HB2.out];rfl,by rw [HB2.out];exact Own.nil _ _ _ _ _,HXD.out⟩
     ·have p3:(b:Int) > 9223372036854775808:=(by omega);have HB2:=zH (HBAD.out (fun h=>q3 h.2.2.1));have q1n:¬ 9223372036854775808 < a:=(by omega);go_wp2_with fail
      go_ret2
      exact⟨_,by rw [HB2.out];rfl,by rw [HB2.out];exact Own.nil _ _ _ _ _,HXD.out⟩
    ·exact absurd (Nat.zero_le _) q2
   ·have p1:(a:Int) > 9223372036854775808:=(by omega);have HB2:=zH (HBAD.out (fun h=>q1 h.1));go_wp2_with fail
    go_ret2
    exact⟨_,by rw [HB2.out];rfl,by rw [HB2.out];exact Own.nil _ _ _ _ _,HXD.out⟩
 ·have HF:=zH (show addC l s n=([],9) by unfold addC zp5;rw [HV.out];simp [hf]);unfold zp4 at hf;simp only [Bool.and_eq_true,Bool.not_eq_true',Bool.and_eq_false_iff,decide_eq_false_iff_not] at hf
  by_cases h0:n > 0
  ·have h1:V > 9223372036854775807 - n:=by
    refine Classical.byContradiction fun h=>hf ⟨.inr h,.inl (by omega)⟩
   clear hf;go_wp2_with fail
   go_ret2
   exact⟨_,by rw [HF.out];rfl,by rw [HF.out];exact Own.nil _ _ _ _ _,HX2.out⟩
  ·have h1:n < 0/\V < -9223372036854775808 - n:=by
    refine Classical.byContradiction fun h=>hf ⟨.inl h0,?_⟩
    by_cases h2:n < 0
    ·exact .inr fun h3=>h ⟨h2,h3⟩
    ·exact .inl h2
   obtain⟨h2,h3⟩:=h1;clear hf;go_wp2_with fail
   go_ret2
   exact⟨_,by rw [HF.out];rfl,by rw [HF.out];exact Own.nil _ _ _ _ _,HX2.out⟩
end
end Go.Proofs.YtdikcgmdmcfpfaaGreat
