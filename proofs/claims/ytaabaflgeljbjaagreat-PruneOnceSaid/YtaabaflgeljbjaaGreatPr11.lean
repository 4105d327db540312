/- Laws. -/
import Derived.Test.YtaabaflgeljbjaaGreatPr08
import Derived.Test.YtaabaflgeljbjaaGreatPr10
import Derived.Test.YtaabaflgeljbjaaGreatPr06
import Derived.Test.YtaabaflgeljbjaaGreatPr05
set_option linter.unusedVariables false
set_option linter.unusedSimpArgs false
set_option maxRecDepth 100000
set_option maxHeartbeats 40000000
namespace Go.Proofs.YtaabaflgeljbjaaGreat
section
open Go.RowKit
theorem zq1 {p B:Nat} {L:List (Str × Nat)} {w:World} (hB:w.cell? ⟨B,0,none⟩=some (.map (some p))) (hm:MapIs St U w p L) (hL:L.length<=1099511627776) :
  Calls Tryz.prog 227 #[.func (.func 228) #[] #[.pointer (some ⟨B,0,none⟩)]] w fun e w'=>∃ (v':Value) (ys:List Str),e=.returned v'/\ys.Perm (L.map Prod.fst)/\Own w' w.heap.size 9 1 v' ys.length (ys.flatMap strC)/\Ext w w':=by
 have H:=zH (zos hB hm hL);clear hB hm;go_enter Tryz.func227,Tryz.ntmps227;go_wp2_with fail;refine H.out.mono ?_;rintro e w1 ⟨v',ys,rfl,hp,hv,hx⟩;have HV:=zH hv;have HP:=zH hp;clear hv hp;go_wp2_with fail;go_ret;exact⟨_,ys,rfl,HP.out,HV.out,hx⟩
theorem zsk {p B:Nat} {L:List (Str × Nat)} {w:World} (hB:w.cell? ⟨B,0,none⟩=some (.map (some p))) (hm:MapIs St U w p L) (hL:L.length<=1099511627776) :
  Calls Tryz.prog 190 #[.func (.func 228) #[] #[.pointer (some ⟨B,0,none⟩)]] w fun e w'=>∃ (v':Value) (ys:List Str),e=.returned v'/\ys.Perm (L.map Prod.fst)/\Own w' w.heap.size 9 1 v' (zbw ys).length ((zbw ys).flatMap strC)/\Ext w w':=by
 have H:=zH (zq1 hB hm hL);clear hB hm;go_enter Tryz.func190,Tryz.ntmps190;go_wp2_with fail;refine H.out.mono ?_;rintro e w1 ⟨v',ys,rfl,hp,hv,hx⟩;have H2:=zH (zo7 hv (by have:=hp.length_eq;simp at this;omega));have HP:=zH hp;clear hv hp;go_wp2_with fail;refine H2.out.mono ?_;rintro e w2 ⟨rfl,hv2,hx2⟩;have HV:=zH hv2;clear hv2;go_wp2_with fail;go_ret;exact⟨_,ys,rfl,HP.out,HV.out,Below.trans hx hx2⟩
def zb6 (Lp Lm:List (Str × Nat)) (ks:List Str):List zag:=(ks.filter fun k=>getL 0 Lp k != 0 || getL 0 Lm k != 0).map fun k=>(k,getL 0 Lp k,getL 0 Lm k)
def zdr (Lp Lm:List (Str × Nat)):List zag:=zb6 Lp Lm (zbw (Lp.map Prod.fst))
theorem zlk (Lp Lm:List (Str × Nat)) (ks:List Str):(zb6 Lp Lm ks).length<=ks.length:=by
 unfold zb6;rw [List.length_map];exact List.length_filter_le _ _
theorem zjq {tid base:Nat} {v:Value} {l:List Str} {w:World} (h:Own w base tid 1 v l.length (l.flatMap strC)):Sl strT w (fun b=>base<=b) v l :=
 (OwnL.flat_iff (S:=fun b=>base<=b).2 h).sl (by decide) (fun _ _ h=>h) (fun _ h _=>h)
theorem zg0 {w wr:World} {S:Nat->Prop} {A:Option Addr} {n c:Nat} {l pre post:List Str} {m:Str} (h:Sl strT w S (.slice A n c) l) (hb:Ext w wr) (hl:l=pre++m :: post) :
  ∃ b o,A=some ⟨b,o,none⟩/\wr.cell? ⟨b,o+pre.length,none⟩=some (St m):=by
 obtain⟨b,o,vs,c',hv,hS,rfl,hc⟩:=h.at_ hl;injection hv with e1 e2 e3
 subst e1;have h0:w.cell? ⟨b,o+pre.length * 1+0,none⟩=some (St m):=hc 0 _ rfl;rw [Nat.mul_one,Nat.add_zero] at h0;exact⟨b,o,rfl,hb.cell h0⟩
theorem zko {p m:Nat} {Lp Lm:List (Str × Nat)} {w:World} (hp:MapIs St U w p Lp) (hm:MapIs St U w m Lm) (hL:Lp.length<=1099511627776) :
  Calls Tryz.prog 143 #[.agg #[.map (some p),.map (some m)]] w fun e w'=>∃ v',e=.returned v'/\Own w' w.heap.size 54 3 v' (zdr Lp Lm).length ((zdr Lp Lm).flatMap zbx)/\Ext w w':=by
 obtain⟨W1,hW1⟩:∃ W1,w.alloc (.cells #[.map (some p),.map (some m)] 210)=W1:=⟨_,rfl⟩
 have hx1:Ext w W1:=by rw [<- hW1];exact (Ext.refl w).alloc _
 have c0:W1.cell? ⟨w.heap.size,0,none⟩=some (.map (some p)):=by rw [<- hW1];simp [go_sem]
 have c1:W1.cell? ⟨w.heap.size,1,none⟩=some (.map (some m)):=by rw [<- hW1];simp [go_sem]
 have HK:=zH (zwc p W1);have hxk:=(Ext.refl W1).alloc (.cells #[.map (some p)] 208);have HS:=zH (zsk (B:=W1.heap.size) (by simp [go_sem]) ((hp.ext hx1).ext hxk) hL);have HP:=zH hp;have HM:=zH hm;clear hp hm;go_enter Tryz.func143,Tryz.ntmps143;go_wp2_with fail;refine HK.out.mono ?_;rintro e wk ⟨rfl,rfl⟩;go_wp2_with fail;refine HS.out.mono ?_;rintro e W2 ⟨vk,ys,rfl,hperm,hks,hx2⟩;rw [zt3 hperm] at hks;have hkl:(zbw (Lp.map Prod.fst)).length=Lp.length:=by rw [zh2];simp
 have HLL:=zH (show zdr Lp Lm=zb6 Lp Lm (zbw (Lp.map Prod.fst)) from rfl);generalize zbw (Lp.map Prod.fst)=ks at *;have hw2:Ext w W2:=(hx1.trans hxk).trans hx2;have d0:=hx2.cell (hxk.cell c0);have d1:=hx2.cell (hxk.cell c1);have hsl:=zjq hks;obtain⟨A,c,rfl,hc1,hc2⟩:=hsl.form;have HW2:=zH hw2;have HAT:=zH (fun (pre post:List Str) (x:Str) (wr:World) (h:Ext W2 wr) (hl:ks=pre++x :: post)=>zg0 hsl h hl);clear hks hsl hperm hw2 hx2 hxk;go_wp2_with fail
 go_loopw [3,11] (fun l i wr=>∃ pre post,ks=pre++post/\i=I pre.length/\Own wr W2.heap.size 54 3 l (zb6 Lp Lm pre).length ((zb6 Lp Lm pre).flatMap zbx)/\Ext W2 wr) (fun _ i _=>ks.length - (intOf i).toNat)
 case atStart=>exact⟨[],ks,rfl,rfl,Own.nil _ _ _ _ _,Ext.refl _⟩
 case round =>
  obtain⟨pre,post,hl,rfl,hown,hx⟩:=hrel;have b0:=hx.cell d0;have b1:=hx.cell d1
  cases post with
  | cons k post =>
   obtain⟨bk,ok,rfl,hd⟩:=HAT.out pre post k wr hx hl;have hlt:pre.length < ks.length:=(by rw [hl];simp);have hlp:=ze5 (HP.out.ext (HW2.out.trans hx)) k;have hlm:=ze5 (HM.out.ext (HW2.out.trans hx)) k;have hll:=zlk Lp Lm pre;have HL:=zH hl;have HO:=zH hown;have HX:=zH hx;have hn3:=hx.size;clear hl hx
   by_cases hz:getL 0 Lp k=0/\getL 0 Lm k=0
   ·have HF:=zH (show zb6 Lp Lm (pre++[k])=zb6 Lp Lm pre by simp [zb6,List.filter_append,hz.1,hz.2]);rw [hz.1] at hlp;rw [hz.2] at hlm;clear hz hown;go_wp2_with fail;go_roundw
    case rel=>exact⟨pre++[k],post,by rw [HL.out];simp,by simp,by rw [HF.out];exact HO.out,HX.out⟩
    case measure=>simp [intOf];omega
   ·have HF:=zH (show zb6 Lp Lm (pre++[k])=zb6 Lp Lm pre++[(k,getL 0 Lp k,getL 0 Lm k)] by
     have hb:(getL 0 Lp k != 0 || getL 0 Lm k != 0)=true:=by
      by_cases h1:getL 0 Lp k=0
      ·have:getL 0 Lm k ≠ 0:=fun h2=>hz ⟨h1,h2⟩
       simp [this]
      ·simp [h1]
     simp [zb6,List.filter_append,hb])
    by_cases h1:getL 0 Lp k=0
    ·have h2:getL 0 Lm k ≠ 0:=fun h2=>hz ⟨h1,h2⟩
     have h2':(((getL 0 Lm k:Nat):Int) == 0)=false:=(by rw [beq_eq_false_iff_ne];omega);rw [h1] at hlp HF;clear hz h1 h2
     go_wp2_with (at_builtin;refine zal rfl (.tmp 27) (.tmp 38) 41 rfl W2.heap.size 54 3 32 (.agg #[St [],U 0,U 0]) Tryz.underlying41 zkk rfl (by omega) _ (zb6 Lp Lm pre).length ((zb6 Lp Lm pre).flatMap zbx) rfl (hown.alloc _) _ 1 1 _ rfl (Src.new rfl (by intro u hu;simp at hu;rcases hu with rfl | rfl | rfl <;> rfl)) (by omega) (by omega) (by simp;omega) ?_;intro v' w' hown2 hgr)
     go_roundw
     case rel=>exact⟨pre++[k],post,by rw [HL.out];simp,by simp,by rw [HF.out];simpa [zbx] using hown2,Ext.grewOwn (HX.out.alloc _) hgr (HO.out.alloc _) (Nat.le_refl _)⟩
     case measure=>simp [intOf];omega
    ·have h1':(((getL 0 Lp k:Nat):Int) == 0)=false:=(by rw [beq_eq_false_iff_ne];omega);clear hz h1
     go_wp2_with (at_builtin;refine zal rfl (.tmp 27) (.tmp 38) 41 rfl W2.heap.size 54 3 32 (.agg #[St [],U 0,U 0]) Tryz.underlying41 zkk rfl (by omega) _ (zb6 Lp Lm pre).length ((zb6 Lp Lm pre).flatMap zbx) rfl (hown.alloc _) _ 1 1 _ rfl (Src.new rfl (by intro u hu;simp at hu;rcases hu with rfl | rfl | rfl <;> rfl)) (by omega) (by omega) (by simp;omega) ?_;intro v' w' hown2 hgr)
     go_roundw
     case rel=>exact⟨pre++[k],post,by rw [HL.out];simp,by simp,by rw [HF.out];simpa [zbx] using hown2,Ext.grewOwn (HX.out.alloc _) hgr (HO.out.alloc _) (Nat.le_refl _)⟩
     case measure=>simp [intOf];omega
  | nil=>rw [List.append_nil] at hl;subst hl;have HO:=zH hown;have HX:=zH hx;have hn3:=HW2.out.size;clear hown hx;go_wp2_with fail;go_ret;exact⟨_,rfl,by rw [HLL.out];exact HO.out.lower hn3,HW2.out.trans HX.out⟩
theorem ybk {α:Type} {T:Shape α} {hk:0 < T.k} {w:World} {S S':Nat->Prop} {v v':Value} {l l':List α} (t:TypeId) (h:Sl T w S v l) (h':Sl T w S' v' l') :
  Sl (slT T hk) (w.alloc (.cells #[v,v'] t)) (fun _=>True) (.slice (some ⟨w.heap.size,0,none⟩) 2 2) [l,l'] :=
 ⟨_,2,rfl,Nat.le_refl _,by omega,fun pre x post hl=>by
  cases pre with
  | nil =>
   simp at hl;obtain⟨rfl,-⟩:=hl
   exact⟨_,0,[v],rfl,trivial,⟨v,rfl,(h.ext hk ((Ext.refl w).alloc _)).mono hk (fun b _ hb=>trivial)⟩,fun j u hj=>by
    rw [cell_of_row _ w.heap.size _ #[v,v'] t (0,0) (Go.heap_alloc_new w _)]
    cases j with
    | zero=>simpa using hj
    | succ j=>simp at hj⟩
  | cons a r =>
   cases r with
   | nil =>
    simp at hl;obtain⟨rfl,rfl,-⟩:=hl
    exact⟨_,0,[v'],rfl,trivial,⟨v',rfl,(h'.ext hk ((Ext.refl w).alloc _)).mono hk (fun b _ hb=>trivial)⟩,fun j u hj=>by
     rw [cell_of_row _ w.heap.size _ #[v,v'] t (0,0) (Go.heap_alloc_new w _)]
     cases j with
     | zero=>simpa [slT] using hj
     | succ j=>simp at hj⟩
   | cons b r=>simp at hl⟩
theorem zkp (L:List (Str × Nat)) (k:Str) (v:Nat):(putL L k v).length<=L.length+1:=by
 unfold putL
 split <;> simp
theorem zg1 (cs:List zag):(zax cs).length<=cs.length:=by
 have:∀ (cs:List zag) (L:List (Str × Nat)),(cs.foldl (putP max) L).length<=L.length+cs.length:=by
  intro cs
  induction cs with
  | nil=>simp
  | cons c r ih=>intro L;rw [List.foldl_cons];refine Nat.le_trans (ih _) ?_;have:=zkp L c.1 (max (getL 0 L c.1) c.2.1);unfold putP;simp only [List.length_cons];omega
 simpa [zax] using this cs []
def zef (a b:List zag):List zag:=zdr (zax (a++b)) (zaz (a++b))
theorem zwe {S S':Nat->Prop} {va vb:Value} {a b:List zag} {w:World} (ha:Sl zcl w S va a) (hb:Sl zcl w S' vb b) (hl:a.length+b.length<=1099511627776) :
  Calls Tryz.prog 111 #[va,vb] w fun e w'=>∃ v',e=.returned v'/\Own w' w.heap.size 54 3 v' (zef a b).length ((zef a b).flatMap zbx)/\Ext w w':=by
 have H1:=zH (zgz (ybk 41 ha hb));have H2:=zH (fun (p m:Nat) (Lp Lm:List (Str × Nat)) (w:World)=>@zko p m Lp Lm w);have hlen:(zax (a++b)).length<=1099511627776:=Nat.le_trans (zg1 _) (by simpa using hl);obtain⟨A,c,rfl,-,-⟩:=ha.form;obtain⟨A',c',rfl,-,-⟩:=hb.form;have hx0:=(Ext.refl w).alloc (.cells #[.slice A a.length c,.slice A' b.length c'] 41);clear ha hb;go_enter Tryz.func111,Tryz.ntmps111;go_wp2_with fail;refine H1.out.mono ?_;rintro e w1 ⟨p,m,rfl,-,-,-,hp,hm,hx⟩;have H3:=zH (H2.out _ _ _ _ _ hp hm (by simpa using hlen));clear hp hm;go_wp2_with fail;refine H3.out.mono ?_;rintro e w2 ⟨v',rfl,hv,hx2⟩;have HV:=zH hv;have hle:=(hx0.trans hx).size;clear hv;go_wp2_with fail;go_ret;exact⟨_,rfl,by simpa [zef] using HV.out.lower hle,(hx0.trans hx).trans hx2⟩
def zdi:Option Str->List zag->Bool
 | _,[]=>true
 | o,c :: r=>!(c.2.1 == 0 && c.2.2 == 0) && (match o with | none=>true | some s=>ltS s c.1) && zdi (some c.1) r
def mayL (l:List zag):Bool:=zdi none l
theorem zyy {S:Nat->Prop} {v:Value} {l:List zag} {w:World} (hv:Sl zcl w S v l) :
  Calls Tryz.prog 74 #[v] w fun e w'=>e=.returned (.bool (mayL l))/\Ext w w':=by
 have hv':=hv;obtain⟨A,c,rfl,h1,h2⟩:=hv.form;clear hv;go_enter Tryz.func74,Tryz.ntmps74;go_wp2
 go_loopw [7] (fun i wr=>∃ pre post,l=pre++post/\i=I pre.length/\mayL l=zdi (pre.getLast?.map (·.1)) post/\Ext w wr) (fun i _=>l.length - (intOf i).toNat)
 case atStart=>exact⟨[],l,rfl,rfl,rfl,Ext.refl _⟩
 case round =>
  obtain⟨pre,post,hl,rfl,hm,hb⟩:=hrel
  cases post with
  | cons m post =>
   obtain⟨b,o,rfl,hd0,hd1,hd2⟩:=zgg hv' hb hl;have hlt:pre.length < l.length:=(by rw [hl];simp);have hxa:=hb.alloc (.cells #[St m.1,U m.2.1,U m.2.2] 54);have HB:=zH hb
   by_cases hz:m.2.1=0/\m.2.2=0
   ·have HM:=zH (show mayL l=false by rw [hm];simp [zdi,hz.1,hz.2]);obtain⟨ms,mp,mm⟩:=m;obtain⟨rfl,rfl⟩:mp=0/\mm=0:=hz;clear hl hm hv';go_wp2;go_quiet (fail);go_wp2;go_ret;exact⟨by rw [HM.out];rfl,hxa.drewN _⟩
   ·have hzz:(m.2.1 == 0 && m.2.2 == 0)=false:=by
     by_cases h:m.2.1=0
     ·have:m.2.2 ≠ 0:=fun h2=>hz ⟨h,h2⟩
      simp [this]
     ·simp [h]
    rcases List.eq_nil_or_concat pre with rfl | ⟨pre',q,rfl⟩
    ·have HL:=zH hl;have HM:=zH (show mayL l=zdi (some m.1) post by rw [hm];simp [zdi,hzz]);simp only [List.length_nil,Nat.zero_mul,Nat.add_zero] at hd0 hd1 hd2 hlt ⊢
     by_cases hp0:m.2.1=0
     ·obtain⟨ms,mp,mm⟩:=m;obtain rfl:mp=0:=hp0;have hm0:((mm:Int) == 0)=false:=(by rw [beq_eq_false_iff_ne];intro h;exact hz ⟨rfl,by simpa using h⟩);clear hz hzz hl hm hv';go_wp2;go_quiet (fail);go_wp2;go_roundw
      case rel=>refine ⟨_,post,HL.out.trans (List.append_cons _ _ _),by simp,by rw [HM.out];simp,hxa.drewN _⟩
      case measure=>simp [intOf];omega
     ·have hp1:((m.2.1:Int) == 0)=false:=(by rw [beq_eq_false_iff_ne];omega);clear hz hzz hl hm hv' hp0;go_wp2;go_quiet (fail);go_wp2;go_roundw
      case rel=>refine ⟨_,post,HL.out.trans (List.append_cons _ _ _),by simp,by rw [HM.out];simp,hxa.drewN _⟩
      case measure=>simp [intOf];omega
    ·have hl2:l=pre'++q :: (m :: post):=(by rw [hl];simp);obtain⟨b',o',e,hq0,hq1,hq2⟩:=zgg hv' hb hl2;cases e;have hlq:pre'.length < l.length:=(by rw [hl2];simp);have HL:=zH hl;simp only [List.length_concat] at hd0 hd1 hd2 hlt ⊢;clear hl2;have hxw:=(Ext.refl wr).alloc (.cells #[St m.1,U m.2.1,U m.2.2] 54);have hq0':=hxw.cell hq0;have hm0':(wr.alloc (.cells #[St m.1,U m.2.1,U m.2.2] 54)).cell? ⟨wr.heap.size,0,none⟩=some (St m.1):=(by simp [go_sem]);have hm1':(wr.alloc (.cells #[St m.1,U m.2.1,U m.2.2] 54)).cell? ⟨wr.heap.size,1,none⟩=some (U m.2.1):=(by simp [go_sem]);have hm2':(wr.alloc (.cells #[St m.1,U m.2.1,U m.2.2] 54)).cell? ⟨wr.heap.size,2,none⟩=some (U m.2.2):=(by simp [go_sem]);have k0:(0:Int)<=(pre'.length:Int):=(by omega);have k1:((pre'.length:Int)) < (l.length:Int):=(by omega);have k2:((pre'.length:Int)+1) > 0:=(by omega);have k3:(((pre'.length+1:Nat):Int)) > 0:=(by omega);have k4:IntKind.i64.wrap ((pre'.length:Int)+1 - 1)=pre'.length:=(by rw [show (pre'.length:Int)+1 - 1=pre'.length by omega];simp [IntKind.wrap,IntKind.signed,IntKind.bits];omega);have k5:IntKind.i64.wrap (pre'.length:Int)=pre'.length:=(by simp [IntKind.wrap,IntKind.signed,IntKind.bits];omega);have k6:((pre'.length:Int)).toNat=pre'.length:=(by omega);rcases zfp q.1 m.1 with ⟨q1,q2,q3,q4,q5⟩ | qq | ⟨q1,q2,q3,q4,q5⟩
     ·have HM:=zH (show mayL l=zdi (some m.1) post by rw [hm];simp [zdi,hzz,q1])
      by_cases hp0:m.2.1=0
      ·obtain⟨ms,mp,mm⟩:=m;obtain rfl:mp=0:=hp0;have hm0:((mm:Int) == 0)=false:=(by rw [beq_eq_false_iff_ne];intro h;exact hz ⟨rfl,by simpa using h⟩);clear hz hzz hl hm hv';go_wp2;generalize wr.alloc _=W1 at *;go_quiet (fail);go_wp2;go_roundw
       case rel=>refine ⟨_,post,HL.out.trans (List.append_cons _ _ _),by simp <;> omega,by rw [HM.out];simp,hxa.drewN _⟩
       case measure=>simp [intOf];omega
      ·have hp1:((m.2.1:Int) == 0)=false:=(by rw [beq_eq_false_iff_ne];omega);clear hz hzz hl hm hv' hp0;go_wp2;generalize wr.alloc _=W1 at *;go_quiet (fail);go_wp2;go_roundw
       case rel=>refine ⟨_,post,HL.out.trans (List.append_cons _ _ _),by simp <;> omega,by rw [HM.out];simp,hxa.drewN _⟩
       case measure=>simp [intOf];omega
     ·have HM:=zH (show mayL l=false by rw [hm];simp [zdi,hzz,qq,zap]);obtain⟨qs,qp,qm⟩:=q;obtain rfl:qs=m.1:=qq;have q0:ltS m.1 m.1=false:=zap _
      by_cases hp0:m.2.1=0
      ·obtain⟨ms,mp,mm⟩:=m;obtain rfl:mp=0:=hp0;have hm0:((mm:Int) == 0)=false:=(by rw [beq_eq_false_iff_ne];intro h;exact hz ⟨rfl,by simpa using h⟩);clear hz hzz hl hm hv';go_wp2;generalize wr.alloc _=W1 at *;go_quiet (fail);go_wp2;go_ret;exact⟨by rw [HM.out];rfl,hxa.drewN _⟩
      ·have hp1:((m.2.1:Int) == 0)=false:=(by rw [beq_eq_false_iff_ne];omega);clear hz hzz hl hm hv' hp0;go_wp2;generalize wr.alloc _=W1 at *;go_quiet (fail);go_wp2;go_ret;exact⟨by rw [HM.out];rfl,hxa.drewN _⟩
     ·have HM:=zH (show mayL l=false by rw [hm];simp [zdi,hzz,q1])
      by_cases hp0:m.2.1=0
      ·obtain⟨ms,mp,mm⟩:=m;obtain rfl:mp=0:=hp0;have hm0:((mm:Int) == 0)=false:=(by rw [beq_eq_false_iff_ne];intro h;exact hz ⟨rfl,by simpa using h⟩);clear hz hzz hl hm hv';go_wp2;generalize wr.alloc _=W1 at *;go_quiet (fail);go_wp2;go_ret;exact⟨by rw [HM.out];rfl,hxa.drewN _⟩
      ·have hp1:((m.2.1:Int) == 0)=false:=(by rw [beq_eq_false_iff_ne];omega);clear hz hzz hl hm hv' hp0;go_wp2;generalize wr.alloc _=W1 at *;go_quiet (fail);go_wp2;go_ret;exact⟨by rw [HM.out];rfl,hxa.drewN _⟩
  | nil=>rw [List.append_nil] at hl;subst hl;have HM:=zH hm;clear hm hv';go_wp2;go_ret;exact⟨by rw [HM.out];rfl,hb⟩
def upOf (n:Int):Nat:=if n > 0 then n.toNat else 0
def zcb (n:Int):Nat:=if n > 0 then 0 else (-n).toNat
def znt (v n:Int):Bool:=!(decide (n > 0) && decide (v > 9223372036854775807 - n)) && !(decide (n < 0) && decide (v < -9223372036854775808 - n))
def zdy (a b:Nat):Bool:=decide (a<=9223372036854775808) && decide (b<=9223372036854775808 - a)
def zmd (l:List zag) (s:Str) (n:Int):Bool:=znt (zb7 l) n && (zdy (getL 0 (zax l) s) (upOf n) && zdy (getL 0 (zaz l) s) (zcb n))
def addL (l:List zag) (s:Str) (n:Int):List zag:=zdr (putP addU (zax l) (s,upOf n,zcb n)) (putM addU (zaz l) (s,upOf n,zcb n))
def addC (l:List zag) (s:Str) (n:Int):List zag × Nat:=if zmd l s n then (addL l s n,0) else ([],9)
theorem zo9 (x:Int):-9223372036854775808<=wrap64 x/\wrap64 x<=9223372036854775807:=by
 unfold wrap64;omega
theorem zyz {S:Nat->Prop} {v:Value} {l:List zag} {w:World} (s:Str) (n:Int) (hn1:-9223372036854775808<=n) (hn2:n<=9223372036854775807) (hv:Sl zcl w S v l) (hl:l.length < 1099511627776) :
  Calls Tryz.prog 174 #[v,St s,I n] w fun e w'=>∃ v',e=.returned (.tuple #[v',I (addC l s n).2])/\Own w' w.heap.size 54 3 v' (addC l s n).1.length ((addC l s n).1.flatMap zbx)/\Ext w w':=by
 have H1:=zH (zgz (zqz 41 hv));have H2:=zH (fun (p m:Nat) (Lp Lm:List (Str × Nat)) (w:World)=>@zo6 p m Lp Lm w);obtain⟨A,c,rfl,-,-⟩:=hv.form;have hx0:=(Ext.refl w).alloc (.cells #[.slice A l.length c] 41);have hV:=zo9 (sumL (zax l) (zaz l));have HV:=zH (show zb7 l=wrap64 (sumL (zax l) (zaz l)) from rfl);have hlen:=zg1 l;clear hv;go_enter Tryz.func174,Tryz.ntmps174;go_wp2_with fail;refine H1.out.mono ?_;rintro e w1 ⟨p,m,rfl,hpb,hmb,hpm,hp,hm,hx⟩;have hx2:=(Ext.refl w1).alloc (.cells #[.map (some p),.map (some m)] 210);simp only [List.flatten_cons,List.flatten_nil,List.append_nil] at hp hm;have H3:=zH (H2.out _ _ _ _ _ (hp.ext hx2) (hm.ext hx2));have b0:(w1.alloc (.cells #[.map (some p),.map (some m)] 210)).cell? ⟨w1.heap.size,0,none⟩=some (.map (some p)):=by simp [go_sem]
 have b1:(w1.alloc (.cells #[.map (some p),.map (some m)] 210)).cell? ⟨w1.heap.size,1,none⟩=some (.map (some m)):=by simp [go_sem]
 have HP:=zH hp;have HM:=zH hm;have HX:=zH ((hx0.trans hx).trans hx2);have hpw:=hp.lt;have hmw:=hm.lt;have hpb2:w.heap.size<=p:=Nat.le_trans hx0.size hpb;have hmb2:w.heap.size<=m:=Nat.le_trans hx0.size hmb;clear hp hm hx;go_wp2_with fail;refine H3.out.mono ?_;rintro e w2 ⟨rfl,hx3⟩;have c0:=hx3.cell b0;have c1:=hx3.cell b1;have HX2:=zH (HX.out.trans hx3);have hp2:=(HP.out.ext hx2).ext hx3;have hm2:=(HM.out.ext hx2).ext hx3;have hw12:=(hx2.trans hx3).size;simp only [List.flatten_cons,List.flatten_nil,List.append_nil];generalize hVV:wrap64 (sumL (zax l) (zaz l))=V at *;clear hVV b0 b1 hx2 hx3
 by_cases hf:znt V n=true
 ·have HF:=zH (show zmd l s n=(zdy (getL 0 (zax l) s) (upOf n) && zdy (getL 0 (zaz l) s) (zcb n)) by unfold zmd;rw [HV.out,hf];rfl);unfold znt at hf;simp only [Bool.and_eq_true,Bool.not_eq_true',Bool.and_eq_false_iff,decide_eq_false_iff_not] at hf;obtain⟨hf1,hf2⟩:=hf;have hT:=zH zli;have HPUT:=zH (fun (W:World) (h1:MapIs St U W p (zax l)) (h2:MapIs St U W m (zaz l))=>zor ztt (s,upOf n,zcb n) h1 h2 hpm)
  have HLIST:=zH (fun (W:World) (h1:MapIs St U W p (putP addU (zax l) (s,upOf n,zcb n))) (h2:MapIs St U W m (putM addU (zaz l) (s,upOf n,zcb n)))=>zko h1 h2 (by refine Nat.le_trans (zkp _ _ _) ?_;omega))
  have HADD:=zH (show addC l s n=if (zdy (getL 0 (zax l) s) (upOf n) && zdy (getL 0 (zaz l) s) (zcb n)) then (addL l s n,0) else ([],9) by unfold addC;rw [HF.out]);have HAL:=zH (show addL l s n=zdr (putP addU (zax l) (s,upOf n,zcb n)) (putM addU (zaz l) (s,upOf n,zcb n)) from rfl);obtain⟨Wd,hWd⟩:∃ Wd,w2.drew=Wd:=⟨_,rfl⟩
  have hxd:Ext w2 Wd:=by rw [<- hWd];exact (Ext.refl w2).drew
  have hl0:=ze5 (hp2.ext hxd) s;have hl1:=ze5 (hm2.ext hxd) s;have c0d:=hxd.cell c0;have c1d:=hxd.cell c1;have HPD:=zH (hp2.ext hxd);have HMD:=zH (hm2.ext hxd);have HXD:=zH (HX2.out.trans hxd);obtain⟨a,ha⟩:∃ a,getL 0 (zax l) s=a:=⟨_,rfl⟩
  obtain⟨b,hb⟩:∃ b,getL 0 (zaz l) s=b:=⟨_,rfl⟩
  rw [ha] at hl0 HADD;rw [hb] at hl1 HADD;clear ha hb HF
  have hways:∃ up down:Nat,upOf n=up/\zcb n=down/\((∃ k:Nat,0 < k/\n=(k:Int)/\up=k/\down=0) ∨ (n=0/\up=0/\down=0) ∨ (∃ k:Nat,0 < k/\n = -(k:Int)/\up=0/\down=k)):=by
   refine ⟨_,_,rfl,rfl,?_⟩
   by_cases h0:n > 0
   ·exact .inl ⟨n.toNat,by omega,by omega,by simp [upOf,h0],by simp [zcb,h0]⟩
   ·by_cases h1:n=0
    ·subst h1;exact .inr (.inl ⟨rfl,rfl,rfl⟩)
    ·exact .inr (.inr ⟨(-n).toNat,by omega,by omega,by simp [upOf,h0],by simp [zcb,h0]⟩)
  obtain⟨up,down,hu,hd,hw⟩:=hways;rw [hu,hd] at HADD HAL HPUT HLIST;clear hu hd;rcases hw with ⟨k,k0,rfl,rfl,rfl⟩ | ⟨rfl,rfl,rfl⟩ | ⟨k,k0,rfl,rfl,rfl⟩
  ·have h1:¬ V > 9223372036854775807 - (up:Int):=hf1.resolve_left (fun h=>h (by omega));have h2:¬ (up:Int) < 0:=(by omega);have h3:(up:Int) > 0:=(by omega);have h4:IntKind.u64.wrap (up:Int)=up:=(by rw [zca];omega);clear hf1 hf2;go_wp2_with fail;clear h1 h2 h3 h4;refine wp_region_still_tail 9 (by kernel_rfl) (by kernel_rfl) ?_;simp only [List.take_succ_cons,List.take_zero,List.drop_succ_cons,List.drop_zero];change wpStill _ _ w2.drew (fun a'=>wpList _ _ _ _ a' w2.drew) _ _;rw [hWd]
   repeat still_step
   refine wpStill_nil ?_
   have hbad:¬ (a<=9223372036854775808/\up<=9223372036854775808 - a/\b<=9223372036854775808/\0<=9223372036854775808 - b)->addC l s (up:Int)=([],9):=fun h=>by
    rw [HADD.out]
    have:(zdy a up && zdy b 0)=false:=by unfold zdy;rw [<- Bool.not_eq_true];intro h2;simp only [Bool.and_eq_true,decide_eq_true_eq] at h2;exact h ⟨h2.1.1,h2.1.2,h2.2.1,h2.2.2⟩
    rw [this];rfl
   have HBAD:=zH hbad;clear hbad
   by_cases q1:a<=9223372036854775808
   ·have p1:¬ (a:Int) > 9223372036854775808:=(by omega);have p1w:IntKind.u64.wrap (9223372036854775808 - (a:Int))=9223372036854775808 - (a:Int):=by rw [zca];omega
    by_cases q2:up<=9223372036854775808 - a
    ·have p2:¬ ((up:Nat):Int) > 9223372036854775808 - (a:Int):=(by omega);have p2':¬ 9223372036854775808 - (a:Int) < 0:=by omega
     by_cases q3:b<=9223372036854775808
     ·have p3:¬ (b:Int) > 9223372036854775808:=(by omega);have p3w:IntKind.u64.wrap (9223372036854775808 - (b:Int))=9223372036854775808 - (b:Int):=by rw [zca];omega
      by_cases q4:0<=9223372036854775808 - b
      ·have p4:¬ ((0:Nat):Int) > 9223372036854775808 - (b:Int):=(by omega);have p4':¬ 9223372036854775808 - (b:Int) < 0:=(by omega);have HOK:=zH (show addC l s (up:Int)=(addL l s (up:Int),0) by rw [HADD.out];simp [zdy,q1,q2,q3,q4]);have q1n:¬ 9223372036854775808 < a:=(by omega);have q3n:¬ 9223372036854775808 < b:=(by omega);go_wp2_with fail;clear q1 q2 q3 q4 q1n q3n;clear p1 p1w p2 p2' p3 p3w p4 p4';obtain⟨We,hWe⟩:∃ We,Wd.drew=We:=⟨_,rfl⟩
       have hxe:Ext Wd We:=(by rw [<- hWe];exact (Ext.refl Wd).drew);have c0e:=hxe.cell c0d;have c1e:=hxe.cell c1d;have HPE:=zH (HPUT.out We (HPD.out.ext hxe) (HMD.out.ext hxe));have HXE:=zH (HXD.out.trans hxe);refine wp_region_still_tail 6 (by kernel_rfl) (by kernel_rfl) ?_;simp only [List.take_succ_cons,List.take_zero,List.drop_succ_cons,List.drop_zero];change wpStill _ _ Wd.drew (fun a'=>wpList _ _ _ _ a' Wd.drew) _ _;rw [hWe]
       repeat still_step
       still_call ((hT.out _).mono fun e w' h=>⟨h.1,h.2.symm⟩)
       refine wpStill_nil ?_;go_wp2_with fail;refine HPE.out.mono ?_;rintro e W5 ⟨rfl,hp5,hm5,hk5⟩;have c05:=hk5.cell c0e (by omega) (by omega);have c15:=hk5.cell c1e (by omega) (by omega);have HL5:=zH (HLIST.out W5 hp5 hm5);have HX5:=zH (Ext.kept2 HXE.out hk5 (by omega) (by omega));clear hp5 hm5 hk5;go_wp2_with fail;refine HL5.out.mono ?_;rintro e W6 ⟨v',rfl,hv6,hx6⟩;rw [<- HAL.out] at hv6;have HV6:=zH hv6;have hff:=hv6.form;obtain⟨Av,cv,rfl,-,-⟩:=hff;have hs5:=HX5.out.size;clear hv6;go_wp2_with fail
       go_ret2
       exact⟨_,by rw [HOK.out];rfl,by rw [HOK.out];exact HV6.out.lower hs5,HX5.out.trans hx6⟩
      ·exact absurd (Nat.zero_le _) q4
     ·have p3:(b:Int) > 9223372036854775808:=(by omega);have HB2:=zH (HBAD.out (fun h=>q3 h.2.2.1));have q1n:¬ 9223372036854775808 < a:=(by omega);go_wp2_with fail
      go_ret2
      exact⟨_,by rw [HB2.out];rfl,by rw [HB2.out];exact Own.nil _ _ _ _ _,HXD.out⟩
    ·have p2:((up:Nat):Int) > 9223372036854775808 - (a:Int):=(by omega);have HB2:=zH (HBAD.out (fun h=>q2 h.2.1));have q1n:¬ 9223372036854775808 < a:=(by omega);go_wp2_with fail
     go_ret2
     exact⟨_,by rw [HB2.out];rfl,by rw [HB2.out];exact Own.nil _ _ _ _ _,HXD.out⟩
   ·have p1:(a:Int) > 9223372036854775808:=(by omega);have HB2:=zH (HBAD.out (fun h=>q1 h.1));go_wp2_with fail
    go_ret2
    exact⟨_,by rw [HB2.out];rfl,by rw [HB2.out];exact Own.nil _ _ _ _ _,HXD.out⟩
  ·clear hf1 hf2;go_wp2_with fail;refine wp_region_still_tail 9 (by kernel_rfl) (by kernel_rfl) ?_;simp only [List.take_succ_cons,List.take_zero,List.drop_succ_cons,List.drop_zero];change wpStill _ _ w2.drew (fun a'=>wpList _ _ _ _ a' w2.drew) _ _;rw [hWd]
   repeat still_step
   refine wpStill_nil ?_
   have hbad:¬ (a<=9223372036854775808/\0<=9223372036854775808 - a/\b<=9223372036854775808/\0<=9223372036854775808 - b)->addC l s 0=([],9):=fun h=>by
    rw [HADD.out]
    have:(zdy a 0 && zdy b 0)=false:=by unfold zdy;rw [<- Bool.not_eq_true];intro h2;simp only [Bool.and_eq_true,decide_eq_true_eq] at h2;exact h ⟨h2.1.1,h2.1.2,h2.2.1,h2.2.2⟩
    rw [this];rfl
   have HBAD:=zH hbad;clear hbad
   by_cases q1:a<=9223372036854775808
   ·have p1:¬ (a:Int) > 9223372036854775808:=(by omega);have p1w:IntKind.u64.wrap (9223372036854775808 - (a:Int))=9223372036854775808 - (a:Int):=by rw [zca];omega
    by_cases q2:0<=9223372036854775808 - a
    ·have p2:¬ ((0:Nat):Int) > 9223372036854775808 - (a:Int):=(by omega);have p2':¬ 9223372036854775808 - (a:Int) < 0:=by omega
     by_cases q3:b<=9223372036854775808
     ·have p3:¬ (b:Int) > 9223372036854775808:=(by omega);have p3w:IntKind.u64.wrap (9223372036854775808 - (b:Int))=9223372036854775808 - (b:Int):=by rw [zca];omega
      by_cases q4:0<=9223372036854775808 - b
      ·have p4:¬ ((0:Nat):Int) > 9223372036854775808 - (b:Int):=(by omega);have p4':¬ 9223372036854775808 - (b:Int) < 0:=(by omega);have HOK:=zH (show addC l s 0=(addL l s 0,0) by rw [HADD.out];simp [zdy,q1,q2,q3,q4]);have q1n:¬ 9223372036854775808 < a:=(by omega);have q3n:¬ 9223372036854775808 < b:=(by omega);go_wp2_with fail;clear q1 q2 q3 q4 q1n q3n;clear p1 p1w p2 p2' p3 p3w p4 p4';obtain⟨We,hWe⟩:∃ We,Wd.drew=We:=⟨_,rfl⟩
       have hxe:Ext Wd We:=(by rw [<- hWe];exact (Ext.refl Wd).drew);have c0e:=hxe.cell c0d;have c1e:=hxe.cell c1d;have HPE:=zH (HPUT.out We (HPD.out.ext hxe) (HMD.out.ext hxe));have HXE:=zH (HXD.out.trans hxe);refine wp_region_still_tail 6 (by kernel_rfl) (by kernel_rfl) ?_;simp only [List.take_succ_cons,List.take_zero,List.drop_succ_cons,List.drop_zero];change wpStill _ _ Wd.drew (fun a'=>wpList _ _ _ _ a' Wd.drew) _ _;rw [hWe]
       repeat still_step
       still_call ((hT.out _).mono fun e w' h=>⟨h.1,h.2.symm⟩)
       refine wpStill_nil ?_;go_wp2_with fail;refine HPE.out.mono ?_;rintro e W5 ⟨rfl,hp5,hm5,hk5⟩;have c05:=hk5.cell c0e (by omega) (by omega);have c15:=hk5.cell c1e (by omega) (by omega);have HL5:=zH (HLIST.out W5 hp5 hm5);have HX5:=zH (Ext.kept2 HXE.out hk5 (by omega) (by omega));clear hp5 hm5 hk5;go_wp2_with fail;refine HL5.out.mono ?_;rintro e W6 ⟨v',rfl,hv6,hx6⟩;rw [<- HAL.out] at hv6;have HV6:=zH hv6;have hff:=hv6.form;obtain⟨Av,cv,rfl,-,-⟩:=hff;have hs5:=HX5.out.size;clear hv6;go_wp2_with fail
       go_ret2
       exact⟨_,by rw [HOK.out];rfl,by rw [HOK.out];exact HV6.out.lower hs5,HX5.out.trans hx6⟩
      ·exact absurd (Nat.zero_le _) q4
     ·have p3:(b:Int) > 9223372036854775808:=(by omega);have HB2:=zH (HBAD.out (fun h=>q3 h.2.2.1));have q1n:¬ 9223372036854775808 < a:=(by omega);go_wp2_with fail
      go_ret2
      exact⟨_,by rw [HB2.out];rfl,by rw [HB2.out];exact Own.nil _ _ _ _ _,HXD.out⟩
    ·exact absurd (Nat.zero_le _) q2
   ·have p1:(a:Int) > 9223372036854775808:=(by omega);have HB2:=zH (HBAD.out (fun h=>q1 h.1));go_wp2_with fail
    go_ret2
    exact⟨_,by rw [HB2.out];rfl,by rw [HB2.out];exact Own.nil _ _ _ _ _,HXD.out⟩
  ·have h1:¬ V < -9223372036854775808 - -(down:Int):=hf2.resolve_left (fun h=>h (by omega));have h1':¬ V < -9223372036854775808+(down:Int):=(by omega);have h2:-(down:Int) < 0:=(by omega);have h3:¬ (-(down:Int)) > 0:=(by omega);obtain⟨X,hX⟩:∃ X,IntKind.u64.wrap (-(down:Int))=X:=⟨_,rfl⟩
   have h6:IntKind.u64.wrap (-X)=down:=(by rw [<- hX,zca,zca];omega);clear hf1 hf2;go_wp2_with fail;clear h1 h1' h2 h3 hX h6;refine wp_region_still_tail 9 (by kernel_rfl) (by kernel_rfl) ?_;simp only [List.take_succ_cons,List.take_zero,List.drop_succ_cons,List.drop_zero];change wpStill _ _ w2.drew (fun a'=>wpList _ _ _ _ a' w2.drew) _ _;rw [hWd]
   repeat still_step
   refine wpStill_nil ?_
   have hbad:¬ (a<=9223372036854775808/\0<=9223372036854775808 - a/\b<=9223372036854775808/\down<=9223372036854775808 - b)->addC l s (-(down:Int))=([],9):=fun h=>by
    rw [HADD.out]
    have:(zdy a 0 && zdy b down)=false:=by unfold zdy;rw [<- Bool.not_eq_true];intro h2;simp only [Bool.and_eq_true,decide_eq_true_eq] at h2;exact h ⟨h2.1.1,h2.1.2,h2.2.1,h2.2.2⟩
    rw [this];rfl
   have HBAD:=zH hbad;clear hbad
   by_cases q1:a<=9223372036854775808
   ·have p1:¬ (a:Int) > 9223372036854775808:=(by omega);have p1w:IntKind.u64.wrap (9223372036854775808 - (a:Int))=9223372036854775808 - (a:Int):=by rw [zca];omega
    by_cases q2:0<=9223372036854775808 - a
    ·have p2:¬ ((0:Nat):Int) > 9223372036854775808 - (a:Int):=(by omega);have p2':¬ 9223372036854775808 - (a:Int) < 0:=by omega
     by_cases q3:b<=9223372036854775808
     ·have p3:¬ (b:Int) > 9223372036854775808:=(by omega);have p3w:IntKind.u64.wrap (9223372036854775808 - (b:Int))=9223372036854775808 - (b:Int):=by rw [zca];omega
      by_cases q4:down<=9223372036854775808 - b
      ·have p4:¬ ((down:Nat):Int) > 9223372036854775808 - (b:Int):=(by omega);have p4':¬ 9223372036854775808 - (b:Int) < 0:=(by omega);have HOK:=zH (show addC l s (-(down:Int))=(addL l s (-(down:Int)),0) by rw [HADD.out];simp [zdy,q1,q2,q3,q4]);have q1n:¬ 9223372036854775808 < a:=(by omega);have q3n:¬ 9223372036854775808 < b:=(by omega);go_wp2_with fail;clear q1 q2 q3 q4 q1n q3n;clear p1 p1w p2 p2' p3 p3w p4 p4';obtain⟨We,hWe⟩:∃ We,Wd.drew=We:=⟨_,rfl⟩
       have hxe:Ext Wd We:=(by rw [<- hWe];exact (Ext.refl Wd).drew);have c0e:=hxe.cell c0d;have c1e:=hxe.cell c1d;have HPE:=zH (HPUT.out We (HPD.out.ext hxe) (HMD.out.ext hxe));have HXE:=zH (HXD.out.trans hxe);refine wp_region_still_tail 6 (by kernel_rfl) (by kernel_rfl) ?_;simp only [List.take_succ_cons,List.take_zero,List.drop_succ_cons,List.drop_zero];change wpStill _ _ Wd.drew (fun a'=>wpList _ _ _ _ a' Wd.drew) _ _;rw [hWe]
       repeat still_step
       still_call ((hT.out _).mono fun e w' h=>⟨h.1,h.2.symm⟩)
       refine wpStill_nil ?_;go_wp2_with fail;refine HPE.out.mono ?_;rintro e W5 ⟨rfl,hp5,hm5,hk5⟩;have c05:=hk5.cell c0e (by omega) (by omega);have c15:=hk5.cell c1e (by omega) (by omega);have HL5:=zH (HLIST.out W5 hp5 hm5);have HX5:=zH (Ext.kept2 HXE.out hk5 (by omega) (by omega));clear hp5 hm5 hk5;go_wp2_with fail;refine HL5.out.mono ?_;rintro e W6 ⟨v',rfl,hv6,hx6⟩;rw [<- HAL.out] at hv6;have HV6:=zH hv6;have hff:=hv6.form;obtain⟨Av,cv,rfl,-,-⟩:=hff;have hs5:=HX5.out.size;clear hv6;go_wp2_with fail
       go_ret2
       exact⟨_,by rw [HOK.out];rfl,by rw [HOK.out];exact HV6.out.lower hs5,HX5.out.trans hx6⟩
      ·have p4:((down:Nat):Int) > 9223372036854775808 - (b:Int):=(by omega);have HB2:=zH (HBAD.out (fun h=>q4 h.2.2.2));have q1n:¬ 9223372036854775808 < a:=(by omega);have q3n:¬ 9223372036854775808 < b:=(by omega);go_wp2_with fail
       go_ret2
       exact⟨_,by rw [HB2.out];rfl,by rw [HB2.out];exact Own.nil _ _ _ _ _,HXD.out⟩
     ·have p3:(b:Int) > 9223372036854775808:=(by omega);have HB2:=zH (HBAD.out (fun h=>q3 h.2.2.1));have q1n:¬ 9223372036854775808 < a:=(by omega);go_wp2_with fail
      go_ret2
      exact⟨_,by rw [HB2.out];rfl,by rw [HB2.out];exact Own.nil _ _ _ _ _,HXD.out⟩
    ·exact absurd (Nat.zero_le _) q2
   ·have p1:(a:Int) > 9223372036854775808:=(by omega);have HB2:=zH (HBAD.out (fun h=>q1 h.1));go_wp2_with fail
    go_ret2
    exact⟨_,by rw [HB2.out];rfl,by rw [HB2.out];exact Own.nil _ _ _ _ _,HXD.out⟩
 ·have HF:=zH (show addC l s n=([],9) by unfold addC zmd;rw [HV.out];simp [hf]);unfold znt at hf;simp only [Bool.and_eq_true,Bool.not_eq_true',Bool.and_eq_false_iff,decide_eq_false_iff_not] at hf
  by_cases h0:n > 0
  ·have h1:V > 9223372036854775807 - n:=by
    refine Classical.byContradiction fun h=>hf ⟨.inr h,.inl (by omega)⟩
   clear hf;go_wp2_with fail
   go_ret2
   exact⟨_,by rw [HF.out];rfl,by rw [HF.out];exact Own.nil _ _ _ _ _,HX2.out⟩
  ·have h1:n < 0/\V < -9223372036854775808 - n:=by
    refine Classical.byContradiction fun h=>hf ⟨.inl h0,?_⟩
    by_cases h2:n < 0
    ·exact .inr fun h3=>h ⟨h2,h3⟩
    ·exact .inl h2
   obtain⟨h2,h3⟩:=h1;clear hf;go_wp2_with fail
   go_ret2
   exact⟨_,by rw [HF.out];rfl,by rw [HF.out];exact Own.nil _ _ _ _ _,HX2.out⟩
def zei (L:List (Str × Nat)) (s:Str):List (Str × Nat):=delL (putL L [] (addU (getL 0 L []) (getL 0 L s))) s
def zbc (l:List zag) (s:Str):List zag:=if s = [] then zdr (zax l) (zaz l) else zdr (zei (zax l) s) (zei (zaz l) s)
theorem zr4 {κ ν:Type} [DecidableEq κ] (L:List (κ × ν)) (k:κ):(delL L k).length<=L.length:=List.length_filter_le _ _
theorem zyf {S:Nat->Prop} {v:Value} {l:List zag} {w:World} (s:Str) (hv:Sl zcl w S v l) (hl:l.length < 1099511627776) :
  Calls Tryz.prog 92 #[v,St s] w fun e w'=>∃ v',e=.returned v'/\Own w' w.heap.size 54 3 v' (zbc l s).length ((zbc l s).flatMap zbx)/\Ext w w':=by
 have H1:=zH (zgz (zqz 41 hv));obtain⟨A,c,rfl,-,-⟩:=hv.form;have hx0:=(Ext.refl w).alloc (.cells #[.slice A l.length c] 41);have hlen:=zg1 l;clear hv;go_enter Tryz.func92,Tryz.ntmps92;go_wp2_with fail;refine H1.out.mono ?_;rintro e w1 ⟨p,m,rfl,hpb,hmb,hpm,hp,hm,hx⟩;have hx2:=(Ext.refl w1).alloc (.cells #[.map (some p),.map (some m)] 210);simp only [List.flatten_cons,List.flatten_nil,List.append_nil] at hp hm;have b0:(w1.alloc (.cells #[.map (some p),.map (some m)] 210)).cell? ⟨w1.heap.size,0,none⟩=some (.map (some p)):=by simp [go_sem]
 have b1:(w1.alloc (.cells #[.map (some p),.map (some m)] 210)).cell? ⟨w1.heap.size,1,none⟩=some (.map (some m)):=by simp [go_sem]
 have hpw:=hp.lt;have hmw:=hm.lt;have hp2:=hp.ext hx2;have hm2:=hm.ext hx2;have HX:=zH ((hx0.trans hx).trans hx2);have hpb2:w.heap.size<=p:=Nat.le_trans hx0.size hpb;have hmb2:w.heap.size<=m:=Nat.le_trans hx0.size hmb;clear hp hm hx
 by_cases hs:s = []
 ·subst hs;have HF:=zH (show zbc l []=zdr (zax l) (zaz l) by simp [zbc]);have HL:=zH (zko hp2 hm2 (by omega));clear hp2 hm2;go_wp2_with fail;refine HL.out.mono ?_;rintro e W6 ⟨v',rfl,hv6,hx6⟩;rw [<- HF.out] at hv6;have HV6:=zH hv6;obtain⟨Av,cv,rfl,-,-⟩:=hv6.form;clear hv6;have hsz:=HX.out.size;go_wp2_with fail;go_ret;exact⟨_,rfl,HV6.out.lower hsz,HX.out.trans hx6⟩
 ·have hsb:(s == [])=false:=by simpa using hs
  have HF:=zH (show zbc l s=zdr (zei (zax l) s) (zei (zaz l) s) by simp [zbc,hs])
  have HLIST:=zH (fun (W:World) (h1:MapIs St U W p (zei (zax l) s)) (h2:MapIs St U W m (zei (zaz l) s))=>zko h1 h2 (by refine Nat.le_trans (zr4 _ _) (Nat.le_trans (zkp _ _ _) ?_);omega))
  have hT:=zH zli;obtain⟨w2,hw2⟩:∃ w2,w1.alloc (.cells #[.map (some p),.map (some m)] 210)=w2:=⟨_,rfl⟩
  rw [hw2] at b0 b1 hp2 hm2 HX hx2;obtain⟨Wd,hWd⟩:∃ Wd,w2.drew=Wd:=⟨_,rfl⟩
  have hxd:Ext w2 Wd:=by rw [<- hWd];exact (Ext.refl w2).drew
  have hl0:=ze5 (hp2.ext hxd) s;have hl1:=ze5 (hm2.ext hxd) s;have c0d:=hxd.cell b0;have c1d:=hxd.cell b1;have HPUT:=zH (zor ztt ([],getL 0 (zax l) s,getL 0 (zaz l) s) (hp2.ext hxd) (hm2.ext hxd) hpm);have HXD:=zH (HX.out.trans hxd);obtain⟨a,ha⟩:∃ a,getL 0 (zax l) s=a:=⟨_,rfl⟩
  obtain⟨b,hb⟩:∃ b,getL 0 (zaz l) s=b:=⟨_,rfl⟩
  have HA:=zH ha;have HB:=zH hb;rw [ha] at hl0 HPUT;rw [hb] at hl1 HPUT;clear ha hb hp2 hm2 hs;go_wp2_with fail;refine wp_region_still_tail 11 (by kernel_rfl) (by kernel_rfl) ?_;simp only [List.take_succ_cons,List.take_zero,List.drop_succ_cons,List.drop_zero];change wpStill _ _ w2.drew (fun a'=>wpList _ _ _ _ a' w2.drew) _ _;rw [hWd]
  repeat still_step
  still_call ((hT.out _).mono fun e w' h=>⟨h.1,h.2.symm⟩)
  refine wpStill_nil ?_;go_wp2_with fail;refine HPUT.out.mono ?_;rintro e W5 ⟨rfl,hp5,hm5,hk5⟩;have c05:=hk5.cell c0d (by omega) (by omega);have c15:=hk5.cell c1d (by omega) (by omega);have hX5:=Ext.kept2 HXD.out hk5 (by omega) (by omega);have HX5:=zH hX5;obtain⟨W6,hd6,hp6,ht6⟩:=zi3 (P:=Tryz.prog) 0 Tryz.underlying208 zd8 hp5 s;have c06:=ht6.cell c05 (by omega);have c16:=ht6.cell c15 (by omega);obtain⟨W7,hd7,hm7,ht7⟩:=zi3 (P:=Tryz.prog) 0 Tryz.underlying208 zd8 (hm5.turned ht6 (by omega)) s;have c07:=ht7.cell c06 (by omega);have c17:=ht7.cell c16 (by omega);have HX7:=zH ((hX5.turned ht6 hpb2).turned ht7 hmb2);have HP7:=zH (hp6.turned ht7 (by omega));have HM7:=zH hm7;clear hp5 hm5 hX5 hp6 hm7 ht6 ht7 hl0 hl1 hxd;go_wp2_with fail;have hp7:=HP7.out;have hm7:=HM7.out;rw [<- HA.out] at hp7;rw [<- HB.out] at hm7;have HL:=zH (HLIST.out W7 hp7 hm7);clear hp7 hm7;have hsz:=HX7.out.size;refine HL.out.mono ?_;rintro e W8 ⟨v',rfl,hv6,hx6⟩;rw [<- HF.out] at hv6;have HV6:=zH hv6;obtain⟨Av,cv,rfl,-,-⟩:=hv6.form;clear hv6;go_wp2_with fail;go_ret;exact⟨_,rfl,HV6.out.lower hsz,HX7.out.trans hx6⟩
structure PredS (P:Program) (g:Nat) (cb:Array Value) (base:Nat) (C:World->Prop) (p:Str->Bool):Prop where
 enters:∀ args w,(callFunc g args).run P w=.ok (.enter g args) w
 keep:∀ W W',C W->Below base W W'->C W'
 does:∀ m W,C W->Calls P g (#[St m]++cb) W fun e w'=>e=.returned (.bool (p m))/\Ext W w'
def idxS (p:Str->Bool) (l:List Str):Int:=match l.findIdx? p with | some i=>i | none=>-1
theorem zqc {p:Str->Bool} {l:List Str} (h:∀ m ∈ l,p m=false):idxS p l = -1:=by
 unfold idxS;rw [List.findIdx?_eq_none_iff.2 (fun x hx=>h x hx)]
theorem zqd {p:Str->Bool} {pre post:List Str} {m:Str} (h:∀ x ∈ pre,p x=false) (hm:p m=true):idxS p (pre++m :: post)=pre.length:=by
 unfold idxS
 have:(pre++m :: post).findIdx? p=some pre.length:=by rw [List.findIdx?_append,List.findIdx?_eq_none_iff.2 (fun x hx=>h x hx)];simp [List.findIdx?_cons,hm]
 rw [this]
theorem zf0 (l:List Str):(l.flatMap strC).length=l.length:=by
 induction l with
 | nil=>rfl
 | cons a r ih=>simp [ih,strC]
theorem zt2 (A B:List Str) (x:Str):((A++x :: B).flatMap strC)[A.length]? = some (St x):=by
 rw [List.flatMap_append,<- zf0 A,List.getElem?_append_right (Nat.le_refl _)];simp [strC]
theorem yar (A B:List Str) (x y:Str):((A++x :: B).flatMap strC).set A.length (St y)=(A++y :: B).flatMap strC:=by
 rw [List.flatMap_append,List.flatMap_append,<- zf0 A,List.set_append_right _ _ (Nat.le_refl _)];simp [strC]
theorem zyi (A B:List Str):((A++B).flatMap strC).take A.length=A.flatMap strC:=by
 rw [List.flatMap_append,<- zf0 A];simp
theorem RowIs.setStr {w:World} {g T:Nat} {A B:List Str} {x:Str} {tail:List Value} (h:RowIs w g T ((A++x :: B).flatMap strC) tail) (y:Str) :
  RowIs (w.setCell ⟨g,A.length,none⟩ (St y)) g T ((A++y :: B).flatMap strC) tail:=by
 have h1:=h.set (j:=A.length) (by rw [zf0];simp) (St y)
 rwa [yar] at h1
theorem zvt {S:Nat->Prop} {v:Value} {l:List Str} {w:World} {g base:Nat} {cb:Array Value} {C:World->Prop} {p:Str->Bool} (hv:Sl strT w S v l) (hp:PredS Tryz.prog g cb base C p) (hC:C w) (hbase:base<=w.heap.size) :
  Calls Tryz.prog 120 #[v,.func (.func g) #[] cb] w fun e w'=>e=.returned (I (idxS p l))/\Ext w w':=by
 have hv':=hv;obtain⟨A,c,rfl,h1,h2⟩:=hv.form;have HC:=zH hC;have eg:=hp.enters;clear hv hC;go_enter Tryz.func120,Tryz.ntmps120;go_wp2
 go_loopw [8] (fun i wr=>∃ pre post,l=pre++post/\i=I pre.length/\(∀ x ∈ pre,p x=false)/\Ext w wr) (fun i _=>l.length - (intOf i).toNat)
 case atStart=>exact⟨[],l,rfl,rfl,by simp,Ext.refl _⟩
 case round =>
  obtain⟨pre,post,hl,rfl,hpre,hb⟩:=hrel
  cases post with
  | cons m post =>
   obtain⟨b,o,rfl,hd0⟩:=zg0 hv' hb hl;have hlt:pre.length < l.length:=(by rw [hl];simp);have HL:=zH hl;have HP:=zH hpre;have HD:=zH (hp.does m wr (hp.keep _ _ HC.out (hb.below hbase)));clear hl hv' hp hpre;cases hpm:p m
   all_goals
    rw [hpm] at HD;go_wp2_with fail;refine HD.out.mono ?_;rintro e w1 ⟨rfl,hb1⟩;go_wp2
   ·go_roundw
    case rel=>exact⟨pre++[m],post,by rw [HL.out];simp,by simp,zm7 HP.out hpm,hb.trans hb1⟩
    case measure=>simp [intOf];omega
   ·go_ret;exact⟨by rw [HL.out,zqd HP.out hpm];rfl,hb.trans hb1⟩
  | nil=>rw [List.append_nil] at hl;subst hl;have HP:=zH hpre;clear hv' hpre hp;go_wp2;go_ret;exact⟨by rw [zqc HP.out];rfl,hb⟩
theorem ztl {v:Value} {l:List Str} {w:World} {g base:Nat} {cb:Array Value} {C:World->Prop} {p:Str->Bool} (hv:Own w base 9 1 v l.length (l.flatMap strC)) (hp:PredS Tryz.prog g cb base C p) (hC:C w) (hbase:base<=w.heap.size) :
  Calls Tryz.prog 68 #[v,.func (.func g) #[] cb] w fun e w'=>∃ v',e=.returned v'/\Own w' base 9 1 v' (l.filter fun m=>!p m).length ((l.filter fun m=>!p m).flatMap strC)/\Below base w w'/\∀ b',b' < w.heap.size->¬ zad v b'->w'.heap[b']? = w.heap[b']?:=by
 have hsl:=zjq hv;have HI:=zH (zvt hsl hp hC hbase)
 by_cases hall:∀ m ∈ l,p m=false
 ·have hi:=zqc hall;rw [hi] at HI;have hf:(l.filter fun m=>!p m)=l:=List.filter_eq_self.2 (fun m hm=>by simp [hall m hm]);have HF:=zH hf;have HV:=zH hv;clear hi hf hv hsl hp hall;go_enter Tryz.func68,Tryz.ntmps68;go_wp2_with fail;refine HI.out.mono ?_;rintro e w1 ⟨rfl,hb1⟩;go_wp2;go_ret;exact⟨_,rfl,by rw [HF.out];exact HV.out.ext hb1,hb1.below hbase,fun b' hb' _=>hb1.block b' hb'⟩
 ·obtain⟨pre0,m0,post0,hl0,hpre0,hm0⟩:∃ pre m post,l=pre++m :: post/\(∀ x ∈ pre,p x=false)/\p m=true:=by
   clear HI hsl hv
   induction l with
   | nil=>exact absurd (by simp) hall
   | cons a r ih =>
    cases ha:p a with
    | true=>exact⟨[],a,r,rfl,by simp,ha⟩
    | false=>obtain⟨pre,m,post,e1,e2,e3⟩:=ih (fun h=>hall (by simp [ha];exact fun a hab=>h a hab));exact⟨a :: pre,m,post,by rw [e1];rfl,by simp [ha];exact fun a hab=>e2 a hab,e3⟩
  have hi:=zqd (post:=post0) hpre0 hm0;rw [<- hl0] at hi;rw [hi] at HI;have hlen:pre0.length < l.length:=by rw [hl0];simp
  obtain⟨gb,cap,tail,rfl,hgb,hrow,hnc,hcm,hcl⟩:=hv.row (by omega);have HR:=zH hrow;have HCL:=zH hcl;have HL0:=zH hl0;have HP0:=zH hpre0;have HM0:=zH hm0;have HCw:=zH hC;have eg:=hp.enters;have HPr:=zH hp;have hq0:((pre0.length:Int) == -1)=false:=by rw [beq_eq_false_iff_ne];omega
  clear hi hrow hcl hl0 hpre0 hm0 hC hp hv hsl hall;go_enter Tryz.func68,Tryz.ntmps68;go_wp2_with fail;refine HI.out.mono ?_;rintro e w1 ⟨rfl,hb1⟩;go_wp2_with fail
  go_loopw [5,6] (fun i j wr=>∃ pre post kept junk:List Str,l=pre++post/\j=I pre.length/\i=I kept.length/\kept=pre.filter (fun m=>!p m)/\kept.length+junk.length=pre.length/\0 < junk.length/\RowIs wr gb 9 ((kept++junk++post).flatMap strC) tail/\Below base w wr/\∀ b',b' < w.heap.size->b' ≠ gb->wr.heap[b']? = w.heap[b']?) (fun _ j _=>l.length - (intOf j).toNat)
  case atStart =>
   refine ⟨pre0++[m0],post0,pre0,[m0],by rw [HL0.out];simp,by simp,rfl,?_,by simp,by simp,?_,hb1.below hbase,fun b' hb' _=>hb1.block b' hb'⟩
   ·rw [List.filter_append,List.filter_eq_self.2 (fun m hm=>by simp [HP0.out m hm])];simp [HM0.out]
   ·have:=HR.out.ext hb1;rw [HL0.out] at this
    simpa using this
  case round =>
   obtain⟨pre,post,kept,junk,hl,rfl,rfl,hkept,hkj,hj0,hrow,hb,hsm⟩:=hrel;have HSM:=zH hsm;have hbz:=hb.size;clear hsm
   cases post with
   | cons m post =>
    obtain⟨x,junk,rfl⟩:∃ x r,junk=x :: r:=by cases junk with | nil=>simp at hj0 | cons x r=>exact⟨x,r,rfl⟩
    have hlt:pre.length < l.length:=(by rw [hl];simp);have hm:=zt2 (kept++x :: junk) post m;rw [List.length_append,hkj] at hm;have hd0:=hrow.cell hm;have HD:=zH (HPr.out.does m wr (HPr.out.keep _ _ HCw.out hb));have HL:=zH hl;have HK:=zH hkept;have HKJ:=zH hkj;have HRow:=zH hrow;have hkl:kept.length < pre.length:=(by simp at hkj;omega);have hwz:w.heap.size<=wr.heap.size:=hbz;clear hl hkept hkj hrow hm hj0;cases hpm:p m
    all_goals
     rw [hpm] at HD;go_wp2_with fail;refine HD.out.mono ?_;rintro e w2 ⟨rfl,hb2⟩;have hb3:Below base w w2:=Below.trans hb (hb2.below (Nat.le_trans hbase hb.size));have hrow2:=HRow.out.ext hb2
    ·have hx:=zt2 kept (junk++m :: post) x;have hrow3:RowIs w2 gb 9 ((kept++x :: (junk++m :: post)).flatMap strC) tail:=(by simpa using hrow2);have hc0:=hrow3.cell hx;have hf0:=hrow3.frozen kept.length;have HR3:=zH hrow3;clear hrow3 hrow2 hx;go_wp2;go_roundw
     case rel =>
      refine ⟨pre++[m],post,kept++[m],junk++[m],by rw [HL.out];simp,by simp,by simp,by rw [List.filter_append,<- HK.out];simp [hpm],?_,by simp,?_,?_,?_⟩
      ·have:=HKJ.out;simp at this ⊢;omega
      ·have:=HR3.out.setStr m
       simpa using this
      ·exact hb3.setCell (by simp;omega) _
      ·exact fun b' hb' hn=>(Below.heap_setCell _ _ _ _ hn).trans ((hb2.block b' (Nat.lt_of_lt_of_le hb' hwz)).trans (HSM.out b' hb' hn))
     case measure=>simp [intOf];omega
    ·go_wp2;go_roundw
     case rel=>refine ⟨pre++[m],post,kept,x :: junk++[m],by rw [HL.out];simp,by simp,rfl,by rw [List.filter_append,<- HK.out];simp [hpm],?_,by simp,by simpa using hrow2,hb3,fun b' hb' hn=>(hb2.block b' (Nat.lt_of_lt_of_le hb' hwz)).trans (HSM.out b' hb' hn)⟩;have:=HKJ.out;simp at this ⊢;omega
     case measure=>simp [intOf];omega
   | nil =>
    rw [List.append_nil] at hl;subst hl;have HK:=zH hkept;rw [List.append_nil] at hrow;have hkl:kept.length < l.length:=(by omega);have hz:kept.length+junk.length=l.length:=hkj;have hxl:((kept++junk).flatMap strC).length=(kept.length+(l.length - kept.length)) * 1:=(by rw [zf0,List.length_append];omega);obtain⟨i,hi,hzero,-,-⟩:=info_parts zd7;obtain⟨zs,hzl,hcl⟩:=zig (P:=Tryz.prog) (t:=24) (o:=kept.length) (n:=l.length - kept.length) (c:=cap - kept.length) Tryz.underlying24 hi hzero (k:=1) rfl (by intro u hu;simp [Value.cells] at hu;subst hu;rfl) hrow (by omega) hxl 0;rw [Nat.mul_one,zyi] at hcl;have HRow:=zH hrow;have HZ:=zH hzl;have hne:¬ cap=kept.length:=(by omega);clear hkept hkj hrow hz hxl hi hzero hzl;go_wp2_with fail;go_ret;rw [<- HK.out];have hW:=HRow.out.setRow (kept.flatMap strC++zs);rw [List.append_assoc] at hW;refine ⟨_,rfl,hW.own hgb (by omega) hcm ?_ ?_ (by rw [zf0,Nat.mul_one]),?_⟩
    ·have h1:=HCL.out;have h2:=HZ.out;simp only [List.length_append,zf0] at h1 ⊢;omega
    ·rw [Nat.mul_one,<- zf0 kept,List.take_left]
    ·exact⟨zi7 hb hgb _,fun b' hb' hn=>(setRow_other _ gb b' _ (fun e=>hn ⟨gb,_,cap,rfl,by omega,e⟩)).trans (HSM.out b' hb' (fun e=>hn ⟨gb,_,cap,rfl,by omega,e⟩))⟩
end
end Go.Proofs.YtaabaflgeljbjaaGreat
