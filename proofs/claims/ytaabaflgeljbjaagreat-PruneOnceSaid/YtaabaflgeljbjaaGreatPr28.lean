/- Laws. -/
import Derived.Test.YtaabaflgeljbjaaGreatPr26
import Derived.Test.YtaabaflgeljbjaaGreatPr02
import Derived.Test.YtaabaflgeljbjaaGreatPr11
import Derived.Test.YtaabaflgeljbjaaGreatPr22
import Derived.Test.YtaabaflgeljbjaaGreatPr27
import Derived.Test.YtaabaflgeljbjaaGreatPr05
import Derived.Test.YtaabaflgeljbjaaGreatPr17
import Derived.Test.YtaabaflgeljbjaaGreatPr06
import Derived.Test.YtaabaflgeljbjaaGreatPr25
import Derived.Test.YtaabaflgeljbjaaGreatPr15
import Derived.Test.YtaabaflgeljbjaaGreatPr24
set_option linter.unusedVariables false
set_option linter.unusedSimpArgs false
set_option maxRecDepth 100000
set_option maxHeartbeats 40000000
namespace Go.Proofs.YtaabaflgeljbjaaGreat
section
open Go.RowKit Go.Shelf
def zgd:Cell:=(0,[],false)
def may1 (e:Entry):Bool:=mayL e.counts && (zfv e && (decide (e.items.length=0) && decide (e.cell=zgd)))
def may2 (e:Entry):Bool:=mayB e.items && (zgt e && (decide (e.counts.length=0) && decide (e.cell=zgd)))
def may3 (e:Entry):Bool:=mayC e.cell && (decide (e.counts.length=0) && decide (e.items.length=0))
def mayE (e:Entry):Bool:=mayM e.seen && (!decide (e.seen.length=0) && (if zas e.key=1 then may1 e else if zas e.key=2 then may2 e else if zas e.key=3 then may3 e else false))
theorem zzj {S:Nat->Prop} {e:Entry} {v1 v2 v3:Value} {W:World} {B:Nat} (hb:RowIs W B 46 (entL e v1 v2 v3) []) (h:EntAt W S e v1 v2 v3) :
  Calls Tryz.prog 73 #[.pointer (some ⟨B,0,none⟩)] W fun r w'=>r=.returned (.bool (may1 e))/\Ext W w':=by
 obtain⟨ek,es,ec,ei,x1,x2,x3⟩:=e;have HM:=zH (show may1 ⟨ek,es,ec,ei,(x1,x2,x3)⟩=(mayL ec && (zfv ⟨ek,es,ec,ei,(x1,x2,x3)⟩ && (decide (ei.length=0) && decide ((x1,x2,x3)=zgd)))) from rfl);have HC:=zH (zyy h.counts);have H:=zH h;obtain⟨A1,n1,A2,n2,A3,n3,rfl,rfl,rfl⟩:=h.fm;have k2:=hb.cell (j:=2) rfl;have hq:=fun w=>znc (x1,x2,x3) (0,[],false) w
 simp only at hq;clear h;go_enter Tryz.func73,Tryz.ntmps73;go_wp2_with fail;refine HC.out.mono ?_;rintro r W1 ⟨rfl,hx1⟩;have hb1:=hb.ext hx1
 cases hm:mayL ec with
 | false=>have HR:=zH (show may1 ⟨ek,es,ec,ei,(x1,x2,x3)⟩=false by rw [HM.out,hm];rfl);go_wp2_with fail;go_ret;exact⟨by rw [HR.out];rfl,hx1⟩
 | true =>
  obtain⟨c0,c1,c2,c3,c4,c5,c6⟩:=hb1.p7;have HS:=zH (zra (H.out.ext hx1));go_wp2_with fail;refine HS.out.mono ?_;rintro r W2 ⟨rfl,hx2⟩;have hb2:=hb1.ext hx2;have d2:=hb2.cell (j:=2) rfl;have d3:=hb2.cell (j:=3) rfl;have d4:=hb2.cell (j:=4) rfl;have d5:=hb2.cell (j:=5) rfl;have d6:=hb2.cell (j:=6) rfl;have HX:=zH (hx1.trans hx2)
  cases hs:zfv ⟨ek,es,ec,ei,(x1,x2,x3)⟩ with
  | false=>have HR:=zH (show may1 ⟨ek,es,ec,ei,(x1,x2,x3)⟩=false by rw [HM.out,hm,hs];rfl);go_wp2_with fail;go_ret;exact⟨by rw [HR.out];rfl,HX.out⟩
  | true =>
   cases ei with
   | nil =>
    have HR:=zH (show may1 ⟨ek,es,ec,[],(x1,x2,x3)⟩=decide ((x1,x2,x3)=((0,[],false):Cell)) by rw [HM.out,hm,hs];rfl);go_wp2_with fail
    all_goals
     go_ret;refine ⟨?_,HX.out⟩;rw [HR.out];simp [*]
   | cons it ei=>have HR:=zH (show may1 ⟨ek,es,ec,it :: ei,(x1,x2,x3)⟩=false by rw [HM.out,hm,hs];rfl);go_wp2_with fail;go_ret;exact⟨by rw [HR.out];rfl,HX.out⟩
theorem zzk {S:Nat->Prop} {e:Entry} {v1 v2 v3:Value} {W:World} {B:Nat} (hl40:e.items.length<=1099511627776) (hb:RowIs W B 46 (entL e v1 v2 v3) []) (h:EntAt W S e v1 v2 v3) :
  Calls Tryz.prog 76 #[.pointer (some ⟨B,0,none⟩)] W fun r w'=>r=.returned (.bool (may2 e))/\Ext W w':=by
 obtain⟨ek,es,ec,ei,x1,x2,x3⟩:=e;have HM:=zH (show may2 ⟨ek,es,ec,ei,(x1,x2,x3)⟩=(mayB ei && (zgt ⟨ek,es,ec,ei,(x1,x2,x3)⟩ && (decide (ec.length=0) && decide ((x1,x2,x3)=zgd)))) from rfl);have HC:=zH (zzd h.items hl40);have H:=zH h;obtain⟨A1,n1,A2,n2,A3,n3,rfl,rfl,rfl⟩:=h.fm;have k3:=hb.cell (j:=3) rfl;have hq:=fun w=>znc (x1,x2,x3) (0,[],false) w
 simp only at hq;clear h;go_enter Tryz.func76,Tryz.ntmps76;go_wp2_with fail;refine HC.out.mono ?_;rintro r W1 ⟨rfl,hx1⟩;have hb1:=hb.ext hx1
 cases hm:mayB ei with
 | false=>have HR:=zH (show may2 ⟨ek,es,ec,ei,(x1,x2,x3)⟩=false by rw [HM.out,hm];rfl);go_wp2_with fail;go_ret;exact⟨by rw [HR.out];rfl,hx1⟩
 | true =>
  obtain⟨c0,c1,c2,c3,c4,c5,c6⟩:=hb1.p7;have HS:=zH (zsw (H.out.ext hx1));go_wp2_with fail;refine HS.out.mono ?_;rintro r W2 ⟨rfl,hx2⟩;have hb2:=hb1.ext hx2;have d2:=hb2.cell (j:=2) rfl;have d3:=hb2.cell (j:=3) rfl;have d4:=hb2.cell (j:=4) rfl;have d5:=hb2.cell (j:=5) rfl;have d6:=hb2.cell (j:=6) rfl;have HX:=zH (hx1.trans hx2)
  cases hs:zgt ⟨ek,es,ec,ei,(x1,x2,x3)⟩ with
  | false=>have HR:=zH (show may2 ⟨ek,es,ec,ei,(x1,x2,x3)⟩=false by rw [HM.out,hm,hs];rfl);go_wp2_with fail;go_ret;exact⟨by rw [HR.out];rfl,HX.out⟩
  | true =>
   cases ec with
   | nil =>
    have HR:=zH (show may2 ⟨ek,es,[],ei,(x1,x2,x3)⟩=decide ((x1,x2,x3)=((0,[],false):Cell)) by rw [HM.out,hm,hs];rfl);go_wp2_with fail
    all_goals
     go_ret;refine ⟨?_,HX.out⟩;rw [HR.out];simp [*]
   | cons it ec=>have HR:=zH (show may2 ⟨ek,es,it :: ec,ei,(x1,x2,x3)⟩=false by rw [HM.out,hm,hs];rfl);go_wp2_with fail;go_ret;exact⟨by rw [HR.out];rfl,HX.out⟩
theorem zzl {S:Nat->Prop} {e:Entry} {v1 v2 v3:Value} {W:World} {B:Nat} (hb:RowIs W B 46 (entL e v1 v2 v3) []) (h:EntAt W S e v1 v2 v3) :
  Calls Tryz.prog 79 #[.pointer (some ⟨B,0,none⟩)] W fun r w'=>r=.returned (.bool (may3 e))/\Ext W w':=by
 obtain⟨ek,es,ec,ei,x1,x2,x3⟩:=e;have HM:=zH (show may3 ⟨ek,es,ec,ei,(x1,x2,x3)⟩=(mayC (x1,x2,x3) && (decide (ec.length=0) && decide (ei.length=0))) from rfl);have HC:=zH (zzf (x1,x2,x3) W);obtain⟨A1,n1,A2,n2,A3,n3,rfl,rfl,rfl⟩:=h.fm;have k4:=hb.cell (j:=4) rfl;have k5:=hb.cell (j:=5) rfl;have k6:=hb.cell (j:=6) rfl;clear h;go_enter Tryz.func79,Tryz.ntmps79;go_wp2_with fail;refine HC.out.mono ?_;rintro r W1 ⟨rfl,hx1⟩;have hb1:=hb.ext hx1;have c2:=hb1.cell (j:=2) rfl;have c3:=hb1.cell (j:=3) rfl
 cases hm:mayC (x1,x2,x3) with
 | false=>have HR:=zH (show may3 ⟨ek,es,ec,ei,(x1,x2,x3)⟩=false by rw [HM.out,hm];rfl);go_wp2_with fail;go_ret;exact⟨by rw [HR.out];rfl,hx1⟩
 | true =>
  cases ec with
  | nil =>
   cases ei with
   | nil=>have HR:=zH (show may3 ⟨ek,es,[],[],(x1,x2,x3)⟩=true by rw [HM.out,hm];rfl);go_wp2_with fail;go_ret;exact⟨by rw [HR.out];rfl,hx1⟩
   | cons it ei=>have HR:=zH (show may3 ⟨ek,es,[],it :: ei,(x1,x2,x3)⟩=false by rw [HM.out,hm];rfl);go_wp2_with fail;go_ret;exact⟨by rw [HR.out];rfl,hx1⟩
  | cons c ec=>have HR:=zH (show may3 ⟨ek,es,c :: ec,ei,(x1,x2,x3)⟩=false by rw [HM.out,hm];rfl);go_wp2_with fail;go_ret;exact⟨by rw [HR.out];rfl,hx1⟩
def mayV (B:Nat):Option Nat->Value
 | none=>.nilFunc
 | some f=>.func (.func f) #[] #[.pointer (some ⟨B,0,none⟩)]
theorem yb7 (B:Nat) (w:World):(zeroValue 31).run Tryz.prog w=.ok (mayV B none) w:=Tryz.zeroValue31 w
theorem keyOk8:KeyOk Tryz.prog 5 K8:=zzh Tryz.underlying5
theorem zkx {S:Nat->Prop} {e:Entry} {v1 v2 v3:Value} {w:World} (h:EntAt w S e v1 v2 v3) (hl40:e.items.length<=1099511627776) :
  Calls Tryz.prog 34 #[entV e v1 v2 v3] w fun r w'=>r=.returned (.bool (mayE e))/\Ext w w':=by
 obtain⟨ek,es,ec,ei,x1,x2,x3⟩:=e;have HM:=zH (show mayE ⟨ek,es,ec,ei,(x1,x2,x3)⟩=(mayM es && (!decide (es.length=0) && (if zas ek=1 then may1 ⟨ek,es,ec,ei,(x1,x2,x3)⟩ else if zas ek=2 then may2 ⟨ek,es,ec,ei,(x1,x2,x3)⟩ else if zas ek=3 then may3 ⟨ek,es,ec,ei,(x1,x2,x3)⟩ else false))) from rfl);generalize mayE ⟨ek,es,ec,ei,(x1,x2,x3)⟩=R at *;have H:=zH h;obtain⟨A1,n1,A2,n2,A3,n3,rfl,rfl,rfl⟩:=h.fm;have hx0:=(Ext.refl w).alloc (.cells #[St ek,.slice A1 es.length n1,.slice A2 ec.length n2,.slice A3 ei.length n3,U x1,St x2,.bool x3] 46);have hb0:=zaf w 46 [St ek,.slice A1 es.length n1,.slice A2 ec.length n2,.slice A3 ei.length n3,U x1,St x2,.bool x3];have k1:=hb0.cell (j:=1) rfl;have HMM:=zH (ztv (h.seen.ext (by decide) hx0));clear h;have eg1:∀ args w,(callFunc 73 args).run Tryz.prog w=.ok (.enter 73 args) w:=enters_of Tryz.func73 (by kernel_rfl) rfl;have eg2:∀ args w,(callFunc 76 args).run Tryz.prog w=.ok (.enter 76 args) w:=enters_of Tryz.func76 (by kernel_rfl) rfl;have eg3:∀ args w,(callFunc 79 args).run Tryz.prog w=.ok (.enter 79 args) w:=enters_of Tryz.func79 (by kernel_rfl) rfl;have hmm:=@run_makeMap Tryz.prog;go_enter Tryz.func34,Tryz.ntmps34;go_wp2_with fail;generalize hW0:w.alloc (.cells #[St ek,.slice A1 es.length n1,.slice A2 ec.length n2,.slice A3 ei.length n3,U x1,St x2,.bool x3] 46)=W0 at *;clear hW0;refine HMM.out.mono ?_;rintro r W1 ⟨rfl,hx1⟩;have hb1:=hb0.ext hx1;have c0:=hb1.cell (j:=0) rfl;have c1:=hb1.cell (j:=1) rfl;have hX1:=hx0.trans hx1
 cases hm:mayM es with
 | false=>have HR:=zH (show R=false by rw [HM.out,hm];rfl);go_wp2_with fail;go_ret;exact⟨by rw [HR.out];rfl,hX1⟩
 | true =>
  cases es with
  | nil=>have HR:=zH (show R=false by rw [HM.out,hm];rfl);go_wp2_with fail;go_ret;exact⟨by rw [HR.out];rfl,hX1⟩
  | cons m es =>
   have HR:=zH (show R=(if zas ek=1 then may1 ⟨ek,m :: es,ec,ei,(x1,x2,x3)⟩ else if zas ek=2 then may2 ⟨ek,m :: es,ec,ei,(x1,x2,x3)⟩ else if zas ek=3 then may3 ⟨ek,m :: es,ec,ei,(x1,x2,x3)⟩ else false) by rw [HM.out,hm];rfl);have hz1:=hb1.lt;obtain⟨Wa,ua,ma,ta⟩:=zaw (P:=Tryz.prog) (t:=149) Tryz.underlying149 keyOk8 (MapIs.new (K:=K8) (V:=mayV w.heap.size) W1) 1 (some 73);obtain⟨Wb,ub,mb,tb⟩:=zaw (P:=Tryz.prog) (t:=149) Tryz.underlying149 keyOk8 ma 2 (some 76);obtain⟨Wc,uc,mc,tc⟩:=zaw (P:=Tryz.prog) (t:=149) Tryz.underlying149 keyOk8 mb 3 (some 79);have hxa:=((Ext.refl W1).alloc (.map #[] 0)).turned ta (Nat.le_refl _);have hxb:=hxa.turned tb (Nat.le_refl _);have hxc:=hxb.turned tc (Nat.le_refl _);have d0:=(hb1.ext hxc).cell (j:=0) rfl;have HK:=zH (zkw ek Wc);have HC:=zH mc;have HXC:=zH hxc;clear ta tb tc hxa hxb hxc ma mb mc;have ua':(Instr.mapUpdate 149 (.map (some W1.heap.size)) (.int .u8 1) (.func (.func 73) #[] #[.pointer (some ⟨w.heap.size,0,none⟩)])).run Tryz.prog (W1.alloc (.map #[] 0))=.ok () Wa:=ua;have ub':(Instr.mapUpdate 149 (.map (some W1.heap.size)) (.int .u8 2) (.func (.func 76) #[] #[.pointer (some ⟨w.heap.size,0,none⟩)])).run Tryz.prog Wa=.ok () Wb:=ub;have uc':(Instr.mapUpdate 149 (.map (some W1.heap.size)) (.int .u8 3) (.func (.func 79) #[] #[.pointer (some ⟨w.heap.size,0,none⟩)])).run Tryz.prog Wb=.ok () Wc:=uc;clear ua ub uc;go_wp2_with fail;refine HK.out.mono ?_;rintro r W2 ⟨rfl,hx2⟩;have hL:=(zbi (P:=Tryz.prog) (t:=149) (z:=none) Tryz.underlying149 keyOk8 (yb7 w.heap.size) (HC.out.ext hx2) (zas ek)).2;have HB2:=zH (hb1.ext (HXC.out.trans hx2));have HX2:=zH (hX1.trans (HXC.out.trans hx2));generalize hkk:zas ek=kk at *;have hL':(Instr.lookup 149 (.map (some W1.heap.size)) (U8 kk) true).run Tryz.prog W2=.ok (.tuple #[mayV w.heap.size (getL none (putL (putL (putL [] 1 (some 73)) 2 (some 76)) 3 (some 79)) kk),.bool (decide (kk ∈ [1,2,3]))]) W2:=hL;clear hL;rcases (show kk=1 ∨ kk=2 ∨ kk=3 ∨ (kk ≠ 1/\kk ≠ 2/\kk ≠ 3) by omega) with h1 | h1 | h1 | ⟨h1,h2,h3⟩
   ·subst h1;have hl:(Instr.lookup 149 (.map (some W1.heap.size)) (U8 1) true).run Tryz.prog W2=.ok (.tuple #[.func (.func 73) #[] #[.pointer (some ⟨w.heap.size,0,none⟩)],.bool true]) W2:=hL';have HR2:=zH (show R=may1 ⟨ek,m :: es,ec,ei,(x1,x2,x3)⟩ by rw [HR.out];rfl);clear hL' hkk HR;have HT:=zH (zzj HB2.out (H.out.ext HX2.out));go_wp2_with fail;refine HT.out.mono ?_;rintro r W3 ⟨rfl,hx3⟩;have HX3:=zH (HX2.out.trans hx3);clear hx3;go_wp2_with fail;go_ret;exact⟨by rw [HR2.out];rfl,HX3.out⟩
   ·subst h1;have hl:(Instr.lookup 149 (.map (some W1.heap.size)) (U8 2) true).run Tryz.prog W2=.ok (.tuple #[.func (.func 76) #[] #[.pointer (some ⟨w.heap.size,0,none⟩)],.bool true]) W2:=hL';have HR2:=zH (show R=may2 ⟨ek,m :: es,ec,ei,(x1,x2,x3)⟩ by rw [HR.out];rfl);clear hL' hkk HR;have HT:=zH (zzk hl40 HB2.out (H.out.ext HX2.out));go_wp2_with fail;refine HT.out.mono ?_;rintro r W3 ⟨rfl,hx3⟩;have HX3:=zH (HX2.out.trans hx3);clear hx3;go_wp2_with fail;go_ret;exact⟨by rw [HR2.out];rfl,HX3.out⟩
   ·subst h1;have hl:(Instr.lookup 149 (.map (some W1.heap.size)) (U8 3) true).run Tryz.prog W2=.ok (.tuple #[.func (.func 79) #[] #[.pointer (some ⟨w.heap.size,0,none⟩)],.bool true]) W2:=hL';have HR2:=zH (show R=may3 ⟨ek,m :: es,ec,ei,(x1,x2,x3)⟩ by rw [HR.out];rfl);clear hL' hkk HR;have HT:=zH (zzl HB2.out (H.out.ext HX2.out));go_wp2_with fail;refine HT.out.mono ?_;rintro r W3 ⟨rfl,hx3⟩;have HX3:=zH (HX2.out.trans hx3);clear hx3;go_wp2_with fail;go_ret;exact⟨by rw [HR2.out];rfl,HX3.out⟩
   ·have hl:(Instr.lookup 149 (.map (some W1.heap.size)) (U8 kk) true).run Tryz.prog W2=.ok (.tuple #[.nilFunc,.bool false]) W2:=by
     rw [hL'];have e1:(1 == kk)=false:=(by simp;omega);have e2:(kk == 1)=false:=(by simp;omega);have e3:(kk == 2)=false:=(by simp;omega);have e4:(kk == 3)=false:=(by simp;omega);simp [getL,putL,List.lookup,e2,e3,e4,h1,h2,h3,mayV]
    have HR2:=zH (show R=false by rw [HR.out,if_neg h1,if_neg h2,if_neg h3]);clear hL' hkk HR;go_wp2_with fail;go_ret;exact⟨by rw [HR2.out];rfl,HX2.out⟩
theorem zuo {S:Nat->Prop} {e:Entry} {v1 v2 v3:Value} {W:World} {B:Nat} (hb:RowIs W B 46 (entL e v1 v2 v3) []) (h:EntAt W S e v1 v2 v3) :
  Calls Tryz.prog 100 #[.pointer (some ⟨B,0,none⟩)] W fun r w'=>r=.returned (.iface 2 (I (zb7 e.counts)))/\Ext W w':=by
 have HC:=zH (zi6 h.counts);obtain⟨A2,n2,rfl,-,-⟩:=h.counts.form;have k2:=hb.cell (j:=2) rfl;clear h hb;go_enter Tryz.func100,Tryz.ntmps100;go_wp2_with fail;refine HC.out.mono ?_;rintro r W1 ⟨rfl,hx1⟩;go_wp2_with fail;go_ret;exact⟨rfl,hx1⟩
theorem zup {S:Nat->Prop} {e:Entry} {v1 v2 v3:Value} {W:World} {B:Nat} (hl:(zab e.items).length<=1099511627776) (hb:RowIs W B 46 (entL e v1 v2 v3) []) (h:EntAt W S e v1 v2 v3) :
  Calls Tryz.prog 102 #[.pointer (some ⟨B,0,none⟩)] W fun r w'=>∃ s,r=.returned (.iface 24 s)/\Own w' W.heap.size 9 1 s (zdo e.items).length ((zdo e.items).flatMap strC)/\Ext W w':=by
 have HC:=zH (zw3 h.items hl);obtain⟨A3,n3,rfl,-,-⟩:=h.items.form;have k3:=hb.cell (j:=3) rfl;clear h hb;go_enter Tryz.func102,Tryz.ntmps102;go_wp2_with fail;refine HC.out.mono ?_;rintro r W1 ⟨v',rfl,ho,hx1⟩;obtain⟨A,n,rfl,-,-⟩:=ho.form;go_wp2_with fail;go_ret;exact⟨_,rfl,ho,hx1⟩
def zkd (c:Cell):Value:=if (zio c).2 then .iface 9 (St (zio c).1) else .nilIface
theorem zuq {S:Nat->Prop} {e:Entry} {v1 v2 v3:Value} {W:World} {B:Nat} (hb:RowIs W B 46 (entL e v1 v2 v3) []) (h:EntAt W S e v1 v2 v3) :
  Calls Tryz.prog 104 #[.pointer (some ⟨B,0,none⟩)] W fun r w'=>r=.returned (zkd e.cell)/\Ext W w':=by
 obtain⟨ek,es,ec,ei,x1,x2,x3⟩:=e;have HC:=zH (zxc (x1,x2,x3) W);have HV:=zH (show zkd (x1,x2,x3)=if (zio (x1,x2,x3)).2 then .iface 9 (St (zio (x1,x2,x3)).1) else .nilIface from rfl);generalize zkd (x1,x2,x3)=V at *;have k4:=hb.cell (j:=4) rfl;have k5:=hb.cell (j:=5) rfl;have k6:=hb.cell (j:=6) rfl;clear h hb;go_enter Tryz.func104,Tryz.ntmps104;go_wp2_with fail;refine HC.out.mono ?_;rintro r W1 ⟨rfl,hx1⟩;generalize zio (x1,x2,x3)=p at *;obtain⟨p1,p2⟩:=p
 cases p2 with
 | false=>go_wp2_with fail;go_ret;exact⟨by rw [HV.out];rfl,hx1⟩
 | true=>go_wp2_with fail;go_ret;exact⟨by rw [HV.out];rfl,hx1⟩
def ValAt (W:World) (base:Nat) (e:Entry) (v:Value):Prop :=
 if zas e.key=1 then v=.iface 2 (I (zb7 e.counts)) else
 if zas e.key=2 then (∃ s,v=.iface 24 s/\Own W base 9 1 s (zdo e.items).length ((zdo e.items).flatMap strC)) else
 if zas e.key=3 then v=zkd e.cell else v=.nilIface
theorem ybl (B:Nat) (w:World):(zeroValue 169).run Tryz.prog w=.ok (mayV B none) w:=Tryz.zeroValue169 w
theorem zn5 {S:Nat->Prop} {e:Entry} {v1 v2 v3:Value} {w:World} (h:EntAt w S e v1 v2 v3) (hl40:(zab e.items).length<=1099511627776) :
  Calls Tryz.prog 50 #[entV e v1 v2 v3] w fun r w'=>∃ v,r=.returned v/\ValAt w' w.heap.size e v/\Ext w w':=by
 obtain⟨ek,es,ec,ei,x1,x2,x3⟩:=e;have H:=zH h;obtain⟨A1,n1,A2,n2,A3,n3,rfl,rfl,rfl⟩:=h.fm;have hx0:=(Ext.refl w).alloc (.cells #[St ek,.slice A1 es.length n1,.slice A2 ec.length n2,.slice A3 ei.length n3,U x1,St x2,.bool x3] 46);have hb0:=zaf w 46 [St ek,.slice A1 es.length n1,.slice A2 ec.length n2,.slice A3 ei.length n3,U x1,St x2,.bool x3];clear h;have eg1:∀ args w,(callFunc 100 args).run Tryz.prog w=.ok (.enter 100 args) w:=enters_of Tryz.func100 (by kernel_rfl) rfl;have eg2:∀ args w,(callFunc 102 args).run Tryz.prog w=.ok (.enter 102 args) w:=enters_of Tryz.func102 (by kernel_rfl) rfl;have eg3:∀ args w,(callFunc 104 args).run Tryz.prog w=.ok (.enter 104 args) w:=enters_of Tryz.func104 (by kernel_rfl) rfl;have hmm:=@run_makeMap Tryz.prog;obtain⟨W0,hW0⟩:∃ W0,w.alloc (.cells #[St ek,.slice A1 es.length n1,.slice A2 ec.length n2,.slice A3 ei.length n3,U x1,St x2,.bool x3] 46)=W0:=⟨_,rfl⟩
 rw [hW0] at hx0 hb0;have hz1:=hb0.lt;obtain⟨Wa,ua,ma,ta⟩:=zaw (P:=Tryz.prog) (t:=170) Tryz.underlying170 keyOk8 (MapIs.new (K:=K8) (V:=mayV w.heap.size) W0) 1 (some 100);obtain⟨Wb,ub,mb,tb⟩:=zaw (P:=Tryz.prog) (t:=170) Tryz.underlying170 keyOk8 ma 2 (some 102);obtain⟨Wc,uc,mc,tc⟩:=zaw (P:=Tryz.prog) (t:=170) Tryz.underlying170 keyOk8 mb 3 (some 104);have hxa:=((Ext.refl W0).alloc (.map #[] 0)).turned ta (Nat.le_refl _);have hxb:=hxa.turned tb (Nat.le_refl _);have hxc:=hxb.turned tc (Nat.le_refl _);have d0:=(hb0.ext hxc).cell (j:=0) rfl;have HK:=zH (zkw ek Wc);have HC:=zH mc;have HXC:=zH hxc;clear ta tb tc hxa hxb hxc ma mb mc;have ua':(Instr.mapUpdate 170 (.map (some W0.heap.size)) (.int .u8 1) (.func (.func 100) #[] #[.pointer (some ⟨w.heap.size,0,none⟩)])).run Tryz.prog (W0.alloc (.map #[] 0))=.ok () Wa:=ua;have ub':(Instr.mapUpdate 170 (.map (some W0.heap.size)) (.int .u8 2) (.func (.func 102) #[] #[.pointer (some ⟨w.heap.size,0,none⟩)])).run Tryz.prog Wa=.ok () Wb:=ub;have uc':(Instr.mapUpdate 170 (.map (some W0.heap.size)) (.int .u8 3) (.func (.func 104) #[] #[.pointer (some ⟨w.heap.size,0,none⟩)])).run Tryz.prog Wb=.ok () Wc:=uc;clear ua ub uc;go_enter Tryz.func50,Tryz.ntmps50;go_wp2_with fail;refine HK.out.mono ?_;rintro r W2 ⟨rfl,hx2⟩;have hL:=(zbi (P:=Tryz.prog) (t:=170) (z:=none) Tryz.underlying170 keyOk8 (ybl w.heap.size) (HC.out.ext hx2) (zas ek)).2;have HB2:=zH (hb0.ext (HXC.out.trans hx2));have HX2:=zH (hx0.trans (HXC.out.trans hx2));have HKK:=zH (show ∀ W b v,ValAt W b ⟨ek,es,ec,ei,(x1,x2,x3)⟩ v=(if zas ek=1 then v=.iface 2 (I (zb7 ec)) else if zas ek=2 then (∃ s,v=.iface 24 s/\Own W b 9 1 s (zdo ei).length ((zdo ei).flatMap strC)) else if zas ek=3 then v=zkd (x1,x2,x3) else v=.nilIface) from fun _ _ _=>rfl);generalize zas ek=kk at *;have hL':(Instr.lookup 170 (.map (some W0.heap.size)) (U8 kk) true).run Tryz.prog W2=.ok (.tuple #[mayV w.heap.size (getL none (putL (putL (putL [] 1 (some 100)) 2 (some 102)) 3 (some 104)) kk),.bool (decide (kk ∈ [1,2,3]))]) W2:=hL;clear hL;rcases (show kk=1 ∨ kk=2 ∨ kk=3 ∨ (kk ≠ 1/\kk ≠ 2/\kk ≠ 3) by omega) with h1 | h1 | h1 | ⟨h1,h2,h3⟩
 ·subst h1;have hl:(Instr.lookup 170 (.map (some W0.heap.size)) (U8 1) true).run Tryz.prog W2=.ok (.tuple #[.func (.func 100) #[] #[.pointer (some ⟨w.heap.size,0,none⟩)],.bool true]) W2:=hL';clear hL';have HT:=zH (zuo HB2.out (H.out.ext HX2.out));go_wp2_with fail;refine HT.out.mono ?_;rintro r W3 ⟨rfl,hx3⟩;have HX3:=zH (HX2.out.trans hx3);have hsz:=HX2.out.size;clear hx3;go_wp2_with fail;go_ret;exact⟨_,rfl,by rw [HKK.out];exact rfl,HX3.out⟩
 ·subst h1;have hl:(Instr.lookup 170 (.map (some W0.heap.size)) (U8 2) true).run Tryz.prog W2=.ok (.tuple #[.func (.func 102) #[] #[.pointer (some ⟨w.heap.size,0,none⟩)],.bool true]) W2:=hL';clear hL';have HT:=zH (zup hl40 HB2.out (H.out.ext HX2.out));go_wp2_with fail;refine HT.out.mono ?_;rintro r W3 ⟨s,rfl,ho,hx3⟩;have HX3:=zH (HX2.out.trans hx3);have hsz:=HX2.out.size;clear hx3;go_wp2_with fail;go_ret;exact⟨_,rfl,by rw [HKK.out];exact⟨_,rfl,ho.lower hsz⟩,HX3.out⟩
 ·subst h1;have hl:(Instr.lookup 170 (.map (some W0.heap.size)) (U8 3) true).run Tryz.prog W2=.ok (.tuple #[.func (.func 104) #[] #[.pointer (some ⟨w.heap.size,0,none⟩)],.bool true]) W2:=hL';clear hL';have HT:=zH (zuq HB2.out (H.out.ext HX2.out));go_wp2_with fail;refine HT.out.mono ?_;rintro r W3 ⟨rfl,hx3⟩;have HX3:=zH (HX2.out.trans hx3);have hsz:=HX2.out.size;clear hx3;go_wp2_with fail;go_ret;exact⟨_,rfl,by rw [HKK.out];exact rfl,HX3.out⟩
 ·have hl:(Instr.lookup 170 (.map (some W0.heap.size)) (U8 kk) true).run Tryz.prog W2=.ok (.tuple #[.nilFunc,.bool false]) W2:=by
   rw [hL'];have e2:(kk == 1)=false:=(by simp;omega);have e3:(kk == 2)=false:=(by simp;omega);have e4:(kk == 3)=false:=(by simp;omega);simp [getL,putL,List.lookup,e2,e3,e4,h1,h2,h3,mayV]
  clear hL';go_wp2_with fail;go_ret;exact⟨_,rfl,by rw [HKK.out,if_neg h1,if_neg h2,if_neg h3];rfl,HX2.out⟩
def Did (W w':World) (E pr:Nat) (S:Nat->Prop) (e':Entry) (v1:Value):Prop :=
 ∃ u2 u3,RowIs w' E 46 (entL e' v1 u2 u3) []/\EntAt w' (fun b=>S b ∨ W.heap.size<=b) e' v1 u2 u3/\Kept2 W w' E pr
def MvE (E:Nat) (w w':World):Prop:=w.heap.size<=w'.heap.size/\∀ b,b < w.heap.size->b ≠ E->w'.heap[b]? = w.heap[b]?
theorem MvE.refl (E:Nat) (w:World):MvE E w w:=⟨Nat.le_refl _,fun _ _ _=>rfl⟩
theorem Ext.mvE {E:Nat} {w w':World} (h:Ext w w'):MvE E w w':=⟨h.size,fun b hb _=>h.block b hb⟩
theorem MvE.set (E j:Nat) (w:World) (v:Value):MvE E w (w.setCell ⟨E,j,none⟩ v):=⟨by rw [World.size_setCell];exact Nat.le_refl _,fun b _ hb=>Below.heap_setCell _ _ _ _ hb⟩
theorem Own.mvE {w w':World} {base T k n E:Nat} {v:Value} {xs:List Value} (h:Own w base T k v n xs) (m:MvE E w w') (hE:E < base):Own w' base T k v n xs :=
 h.keep fun b hb hlt=>m.2 b hlt (by have:=(h.base_le hb).1;omega)
theorem OwnL.mvE {α:Type} {T:Shape α} {tid:Nat} {w w':World} {base E:Nat} {v:Value} {l:List α} (h:OwnL T tid w base (fun b=>base<=b) v l) (m:MvE E w w') (hE:E < base):OwnL T tid w' base (fun b=>base<=b) v l :=
 h.keep (fun b hb hlt=>m.2 b hlt (by omega)) fun b hb hlt=>m.2 b hlt (by have:=(h.base_le hb).1;omega)
theorem Kept2.refl (w:World) (p m:Nat):Kept2 w w p m:=⟨rfl,rfl,rfl,Nat.le_refl _,fun _ _ _ _=>rfl⟩
theorem Kept2.set1 {W w:World} {p m j:Nat} (k:Kept2 W w p m) (v:Value):Kept2 W (w.setCell ⟨p,j,none⟩ v) p m :=
 ⟨k.os,k.tape,k.output,by rw [World.size_setCell];exact k.size,fun b hb h1 h2=>(Below.heap_setCell _ _ _ _ h1).trans (k.other b hb h1 h2)⟩
theorem Kept2.set2 {W w:World} {p m j:Nat} (k:Kept2 W w p m) (v:Value):Kept2 W (w.setCell ⟨m,j,none⟩ v) p m :=
 ⟨k.os,k.tape,k.output,by rw [World.size_setCell];exact k.size,fun b hb h1 h2=>(Below.heap_setCell _ _ _ _ h2).trans (k.other b hb h1 h2)⟩
theorem Ext.kept {W w:World} (h:Ext W w) (p m:Nat):Kept2 W w p m:=⟨h.os,h.tape,h.output,h.size,fun j hj _ _=>h.block j hj⟩
theorem EntAt.kept {W w:World} {S:Nat->Prop} {e:Entry} {v1 v2 v3:Value} {p m:Nat} (h:EntAt W S e v1 v2 v3) (k:Kept2 W w p m) (hS:∀ b,S b->b ≠ p/\b ≠ m):EntAt w S e v1 v2 v3 :=
 ⟨h.seen.keep (by decide) fun b hb hlt=>k.other b hlt (hS b hb).1 (hS b hb).2,h.counts.keep (by decide) fun b hb hlt=>k.other b hlt (hS b hb).1 (hS b hb).2,h.items.keep (by decide) fun b hb hlt=>k.other b hlt (hS b hb).1 (hS b hb).2⟩
theorem zrc {S:Nat->Prop} {W:World} {pe pr E:Nat} {e:Entry} {v1 v2 v3 z:Value} {pd:Nat} {d1:Str} (n:Int) (hn1:-9223372036854775808<=n) (hn2:n<=9223372036854775807) (hd:W.cell? ⟨pd,0,none⟩=some (St d1)) (hl:e.counts.length < 1099511627776)
  (hpe:W.cell? ⟨pe,0,none⟩=some (.pointer (some ⟨E,0,none⟩))) (hr:RowIs W pr 32 [z] []) (hE:RowIs W E 46 (entL e v1 v2 v3) []) (hA:EntAt W S e v1 v2 v3) (hS:∀ b,S b->b ≠ E/\b ≠ pr) (hpr:pr ≠ E) :
  Calls Tryz.prog 173 #[I n,.pointer (some ⟨pe,0,none⟩),.pointer (some ⟨pd,0,none⟩),.pointer (some ⟨pr,0,none⟩)] W fun r w'=>r=.returned (I (addC e.counts d1 n).2)/\Did W w' E pr S { e with counts:=(addC e.counts d1 n).1 } v1:=by
 obtain⟨A1,n1,A2,n2,A3,n3,rfl,rfl,rfl⟩:=hA.fm;have HA:=zH hA;have HS:=zH hS;clear hA hS;have hEl:=hE.lt
 let J1:World->Prop:=fun w=>∃ u,Own w W.heap.size 54 3 u (addC e.counts d1 n).1.length ((addC e.counts d1 n).1.flatMap zbx)/\RowIs w E 46 (entL e (.slice A1 e.seen.length n1) u (.slice A3 e.items.length n3)) []/\RowIs w pr 32 [z] []/\Kept2 W w E pr
 go_enter Tryz.func173,Tryz.ntmps173;go_wp2_with fail
 refine zgl [.early (fun v _=>v=.pointer (some ⟨E,0,none⟩)),
  .early (fun v _=>v=.pointer (some ⟨E,0,none⟩)),
  .early (fun v _=>v=.pointer (some ⟨E,0,none⟩)),
  .early (fun v _=>v=.pointer (some ⟨E,2,none⟩)),
  .early (fun v _=>v=.slice A2 e.counts.length n2),
  .early (fun v _=>v=.pointer (some ⟨pd,0,none⟩)),
  .early (fun v _=>v=St d1),
  .early (fun v _=>v=I n),
  .early (fun v W2=>∃ v4,v=.tuple #[v4,I (addC e.counts d1 n).2]/\Own W2 W.heap.size 54 3 v4 (addC e.counts d1 n).1.length ((addC e.counts d1 n).1.flatMap zbx)),
  .early (fun v W2=>∃ v4,v=.tuple #[v4,I (addC e.counts d1 n).2]/\Own W2 W.heap.size 54 3 v4 (addC e.counts d1 n).1.length ((addC e.counts d1 n).1.flatMap zbx)),
  .early (fun v W2=>Own W2 W.heap.size 54 3 v (addC e.counts d1 n).1.length ((addC e.counts d1 n).1.flatMap zbx)),
  .late (fun v _=>v=I (addC e.counts d1 n).2),
  .early (fun v _=>v=.pointer (some ⟨E,0,none⟩)),
  .early (fun v _=>v=.pointer (some ⟨E,2,none⟩)),
  .store] 14 (fun w=>Ext W w) J1 (MvE E) rfl (by kernel_rfl) (by kernel_rfl) ?hR ?hJ ?hstep ?hend
 case hR=>simp only [List.mem_cons,List.not_mem_nil,or_false,forall_eq_or_imp,forall_eq,HF.fact];exact⟨kP,kP,kP,kP,kP,kP,kP,kP,fun v _ _ h he=>by obtain⟨u,e1,ho⟩:=h;exact⟨u,e1,ho.mvE he hEl⟩,fun v _ _ h he=>by obtain⟨u,e1,ho⟩:=h;exact⟨u,e1,ho.mvE he hEl⟩,fun v _ _ h he=>h.mvE he hEl,kP,kP,kP,kP⟩
 case hJ=>exact (Ext.refl W).drew
 case hstep =>
  simp only [List.length_cons,List.length_nil,Nat.reduceAdd,List.take_succ_cons,List.take_zero,zd0,and_true]
  and_intros
  ·intro x W1 hj f;have h:x 1=.pointer (some ⟨pe,0,none⟩):=f.1;have hc:=hj.cell hpe;go_wp;exact zai rfl ⟨hj,MvE.refl _ _⟩
  ·intro x W1 hj f;have h:x 1=.pointer (some ⟨pe,0,none⟩):=f.1;have hc:=hj.cell hpe;go_wp;exact zai rfl ⟨hj,MvE.refl _ _⟩
  ·intro x W1 hj f;have h:_=_:=f.1;go_wp;exact zai rfl ⟨hj,MvE.refl _ _⟩
  ·intro x W1 hj f;have h:_=_:=f.1;go_wp;exact zai rfl ⟨hj,MvE.refl _ _⟩
  ·intro x W1 hj f;have h:_=_:=f.1;have hc:=(hE.ext hj).cell (j:=2) rfl;go_wp;exact zai rfl ⟨hj,MvE.refl _ _⟩
  ·intro x W1 hj f;have h:x 2=.pointer (some ⟨pd,0,none⟩):=f.1;go_wp;exact zai rfl ⟨hj,MvE.refl _ _⟩
  ·intro x W1 hj f;have h:_=_:=f.1;have hc:=hj.cell hd;go_wp;exact zai rfl ⟨hj,MvE.refl _ _⟩
  ·intro x W1 hj f;have h:x 0=I n:=f.1;go_wp;exact zai rfl ⟨hj,MvE.refl _ _⟩
  ·intro x W1 hj f;have h1:_=_:=f.1;have h2:_=_:=f.2.1;have h3:_=_:=f.2.2.1;have hs:=hj.size;have HC:=zH (zyz d1 n hn1 hn2 (HA.out.counts.ext (by decide) hj) hl);go_wp;refine HC.out.mono ?_;rintro r W2 ⟨v4,rfl,ho,hx2⟩;dsimp only;go_wp;exact zai (v:=.tuple #[v4,I (addC e.counts d1 n).2]) ⟨v4,rfl,ho.lower hs⟩ ⟨hj.trans hx2,hx2.mvE⟩
  ·intro x W1 hj f;obtain⟨v4,h,ho⟩:∃ v4,x 15=.tuple #[v4,I (addC e.counts d1 n).2]/\Own W1 W.heap.size 54 3 v4 (addC e.counts d1 n).1.length ((addC e.counts d1 n).1.flatMap zbx):=f.1;go_wp;exact zai ⟨v4,rfl,ho⟩ ⟨hj,MvE.refl _ _⟩
  ·intro x W1 hj f;obtain⟨v4,h,ho⟩:∃ v4,x 6=.tuple #[v4,I (addC e.counts d1 n).2]/\Own W1 W.heap.size 54 3 v4 (addC e.counts d1 n).1.length ((addC e.counts d1 n).1.flatMap zbx):=f.1;go_wp;exact zai ho ⟨hj,MvE.refl _ _⟩
  ·intro x W1 b hj f;obtain⟨v4,h,ho⟩:∃ v4,x 6=.tuple #[v4,I (addC e.counts d1 n).2]/\Own W1 W.heap.size 54 3 v4 (addC e.counts d1 n).1.length ((addC e.counts d1 n).1.flatMap zbx):=f.1;go_wp;exact zai rfl ⟨hj,MvE.refl _ _⟩
  ·intro x W1 hj f;have h:_=_:=f.1;go_wp;exact zai rfl ⟨hj,MvE.refl _ _⟩
  ·intro x W1 hj f;have h:_=_:=f.1;go_wp;exact zai rfl ⟨hj,MvE.refl _ _⟩
  ·intro x W1 hj f;have h:_=_:=f.1;have ho:Own W1 W.heap.size 54 3 (x 16) (addC e.counts d1 n).1.length ((addC e.counts d1 n).1.flatMap zbx):=f.2.1;obtain⟨A,c,hA,-,-⟩:=ho.form;have hEW:=hE.ext hj;have hc:=hEW.cell (j:=2) rfl;have hf:=hEW.frozen 2;rw [hA] at ho;have hp:J1 (W1.setCell ⟨E,2,none⟩ (.slice A (addC e.counts d1 n).1.length c)):=⟨_,ho.mvE (MvE.set _ _ _ _) hEl,hEW.set (j:=2) (by simp) _,(hr.ext hj).other hpr.symm _,(hj.kept E pr).set1 _⟩
   have hm:=MvE.set E 2 W1 (.slice A (addC e.counts d1 n).1.length c);generalize hW2:W1.setCell ⟨E,2,none⟩ (.slice A (addC e.counts d1 n).1.length c)=W2 at *;clear hj ho hEW;go_wp;exact zai (v:=undef) trivial ⟨hp,hm⟩
 case hend =>
  intro x W1 hj f;obtain⟨u,ho,hE1,hr1,hk⟩:=hj;have h17:x 17=I (addC e.counts d1 n).2:=f.2.2.2.2.2.2.2.2.2.2.2.1;simp only [List.length_cons,List.length_nil,Nat.reduceAdd,List.take_succ_cons,List.take_zero,List.filterMap_cons,List.filterMap_nil,List.drop_succ_cons,List.drop_zero,zav,Act.put,List.setIfInBounds_toArray,List.set_cons_succ,List.set_cons_zero,h17];have hrf:=hr1.frozen 0;have hrc:=hr1.cell (j:=0) rfl;clear f;have HK:=zH (hk.set2 (j:=0) (I (addC e.counts d1 n).2));have HE:=zH (hE1.other (p:=⟨pr,0,none⟩) hpr (I (addC e.counts d1 n).2));have HO:=zH (ho.keep (w':=W1.setCell ⟨pr,0,none⟩ (I (addC e.counts d1 n).2)) fun b hb _=>Below.heap_setCell _ _ _ _ (fun e2=>by have:=(ho.base_le hb).1;have:=hr.lt;have e3:b=pr:=e2;omega));have hcs:=(hr1.set (j:=0) (by simp) (I (addC e.counts d1 n).2)).cell (j:=0) rfl;obtain⟨w9,hw9⟩:∃ w9,W1.setCell ⟨pr,0,none⟩ (I (addC e.counts d1 n).2)=w9:=⟨_,rfl⟩
  rw [hw9] at HK HE HO hcs;obtain⟨err,herr⟩:∃ err:Nat,(addC e.counts d1 n).2=err:=⟨_,rfl⟩
  rw [herr] at hw9 hcs ⊢;clear hr1 ho hE1 hk;go_wp;go_wp2_with fail;go_ret;have hA9:=HA.out.kept HK.out HS.out;exact⟨by rw [herr];rfl,u,_,HE.out,⟨hA9.seen.mono (by decide) fun b _ h=>.inl h,(OwnL.flat_iff (S:=fun b=>S b ∨ W.heap.size<=b).2 HO.out).sl (by decide) (fun _ _ h=>h) (fun b h _=>.inr h),hA9.items.mono (by decide) fun b _ h=>.inl h⟩,HK.out⟩
theorem zrd {S:Nat->Prop} {W:World} {pe pr E:Nat} {e:Entry} {v1 v2 v3 z:Value} (line:Str) (gone:Bool)
  (hpe:W.cell? ⟨pe,0,none⟩=some (.pointer (some ⟨E,0,none⟩))) (hr:RowIs W pr 32 [z] []) (hE:RowIs W E 46 (entL e v1 v2 v3) []) (hA:EntAt W S e v1 v2 v3) (hS:∀ b,S b->b ≠ E/\b ≠ pr) (hpr:pr ≠ E) :
  Calls Tryz.prog 175 #[St line,.bool gone,.pointer (some ⟨pe,0,none⟩),.pointer (some ⟨pr,0,none⟩)] W fun r w'=>r=.returned (I (za5 e.cell line gone).2)/\Did W w' E pr S { e with cell:=(za5 e.cell line gone).1 } v1:=by
 obtain⟨A1,n1,A2,n2,A3,n3,rfl,rfl,rfl⟩:=hA.fm;have HA:=zH hA;have HS:=zH hS;clear hA hS;have hEl:=hE.lt
 let J1:World->Prop:=fun w=>RowIs w E 46 (entL { e with cell:=(za5 e.cell line gone).1 } (.slice A1 e.seen.length n1) (.slice A2 e.counts.length n2) (.slice A3 e.items.length n3)) []/\RowIs w pr 32 [z] []/\Kept2 W w E pr
 go_enter Tryz.func175,Tryz.ntmps175;go_wp2_with fail
 refine zgl [.early (fun v _=>v=.pointer (some ⟨E,0,none⟩)),
  .early (fun v _=>v=.pointer (some ⟨E,0,none⟩)),
  .early (fun v _=>v=.pointer (some ⟨E,0,none⟩)),
  .early (fun v _=>v=.pointer (some ⟨E,4,none⟩)),
  .early (fun v _=>v=zdc e.cell),
  .early (fun v _=>v=St line),
  .early (fun v _=>v=.bool gone),
  .early (fun v _=>v=.tuple #[zdc (za5 e.cell line gone).1,I (za5 e.cell line gone).2]),
  .early (fun v _=>v=.tuple #[zdc (za5 e.cell line gone).1,I (za5 e.cell line gone).2]),
  .early (fun v _=>v=zdc (za5 e.cell line gone).1),
  .late (fun v _=>v=I (za5 e.cell line gone).2),
  .early (fun v _=>v=.pointer (some ⟨E,0,none⟩)),
  .early (fun v _=>v=.pointer (some ⟨E,4,none⟩)),
  .store] 13 (fun w=>Ext W w) J1 (MvE E) rfl (by kernel_rfl) (by kernel_rfl) ?hR ?hJ ?hstep ?hend
 case hR=>simp only [List.mem_cons,List.not_mem_nil,or_false,forall_eq_or_imp,forall_eq,HF.fact];exact⟨kP,kP,kP,kP,kP,kP,kP,kP,kP,kP,kP,kP,kP,kP⟩
 case hJ=>exact (Ext.refl W).drew
 case hstep =>
  simp only [List.length_cons,List.length_nil,Nat.reduceAdd,List.take_succ_cons,List.take_zero,zd0,and_true]
  and_intros
  ·intro x W1 hj f;have h:x 2=.pointer (some ⟨pe,0,none⟩):=f.1;have hc:=hj.cell hpe;go_wp;exact zai rfl ⟨hj,MvE.refl _ _⟩
  ·intro x W1 hj f;have h:x 2=.pointer (some ⟨pe,0,none⟩):=f.1;have hc:=hj.cell hpe;go_wp;exact zai rfl ⟨hj,MvE.refl _ _⟩
  ·intro x W1 hj f;have h:_=_:=f.1;go_wp;exact zai rfl ⟨hj,MvE.refl _ _⟩
  ·intro x W1 hj f;have h:_=_:=f.1;go_wp;exact zai rfl ⟨hj,MvE.refl _ _⟩
  ·intro x W1 hj f;have h:_=_:=f.1;have hc4:=(hE.ext hj).cell (j:=4) rfl;have hc5:=(hE.ext hj).cell (j:=5) rfl;have hc6:=(hE.ext hj).cell (j:=6) rfl;go_wp;exact zai rfl ⟨hj,MvE.refl _ _⟩
  ·intro x W1 hj f;have h:x 0=St line:=f.1;go_wp;exact zai rfl ⟨hj,MvE.refl _ _⟩
  ·intro x W1 hj f;have h:x 1=.bool gone:=f.1;go_wp;exact zai rfl ⟨hj,MvE.refl _ _⟩
  ·intro x W1 hj f;have h1:_=_:=f.1;have h2:_=_:=f.2.1;have h3:_=_:=f.2.2.1;have HC:=zH (zul e.cell line gone W1);go_wp;refine HC.out.mono ?_;rintro r W2 ⟨rfl,hx2⟩;dsimp only;go_wp;exact zai rfl ⟨hj.trans hx2,hx2.mvE⟩
  ·intro x W1 hj f;have h:_=_:=f.1;go_wp;exact zai rfl ⟨hj,MvE.refl _ _⟩
  ·intro x W1 hj f;have h:_=_:=f.1;go_wp;exact zai rfl ⟨hj,MvE.refl _ _⟩
  ·intro x W1 b hj f;have h:_=_:=f.1;go_wp;exact zai rfl ⟨hj,MvE.refl _ _⟩
  ·intro x W1 hj f;have h:_=_:=f.1;go_wp;exact zai rfl ⟨hj,MvE.refl _ _⟩
  ·intro x W1 hj f;have h:_=_:=f.1;go_wp;exact zai rfl ⟨hj,MvE.refl _ _⟩
  ·intro x W1 hj f;have h:_=_:=f.1;have h2:_=_:=f.2.1;have hEW:=hE.ext hj;have hc4:=hEW.cell (j:=4) rfl;have hc5:=hEW.cell (j:=5) rfl;have hc6:=hEW.cell (j:=6) rfl;have hf4:=hEW.frozen 4;have hf5:=hEW.frozen 5;have hf6:=hEW.frozen 6;have hE4:=hEW.set (j:=4) (by simp) (U (za5 e.cell line gone).1.1);have hE5:=hE4.set (j:=5) (by simp) (St (za5 e.cell line gone).1.2.1);have hE6:=hE5.set (j:=6) (by simp) (.bool (za5 e.cell line gone).1.2.2);have hp:J1 (((W1.setCell ⟨E,4,none⟩ (U (za5 e.cell line gone).1.1)).setCell ⟨E,5,none⟩ (St (za5 e.cell line gone).1.2.1)).setCell ⟨E,6,none⟩ (.bool (za5 e.cell line gone).1.2.2)):=⟨hE6,(((hr.ext hj).other hpr.symm _).other hpr.symm _).other hpr.symm _,(((hj.kept E pr).set1 _).set1 _).set1 _⟩
   have hm:MvE E W1 (((W1.setCell ⟨E,4,none⟩ (U (za5 e.cell line gone).1.1)).setCell ⟨E,5,none⟩ (St (za5 e.cell line gone).1.2.1)).setCell ⟨E,6,none⟩ (.bool (za5 e.cell line gone).1.2.2)):=⟨by simp only [World.size_setCell];exact Nat.le_refl _,fun b _ hb=>((Below.heap_setCell _ _ _ _ hb).trans (Below.heap_setCell _ _ _ _ hb)).trans (Below.heap_setCell _ _ _ _ hb)⟩
   clear hE4 hE5 hE6 hEW hj;go_wp;exact zai (v:=undef) trivial ⟨hp,hm⟩
 case hend =>
  intro x W1 hj f;obtain⟨hE1,hr1,hk⟩:=hj;have h17:x 17=I (za5 e.cell line gone).2:=f.2.2.2.2.2.2.2.2.2.2.1;simp only [List.length_cons,List.length_nil,Nat.reduceAdd,List.take_succ_cons,List.take_zero,List.filterMap_cons,List.filterMap_nil,List.drop_succ_cons,List.drop_zero,zav,Act.put,List.setIfInBounds_toArray,List.set_cons_succ,List.set_cons_zero,h17];have hrf:=hr1.frozen 0;have hrc:=hr1.cell (j:=0) rfl;clear f;have HK:=zH (hk.set2 (j:=0) (I (za5 e.cell line gone).2));have HE:=zH (hE1.other (p:=⟨pr,0,none⟩) hpr (I (za5 e.cell line gone).2));have hcs:=(hr1.set (j:=0) (by simp) (I (za5 e.cell line gone).2)).cell (j:=0) rfl;obtain⟨w9,hw9⟩:∃ w9,W1.setCell ⟨pr,0,none⟩ (I (za5 e.cell line gone).2)=w9:=⟨_,rfl⟩
  rw [hw9] at HK HE hcs;obtain⟨err,herr⟩:∃ err:Nat,(za5 e.cell line gone).2=err:=⟨_,rfl⟩
  rw [herr] at hw9 hcs ⊢;clear hr1 hE1 hk;go_wp;go_wp2_with fail;go_ret;have hA9:=HA.out.kept HK.out HS.out;exact⟨by rw [herr];rfl,_,_,HE.out,⟨hA9.seen.mono (by decide) fun b _ h=>.inl h,hA9.counts.mono (by decide) fun b _ h=>.inl h,hA9.items.mono (by decide) fun b _ h=>.inl h⟩,HK.out⟩
theorem zzm {S:Nat->Prop} {W:World} {pe pr E:Nat} {e:Entry} {v1 v2 v3 z:Value} {po pd:Nat} {tx:Str} {d1:Dot} (ho3:W.cell? ⟨po,3,none⟩=some (St tx)) (hd:W.cell? ⟨pd,0,none⟩=some (St d1.1)) (hd1:W.cell? ⟨pd,1,none⟩=some (U d1.2)) (hl:(zab e.items).length < 1099511627776)
  (hpe:W.cell? ⟨pe,0,none⟩=some (.pointer (some ⟨E,0,none⟩))) (hr:RowIs W pr 32 [z] []) (hE:RowIs W E 46 (entL e v1 v2 v3) []) (hA:EntAt W S e v1 v2 v3) (hS:∀ b,S b->b ≠ E/\b ≠ pr) (hpr:pr ≠ E) :
  Calls Tryz.prog 179 #[.pointer (some ⟨pe,0,none⟩),.pointer (some ⟨po,0,none⟩),.pointer (some ⟨pd,0,none⟩),.pointer (some ⟨pr,0,none⟩)] W fun r w'=>r=.returned (I (putB e.items tx d1).2)/\Did W w' E pr S { e with items:=(putB e.items tx d1).1 } v1:=by
 obtain⟨A1,n1,A2,n2,A3,n3,rfl,rfl,rfl⟩:=hA.fm;have HA:=zH hA;have HS:=zH hS;clear hA hS;have hEl:=hE.lt
 let J1:World->Prop:=fun w=>∃ u,OwnL itemT 57 w W.heap.size (fun b=>W.heap.size<=b) u (putB e.items tx d1).1/\RowIs w E 46 (entL e (.slice A1 e.seen.length n1) (.slice A2 e.counts.length n2) u) []/\RowIs w pr 32 [z] []/\Kept2 W w E pr
 go_enter Tryz.func179,Tryz.ntmps179;go_wp2_with fail
 refine zgl [.early (fun v _=>v=.pointer (some ⟨E,0,none⟩)),
  .early (fun v _=>v=.pointer (some ⟨E,0,none⟩)),
  .early (fun v _=>v=.pointer (some ⟨E,0,none⟩)),
  .early (fun v _=>v=.pointer (some ⟨E,3,none⟩)),
  .early (fun v _=>v=.slice A3 e.items.length n3),
  .early (fun v _=>v=.pointer (some ⟨po,3,none⟩)),
  .early (fun v _=>v=St tx),
  .early (fun v _=>v=dotV d1),
  .early (fun v W2=>∃ v4,v=.tuple #[v4,I (putB e.items tx d1).2]/\OwnL itemT 57 W2 W.heap.size (fun b=>W.heap.size<=b) v4 (putB e.items tx d1).1),
  .early (fun v W2=>∃ v4,v=.tuple #[v4,I (putB e.items tx d1).2]/\OwnL itemT 57 W2 W.heap.size (fun b=>W.heap.size<=b) v4 (putB e.items tx d1).1),
  .early (fun v W2=>OwnL itemT 57 W2 W.heap.size (fun b=>W.heap.size<=b) v (putB e.items tx d1).1),
  .late (fun v _=>v=I (putB e.items tx d1).2),
  .early (fun v _=>v=.pointer (some ⟨E,0,none⟩)),
  .early (fun v _=>v=.pointer (some ⟨E,3,none⟩)),
  .store] 14 (fun w=>Ext W w) J1 (MvE E) rfl (by kernel_rfl) (by kernel_rfl) ?hR ?hJ ?hstep ?hend
 case hR=>simp only [List.mem_cons,List.not_mem_nil,or_false,forall_eq_or_imp,forall_eq,HF.fact];exact⟨kP,kP,kP,kP,kP,kP,kP,kP,fun v _ _ h he=>by obtain⟨u,e1,ho⟩:=h;exact⟨u,e1,ho.mvE he hEl⟩,fun v _ _ h he=>by obtain⟨u,e1,ho⟩:=h;exact⟨u,e1,ho.mvE he hEl⟩,fun v _ _ h he=>h.mvE he hEl,kP,kP,kP,kP⟩
 case hJ=>exact (Ext.refl W).drew
 case hstep =>
  simp only [List.length_cons,List.length_nil,Nat.reduceAdd,List.take_succ_cons,List.take_zero,zd0,and_true]
  and_intros
  ·intro x W1 hj f;have h:x 0=.pointer (some ⟨pe,0,none⟩):=f.1;have hc:=hj.cell hpe;go_wp;exact zai rfl ⟨hj,MvE.refl _ _⟩
  ·intro x W1 hj f;have h:x 0=.pointer (some ⟨pe,0,none⟩):=f.1;have hc:=hj.cell hpe;go_wp;exact zai rfl ⟨hj,MvE.refl _ _⟩
  ·intro x W1 hj f;have h:_=_:=f.1;go_wp;exact zai rfl ⟨hj,MvE.refl _ _⟩
  ·intro x W1 hj f;have h:_=_:=f.1;go_wp;exact zai rfl ⟨hj,MvE.refl _ _⟩
  ·intro x W1 hj f;have h:_=_:=f.1;have hc:=(hE.ext hj).cell (j:=3) rfl;go_wp;exact zai rfl ⟨hj,MvE.refl _ _⟩
  ·intro x W1 hj f;have h:x 1=.pointer (some ⟨po,0,none⟩):=f.1;go_wp;exact zai rfl ⟨hj,MvE.refl _ _⟩
  ·intro x W1 hj f;have h:_=_:=f.1;have hc:=hj.cell ho3;go_wp;exact zai rfl ⟨hj,MvE.refl _ _⟩
  ·intro x W1 hj f;have h:x 2=.pointer (some ⟨pd,0,none⟩):=f.1;have hc:=hj.cell hd;have hc1:=hj.cell hd1;go_wp;exact zai rfl ⟨hj,MvE.refl _ _⟩
  ·intro x W1 hj f;have h1:_=_:=f.1;have h2:_=_:=f.2.1;have h3:_=_:=f.2.2.1;have hs:=hj.size;have HC:=zH (zzc tx d1 (HA.out.items.ext (by decide) hj) hl);go_wp;refine HC.out.mono ?_;rintro r W2 ⟨v4,rfl,ho,hx2⟩;dsimp only;go_wp;exact zai (v:=.tuple #[v4,I (putB e.items tx d1).2]) ⟨v4,rfl,(ho.lower hs).mono fun b _ h=>Nat.le_trans hs h⟩ ⟨hj.trans hx2,hx2.mvE⟩
  ·intro x W1 hj f;obtain⟨v4,h,ho⟩:∃ v4,x 14=.tuple #[v4,I (putB e.items tx d1).2]/\OwnL itemT 57 W1 W.heap.size (fun b=>W.heap.size<=b) v4 (putB e.items tx d1).1:=f.1;go_wp;exact zai ⟨v4,rfl,ho⟩ ⟨hj,MvE.refl _ _⟩
  ·intro x W1 hj f;obtain⟨v4,h,ho⟩:∃ v4,x 5=.tuple #[v4,I (putB e.items tx d1).2]/\OwnL itemT 57 W1 W.heap.size (fun b=>W.heap.size<=b) v4 (putB e.items tx d1).1:=f.1;go_wp;exact zai ho ⟨hj,MvE.refl _ _⟩
  ·intro x W1 b hj f;obtain⟨v4,h,ho⟩:∃ v4,x 5=.tuple #[v4,I (putB e.items tx d1).2]/\OwnL itemT 57 W1 W.heap.size (fun b=>W.heap.size<=b) v4 (putB e.items tx d1).1:=f.1;go_wp;exact zai rfl ⟨hj,MvE.refl _ _⟩
  ·intro x W1 hj f;have h:_=_:=f.1;go_wp;exact zai rfl ⟨hj,MvE.refl _ _⟩
  ·intro x W1 hj f;have h:_=_:=f.1;go_wp;exact zai rfl ⟨hj,MvE.refl _ _⟩
  ·intro x W1 hj f;have h:_=_:=f.1;have ho:OwnL itemT 57 W1 W.heap.size (fun b=>W.heap.size<=b) (x 15) (putB e.items tx d1).1:=f.2.1;obtain⟨A,c,hA,-,-⟩:=ho.form;have hEW:=hE.ext hj;have hc:=hEW.cell (j:=3) rfl;have hf:=hEW.frozen 3;rw [hA] at ho;have hp:J1 (W1.setCell ⟨E,3,none⟩ (.slice A (putB e.items tx d1).1.length c)):=⟨_,ho.mvE (MvE.set _ _ _ _) hEl,hEW.set (j:=3) (by simp) _,(hr.ext hj).other hpr.symm _,(hj.kept E pr).set1 _⟩
   have hm:=MvE.set E 3 W1 (.slice A (putB e.items tx d1).1.length c);generalize hW2:W1.setCell ⟨E,3,none⟩ (.slice A (putB e.items tx d1).1.length c)=W2 at *;clear hj ho hEW;go_wp;exact zai (v:=undef) trivial ⟨hp,hm⟩
 case hend =>
  intro x W1 hj f;obtain⟨u,ho,hE1,hr1,hk⟩:=hj;have h17:x 16=I (putB e.items tx d1).2:=f.2.2.2.2.2.2.2.2.2.2.2.1;simp only [List.length_cons,List.length_nil,Nat.reduceAdd,List.take_succ_cons,List.take_zero,List.filterMap_cons,List.filterMap_nil,List.drop_succ_cons,List.drop_zero,zav,Act.put,List.setIfInBounds_toArray,List.set_cons_succ,List.set_cons_zero,h17];have hrf:=hr1.frozen 0;have hrc:=hr1.cell (j:=0) rfl;clear f;have HK:=zH (hk.set2 (j:=0) (I (putB e.items tx d1).2));have HE:=zH (hE1.other (p:=⟨pr,0,none⟩) hpr (I (putB e.items tx d1).2));have HO:=zH ((ho.mono (S':=fun b=>W.heap.size<=b/\b ≠ pr) (fun b _ h=>⟨h,by have:=hr.lt;omega⟩)).keep (w':=W1.setCell ⟨pr,0,none⟩ (I (putB e.items tx d1).2)) (fun b hb _=>Below.heap_setCell _ _ _ _ (fun e2=>hb.2 e2)) fun b hb _=>Below.heap_setCell _ _ _ _ (fun e2=>by have:=(ho.base_le hb).1;have:=hr.lt;have e3:b=pr:=e2;omega));clear ho;have hcs:=(hr1.set (j:=0) (by simp) (I (putB e.items tx d1).2)).cell (j:=0) rfl;obtain⟨w9,hw9⟩:∃ w9,W1.setCell ⟨pr,0,none⟩ (I (putB e.items tx d1).2)=w9:=⟨_,rfl⟩
  rw [hw9] at HK HE HO hcs;obtain⟨err,herr⟩:∃ err:Nat,(putB e.items tx d1).2=err:=⟨_,rfl⟩
  rw [herr] at hw9 hcs ⊢;clear hr1 hE1 hk;go_wp;go_wp2_with fail;go_ret;have hA9:=HA.out.kept HK.out HS.out;exact⟨by rw [herr];rfl,_,u,HE.out,⟨hA9.seen.mono (by decide) fun b _ h=>.inl h,hA9.counts.mono (by decide) fun b _ h=>.inl h,HO.out.sl (by decide) (fun _ _ h=>.inr h.1) (fun b h _=>.inr h)⟩,HK.out⟩
theorem Did.mono {W W1 w':World} {E pr:Nat} {S:Nat->Prop} {e':Entry} {v1:Value} (h:Did W1 w' E pr S e' v1) (he:Ext W W1):Did W w' E pr S e' v1:=by
 obtain⟨u2,u3,h1,h2,h3⟩:=h;exact⟨u2,u3,h1,h2.mono (fun b _ hb=>hb.elim .inl fun h=>.inr (Nat.le_trans he.size h)),⟨h3.os.trans he.os,h3.tape.trans he.tape,h3.output.trans he.output,Nat.le_trans he.size h3.size,fun j hj a b=>(h3.other j (Nat.lt_of_lt_of_le hj he.size) a b).trans (he.block j hj)⟩⟩
theorem zzn {S:Nat->Prop} {W:World} {pa po pe pd pr E:Nat} {e:Entry} {v1 v2 v3 z:Value} {d1:Str} (n:Int) (hn1:-9223372036854775808<=n) (hn2:n<=9223372036854775807)
  (hpa:W.cell? ⟨pa,0,none⟩=some (.func (.func 173) #[] #[.pointer (some ⟨pe,0,none⟩),.pointer (some ⟨pd,0,none⟩),.pointer (some ⟨pr,0,none⟩)])) (hpo:W.cell? ⟨po,2,none⟩=some (I n))
  (hd:W.cell? ⟨pd,0,none⟩=some (St d1)) (hl:e.counts.length < 1099511627776)
  (hpe:W.cell? ⟨pe,0,none⟩=some (.pointer (some ⟨E,0,none⟩))) (hr:RowIs W pr 32 [z] []) (hE:RowIs W E 46 (entL e v1 v2 v3) []) (hA:EntAt W S e v1 v2 v3) (hS:∀ b,S b->b ≠ E/\b ≠ pr) (hpr:pr ≠ E) :
  Calls Tryz.prog 177 #[.pointer (some ⟨pa,0,none⟩),.pointer (some ⟨po,0,none⟩)] W fun r w'=>r=.returned (I (addC e.counts d1 n).2)/\Did W w' E pr S { e with counts:=(addC e.counts d1 n).1 } v1:=by
 have eg:∀ args w,(callFunc 173 args).run Tryz.prog w=.ok (.enter 173 args) w:=enters_of Tryz.func173 (by kernel_rfl) rfl;have HC:=zH (zrc n hn1 hn2 hd hl hpe hr hE hA hS hpr);clear hd hl hpe hr hE hA hS hpr hn1 hn2;go_enter Tryz.func177,Tryz.ntmps177;go_wp2_with fail;refine HC.out.mono ?_;rintro r W1 ⟨rfl,hD⟩;go_wp2_with fail;go_ret;exact⟨rfl,hD⟩
theorem eqI {a b:Int} (h:a=b):(a == b)=true:=by simpa using h
theorem neI {a b:Int} (h:a ≠ b):(a == b)=false:=by simpa using h
def delC (l:List zag) (s:Str):List zag × Nat:=if zb7 l = -9223372036854775808 then (l,9) else addC l s (-zb7 l)
theorem zzo {S:Nat->Prop} {W:World} {pa pe pd pr E:Nat} {e:Entry} {v1 v2 v3 z:Value} {d1:Str}
  (hpa:W.cell? ⟨pa,0,none⟩=some (.func (.func 173) #[] #[.pointer (some ⟨pe,0,none⟩),.pointer (some ⟨pd,0,none⟩),.pointer (some ⟨pr,0,none⟩)]))
  (hd:W.cell? ⟨pd,0,none⟩=some (St d1)) (hl:e.counts.length < 1099511627776)
  (hpe:W.cell? ⟨pe,0,none⟩=some (.pointer (some ⟨E,0,none⟩))) (hr:RowIs W pr 32 [z] []) (hE:RowIs W E 46 (entL e v1 v2 v3) []) (hA:EntAt W S e v1 v2 v3) (hS:∀ b,S b->b ≠ E/\b ≠ pr) (hpr:pr ≠ E) :
  Calls Tryz.prog 178 #[.pointer (some ⟨pe,0,none⟩),.pointer (some ⟨pa,0,none⟩)] W fun r w'=>r=.returned (I (delC e.counts d1).2)/\Did W w' E pr S { e with counts:=(delC e.counts d1).1 } v1:=by
 have eg:∀ args w,(callFunc 173 args).run Tryz.prog w=.ok (.enter 173 args) w:=enters_of Tryz.func173 (by kernel_rfl) rfl;have hV:=zo9 (sumL (zax e.counts) (zaz e.counts));have HC:=zH (zi6 hA.counts);have k2:=hE.cell (j:=2) rfl;obtain⟨A2,n2,rfl,-,-⟩:=hA.counts.form;have HD:=zH (show delC e.counts d1=if zb7 e.counts = -9223372036854775808 then (e.counts,9) else addC e.counts d1 (-zb7 e.counts) from rfl);have HADD:=zH (fun (W1:World) (n:Int) (a:-9223372036854775808<=n) (b:n<=9223372036854775807) (hx:Ext W W1)=>zrc n a b (hx.cell hd) hl (hx.cell hpe) (hr.ext hx) (hE.ext hx) (hA.ext hx) hS hpr);have HE:=zH hE;have HA:=zH hA;change -9223372036854775808<=zb7 e.counts/\zb7 e.counts<=9223372036854775807 at hV;clear hd hl hr hE hA hS hpr;go_enter Tryz.func178,Tryz.ntmps178;go_wp2_with fail;refine HC.out.mono ?_;rintro r W1 ⟨rfl,hx1⟩;obtain⟨v,hv⟩:∃ v,zb7 e.counts=v:=⟨_,rfl⟩
 rw [hv] at hV HD;rw [hv];have hpa1:=hx1.cell hpa
 by_cases h:v = -9223372036854775808
 ·have HD2:=zH (show delC e.counts d1=(e.counts,9) by rw [HD.out,if_pos h]);have hk:=eqI h;clear h;go_wp2_with fail;go_ret;exact⟨by rw [HD2.out];rfl,by rw [HD2.out];exact⟨_,_,HE.out.ext hx1,(HA.out.ext hx1).mono fun b _ h=>.inl h,hx1.kept _ _⟩⟩
 ·have HD2:=zH (show delC e.counts d1=addC e.counts d1 (-v) by rw [HD.out,if_neg h]);have hk:=neI h;have hw:IntKind.i64.wrap (-v) = -v:=by rw [IntKind.wrap_i64];omega
  have HC2:=zH (HADD.out W1 (-v) (by omega) (by omega) hx1);have HX1:=zH hx1;clear h HADD hx1;go_wp2_with fail;refine HC2.out.mono ?_;rintro r W2 ⟨rfl,hD⟩;go_wp2_with fail;go_ret;exact⟨by rw [HD2.out];rfl,by rw [HD2.out];exact hD.mono HX1.out⟩
theorem zzp {S:Nat->Prop} {W:World} {pe pr E:Nat} {e:Entry} {v1 v2 v3:Value}
  (hpe:W.cell? ⟨pe,0,none⟩=some (.pointer (some ⟨E,0,none⟩))) (hE:RowIs W E 46 (entL e v1 v2 v3) []) (hA:EntAt W S e v1 v2 v3) (hS:∀ b,S b->b ≠ E/\b ≠ pr) :
  Calls Tryz.prog 183 #[.pointer (some ⟨pe,0,none⟩)] W fun r w'=>r=.returned (I 0)/\Did W w' E pr S { e with items:=[] } v1:=by
 obtain⟨A3,n3,rfl,-,-⟩:=hA.items.form;have hc:=hE.cell (j:=3) rfl;have hf:=hE.frozen 3;have HK:=zH ((Kept2.refl W E pr).set1 (j:=3) (.slice none 0 0));have HE:=zH (hE.set (j:=3) (by simp) (.slice none 0 0));have HA:=zH (hA.kept HK.out hS);clear hE hA hS;go_enter Tryz.func183,Tryz.ntmps183;go_wp2_with fail;go_ret;exact⟨rfl,_,_,HE.out,⟨HA.out.seen.mono (by decide) fun b _ h=>.inl h,HA.out.counts.mono (by decide) fun b _ h=>.inl h,Sl.nil _ _ (by decide)⟩,HK.out⟩
theorem zzq {S:Nat->Prop} {W:World} {pa po pe pr E:Nat} {e:Entry} {v1 v2 v3 z:Value} {tx:Str}
  (hpa:W.cell? ⟨pa,0,none⟩=some (.func (.func 175) #[] #[.pointer (some ⟨pe,0,none⟩),.pointer (some ⟨pr,0,none⟩)])) (hpo:W.cell? ⟨po,3,none⟩=some (St tx))
  (hpe:W.cell? ⟨pe,0,none⟩=some (.pointer (some ⟨E,0,none⟩))) (hr:RowIs W pr 32 [z] []) (hE:RowIs W E 46 (entL e v1 v2 v3) []) (hA:EntAt W S e v1 v2 v3) (hS:∀ b,S b->b ≠ E/\b ≠ pr) (hpr:pr ≠ E) :
  Calls Tryz.prog 184 #[.pointer (some ⟨pa,0,none⟩),.pointer (some ⟨po,0,none⟩)] W fun r w'=>r=.returned (I (za5 e.cell tx false).2)/\Did W w' E pr S { e with cell:=(za5 e.cell tx false).1 } v1:=by
 have eg:∀ args w,(callFunc 175 args).run Tryz.prog w=.ok (.enter 175 args) w:=enters_of Tryz.func175 (by kernel_rfl) rfl;have HC:=zH (zrd tx false hpe hr hE hA hS hpr);clear hpe hr hE hA hS hpr;go_enter Tryz.func184,Tryz.ntmps184;go_wp2_with fail;refine HC.out.mono ?_;rintro r W1 ⟨rfl,hD⟩;go_wp2_with fail;go_ret;exact⟨rfl,hD⟩
theorem zzr {S:Nat->Prop} {W:World} {pa pe pr E:Nat} {e:Entry} {v1 v2 v3 z:Value}
  (hpa:W.cell? ⟨pa,0,none⟩=some (.func (.func 175) #[] #[.pointer (some ⟨pe,0,none⟩),.pointer (some ⟨pr,0,none⟩)]))
  (hpe:W.cell? ⟨pe,0,none⟩=some (.pointer (some ⟨E,0,none⟩))) (hr:RowIs W pr 32 [z] []) (hE:RowIs W E 46 (entL e v1 v2 v3) []) (hA:EntAt W S e v1 v2 v3) (hS:∀ b,S b->b ≠ E/\b ≠ pr) (hpr:pr ≠ E) :
  Calls Tryz.prog 185 #[.pointer (some ⟨pa,0,none⟩)] W fun r w'=>r=.returned (I (za5 e.cell [] true).2)/\Did W w' E pr S { e with cell:=(za5 e.cell [] true).1 } v1:=by
 have eg:∀ args w,(callFunc 175 args).run Tryz.prog w=.ok (.enter 175 args) w:=enters_of Tryz.func175 (by kernel_rfl) rfl;have HC:=zH (zrd [] true hpe hr hE hA hS hpr);clear hpe hr hE hA hS hpr;go_enter Tryz.func185,Tryz.ntmps185;go_wp2_with fail;refine HC.out.mono ?_;rintro r W1 ⟨rfl,hD⟩;go_wp2_with fail;go_ret;exact⟨rfl,hD⟩
theorem zzs {S:Nat->Prop} {W:World} {po pe pr E:Nat} {e:Entry} {v1 v2 v3:Value} {tx:Str} (ho3:W.cell? ⟨po,3,none⟩=some (St tx)) (hl:(zab e.items).length<=1099511627776)
  (hpe:W.cell? ⟨pe,0,none⟩=some (.pointer (some ⟨E,0,none⟩))) (hE:RowIs W E 46 (entL e v1 v2 v3) []) (hA:EntAt W S e v1 v2 v3) (hS:∀ b,S b->b ≠ E/\b ≠ pr) :
  Calls Tryz.prog 181 #[.pointer (some ⟨pe,0,none⟩),.pointer (some ⟨po,0,none⟩)] W fun r w'=>r=.returned (I 0)/\Did W w' E pr S { e with items:=zf2 e.items tx } v1:=by
 obtain⟨A1,n1,A2,n2,A3,n3,rfl,rfl,rfl⟩:=hA.fm;have HA:=zH hA;have HS:=zH hS;have hEl:=hE.lt;clear hA hS;go_enter Tryz.func181,Tryz.ntmps181;go_wp2_with fail
 refine zat [fun v _=>v=.pointer (some ⟨E,0,none⟩),fun v _=>v=.pointer (some ⟨E,0,none⟩),fun v _=>v=.pointer (some ⟨E,0,none⟩),fun v _=>v=.pointer (some ⟨E,3,none⟩),fun v _=>v=.slice A3 e.items.length n3,fun v _=>v=.pointer (some ⟨po,3,none⟩),fun v _=>v=St tx,
  fun v W2=>OwnL itemT 57 W2 W.heap.size (fun b=>W.heap.size<=b) v (zf2 e.items tx),fun v _=>v=.pointer (some ⟨E,0,none⟩),fun v _=>v=.pointer (some ⟨E,3,none⟩)] rfl (by kernel_rfl) ?hR ?hstep ?hend
 case hR=>simp only [List.mem_cons,List.not_mem_nil,or_false,forall_eq_or_imp,forall_eq];exact⟨kP,kP,kP,kP,kP,kP,kP,fun v _ _ h he=>h.ext he,kP,kP⟩
 case hstep =>
  simp only [List.length_cons,List.length_nil,Nat.reduceAdd,List.take_succ_cons,List.take_zero,zbj,and_true]
  and_intros <;> intro x W1 he f
  ·have h:x 0=.pointer (some ⟨pe,0,none⟩):=f.1;have hc:=he.cell hpe;go_wp;exact sQ
  ·have h:x 0=.pointer (some ⟨pe,0,none⟩):=f.1;have hc:=he.cell hpe;go_wp;exact sQ
  iterate 2 · have h0:_=_:=f.1;go_wp;exact sQ
  ·have h:_=_:=f.1;have hc:=(hE.ext he).cell (j:=3) rfl;go_wp;exact sQ
  ·have h:x 1=.pointer (some ⟨po,0,none⟩):=f.1;go_wp;exact sQ
  ·have h:_=_:=f.1;have hc:=he.cell ho3;go_wp;exact sQ
  ·have h1:_=_:=f.1;have h2:_=_:=f.2.1;have hs:=he.size;have HC:=zH (zzb tx (HA.out.items.ext (by decide) he) hl);go_wp;refine HC.out.mono ?_;rintro r W2 ⟨v4,rfl,ho,hx2⟩;dsimp only;go_wp;exact zaa (v:=v4) ((ho.lower hs).mono fun b _ h=>Nat.le_trans hs h) hx2
  iterate 2 · have h0:_=_:=f.1;go_wp;exact sQ
 case hend=>intro x W1 he f;have h12:x 12=.pointer (some ⟨E,3,none⟩):=f.2.2.2.2.2.2.2.2.2.1;have ho:OwnL itemT 57 W1 W.heap.size (fun b=>W.heap.size<=b) (x 10) (zf2 e.items tx):=f.2.2.2.2.2.2.2.1;obtain⟨A,c,hA,-,-⟩:=ho.form;simp only [List.length_cons,List.length_nil,Nat.reduceAdd,List.take_succ_cons,List.take_zero,List.filterMap_cons,List.filterMap_nil,List.drop_succ_cons,List.drop_zero,zav,Act.put,List.setIfInBounds_toArray,List.set_cons_succ,List.set_cons_zero,h12,hA];rw [hA] at ho;have hEW:=hE.ext he;have hc:=hEW.cell (j:=3) rfl;have hf:=hEW.frozen 3;have HE:=zH (hEW.set (j:=3) (by simp) (.slice A (zf2 e.items tx).length c));have HK:=zH ((he.kept E pr).set1 (j:=3) (.slice A (zf2 e.items tx).length c));have HO:=zH (ho.mvE (MvE.set E 3 W1 (.slice A (zf2 e.items tx).length c)) hEl);clear f ho hEW;go_wp;go_wp2_with fail;go_ret;have hA9:=HA.out.kept HK.out HS.out;exact⟨rfl,_,_,HE.out,⟨hA9.seen.mono (by decide) fun b _ h=>.inl h,hA9.counts.mono (by decide) fun b _ h=>.inl h,HO.out.sl (by decide) (fun b _ h=>.inr h) (fun b h _=>.inr h)⟩,HK.out⟩
end
section
def SortedC (l:List zag):Prop:=l.Pairwise fun a b=>ltS a.1 b.1=true
def GoodC (l:List zag):Prop:=SortedC l/\∀ c ∈ l,¬ (c.2.1=0/\c.2.2=0)
theorem zlu:∀ (l:List zag) (o:Option Str),zdi o l=true↔GoodC l/\∀ s,o=some s->∀ c ∈ l,ltS s c.1=true
 | [],o=>by simp [zdi,GoodC,SortedC]
 | c :: r,o=>by
  have ih:=zlu r (some c.1);unfold zdi;rw [Bool.and_eq_true,Bool.and_eq_true,ih];have h0:((!(c.2.1 == 0 && c.2.2 == 0))=true)↔¬ (c.2.1=0/\c.2.2=0):=by simp only [Bool.not_eq_true',Bool.and_eq_false_iff,beq_eq_false_iff_ne];omega
  rw [h0]
  constructor
  ·rintro⟨⟨h1,h2⟩,⟨h3,h4⟩,h5⟩;have h5':=h5 c.1 rfl;refine ⟨⟨List.pairwise_cons.2 ⟨h5',h3⟩,fun x hx=>?_⟩,fun s hs x hx=>?_⟩
   ·rcases List.mem_cons.1 hx with rfl | hx
    ·exact h1
    ·exact h4 x hx
   ·subst hs;rcases List.mem_cons.1 hx with rfl | hx
    ·exact h2
    ·exact zay h2 (h5' x hx)
  ·rintro⟨⟨h1,h2⟩,h3⟩;refine ⟨⟨h2 c (by simp),?_⟩,⟨(List.pairwise_cons.1 h1).2,fun x hx=>h2 x (by simp [hx])⟩,fun s hs=>?_⟩
   ·cases o with
    | none=>rfl
    | some s=>exact h3 s rfl c (by simp)
   ·cases hs;exact (List.pairwise_cons.1 h1).1
theorem mayL_iff {l:List zag}:mayL l=true↔GoodC l:=by
 unfold mayL;rw [zlu];simp
theorem zus {l:List Str} (hn:l.Nodup):(zbw l).Pairwise fun a b=>ltS a b=true:=by
 have h1:=zhk l;have h2:(zbw l).Nodup:=(zen l).nodup_iff.2 hn
 exact (h1.and h2).imp fun {a b} h=>by
  rcases zcj a b with k | k | k
  ·exact k
  ·exact absurd k h.2
  ·rw [h.1] at k;cases k
theorem listL_mem {Lp Lm:List (Str × Nat)} {c:zag}:c ∈ zdr Lp Lm↔c.1 ∈ Lp.map Prod.fst/\¬ (getL 0 Lp c.1=0/\getL 0 Lm c.1=0)/\c.2=(getL 0 Lp c.1,getL 0 Lm c.1):=by
 obtain⟨k,n,m⟩:=c;unfold zdr zb6;rw [List.mem_map]
 constructor
 ·rintro⟨x,hx,he⟩;obtain⟨h1,h2⟩:=List.mem_filter.1 hx;injection he with e1 e2
  subst e1;refine ⟨(zen _).mem_iff.1 h1,?_,e2.symm⟩;rintro⟨h3,h4⟩;simp [h3,h4] at h2
 ·rintro⟨h1,h2,h3⟩;refine ⟨k,List.mem_filter.2 ⟨(zen _).mem_iff.2 h1,?_⟩,by simp only at h3;rw [h3]⟩
  by_cases h:getL 0 Lp k=0
  ·have:getL 0 Lm k ≠ 0:=fun h'=>h2 ⟨h,h'⟩
   simp [this]
  ·simp [h]
theorem zhb {Lp Lm:List (Str × Nat)} (hn:(Lp.map Prod.fst).Nodup):GoodC (zdr Lp Lm):=by
 refine ⟨?_,fun c hc=>?_⟩
 ·unfold zdr zb6 SortedC;rw [List.pairwise_map];exact (zus hn).filter _
 ·obtain⟨-,h2,h3⟩:=listL_mem.1 hc;rw [h3];exact h2
theorem zky (f:Nat->Nat->Nat) {L:List (Str × Nat)} (h:(L.map Prod.fst).Nodup) (c:zag):((putP f L c).map Prod.fst).Nodup:=zij h _ _
theorem zkz {L:List (Str × Nat)} {k s:Str} {v:Nat}:s ∈ (putL L k v).map Prod.fst↔s=k ∨ s ∈ L.map Prod.fst:=by
 rw [zjo]
 by_cases h:k ∈ L.map Prod.fst
 ·rw [if_pos h]
  constructor
  ·exact .inr
  ·rintro (rfl | h')
   ·exact h
   ·exact h'
 ·rw [if_neg h,List.mem_append,List.mem_singleton];exact⟨fun h=>h.symm,fun h=>h.symm⟩
theorem zj3:∀ (cs:List zag) (L:List (Str × Nat)),(L.map Prod.fst).Nodup->((cs.foldl (putP max) L).map Prod.fst).Nodup/\∀ s,s ∈ (cs.foldl (putP max) L).map Prod.fst↔(∃ c ∈ cs,c.1=s) ∨ s ∈ L.map Prod.fst
 | [],L,h=>⟨h,fun s=>by simp⟩
 | c :: r,L,h=>by
  obtain⟨h1,h2⟩:=zj3 r (putP max L c) (zky _ h c);refine ⟨h1,fun s=>?_⟩;rw [List.foldl_cons,h2];unfold putP;rw [zkz]
  constructor
  ·rintro (⟨x,hx,he⟩ | h | h)
   ·exact .inl ⟨x,by simp [hx],he⟩
   ·exact .inl ⟨c,by simp,h.symm⟩
   ·exact .inr h
  ·rintro (⟨x,hx,he⟩ | h)
   ·rcases List.mem_cons.1 hx with rfl | hx
    ·exact .inr (.inl he.symm)
    ·exact .inl ⟨x,hx,he⟩
   ·exact .inr (.inr h)
theorem zcd (cs:List zag):((zax cs).map Prod.fst).Nodup:=(zj3 cs [] (by simp)).1
theorem plusOf_key {cs:List zag} {s:Str}:s ∈ (zax cs).map Prod.fst↔∃ c ∈ cs,c.1=s:=by
 rw [show zax cs=cs.foldl (putP max) [] from rfl,(zj3 cs [] (by simp)).2];simp
theorem zxk (l:List zag) (s:Str) (n:Int):GoodC (addL l s n):=zhb (zky _ (zcd l) _)
end
section
open Go.RowKit
section
variable {κ ν:Type} [DecidableEq κ]
theorem zia {a b:κ} (h:¬ a=b):(a == b)=false:=beq_eq_false_iff_ne.2 h
theorem zsz (L:List (κ × ν)) (k s:κ) (v:ν):(L++[(k,v)]).lookup s=match L.lookup s with | some x=>some x | none=>if s=k then some v else none:=by
 induction L with
 | nil =>
  by_cases h:s=k
  ·subst h;simp [List.lookup]
  ·simp [List.lookup,zia h,h]
 | cons p r ih =>
  obtain⟨a,b⟩:=p;simp only [List.cons_append,List.lookup]
  by_cases h:s=a
  ·subst h;simp
  ·simp [zia h,ih]
theorem zut (L:List (κ × ν)) (k s:κ) (v:ν):(L.map fun p=>if p.1=k then (k,v) else p).lookup s=if s=k then (if k ∈ L.map Prod.fst then some v else none) else L.lookup s:=by
 induction L with
 | nil=>simp [List.lookup]
 | cons p r ih =>
  obtain⟨a,b⟩:=p
  by_cases ha:a=k
  ·subst ha;simp only [List.map_cons,if_pos,List.lookup,List.mem_cons,true_or]
   by_cases h:s=a
   ·subst h;simp
   ·simp [zia h,h,ih]
  ·simp only [List.map_cons,if_neg ha,List.lookup,List.mem_cons]
   by_cases h:s=a
   ·subst h;simp [ha]
   ·have hk:¬ k=a:=fun e=>ha e.symm
    rw [zia h];simp only [ih]
    by_cases hs:s=k
    ·subst hs;rw [if_pos rfl,if_pos rfl]
     by_cases hm:s ∈ r.map Prod.fst
     ·rw [if_pos hm,if_pos (.inr hm)]
     ·rw [if_neg hm,if_neg fun e=>e.elim h hm]
    ·simp [hs]
theorem lookup_none {L:List (κ × ν)} {s:κ}:L.lookup s=none↔s ∉ L.map Prod.fst:=by
 induction L with
 | nil=>simp [List.lookup]
 | cons p r ih =>
  obtain⟨a,b⟩:=p;simp only [List.lookup,List.map_cons,List.mem_cons]
  by_cases h:s=a
  ·subst h;simp
  ·simp [zia h,h,ih]
theorem zji (z:ν) (L:List (κ × ν)) (k s:κ) (v:ν):getL z (putL L k v) s=if s=k then v else getL z L s:=by
 unfold getL putL
 by_cases hk:k ∈ L.map Prod.fst
 ·rw [if_pos hk,zut]
  by_cases h:s=k
  ·simp [h,hk]
  ·simp [h]
 ·rw [if_neg hk,zsz]
  by_cases h:s=k
  ·subst h;rw [lookup_none.2 hk];simp
  ·cases hl:L.lookup s <;> simp [h]
theorem zpn {z:ν} {L:List (κ × ν)} {s:κ} (h:s ∉ L.map Prod.fst):getL z L s=z:=by unfold getL;rw [lookup_none.2 h];rfl
theorem zxl (z:ν) (a:κ) (b:ν) (L:List (κ × ν)) (s:κ):getL z ((a,b) :: L) s=if s=a then b else getL z L s:=by
 unfold getL;simp only [List.lookup]
 by_cases h:s=a
 ·subst h;simp
 ·simp [zia h,h]
end
def zbr (l:List zag) (s:Str):Nat:=getL 0 (zax l) s
def zbf (l:List zag) (s:Str):Nat:=getL 0 (zaz l) s
theorem zpo (s:Str):∀ (l:List zag) (L:List (Str × Nat)) (x:Nat),getL 0 (l.foldl (putP max) L) s<=x↔getL 0 L s<=x/\∀ c ∈ l,c.1=s->c.2.1<=x
 | [],L,x=>by simp
 | c :: r,L,x=>by
  rw [List.foldl_cons,zpo s r];unfold putP;rw [zji];simp only [List.mem_cons,forall_eq_or_imp]
  by_cases h:s=c.1
  ·subst h;rw [if_pos rfl]
   constructor
   ·rintro⟨h1,h2⟩;exact⟨by omega,fun _=>by omega,h2⟩
   ·rintro⟨h1,h2,h3⟩;have:=h2 rfl;exact⟨by omega,h3⟩
  ·rw [if_neg h]
   constructor
   ·rintro⟨h1,h2⟩;exact⟨h1,fun e=>absurd e.symm h,h2⟩
   ·rintro⟨h1,-,h3⟩;exact⟨h1,h3⟩
theorem zpp (s:Str):∀ (l:List zag) (L:List (Str × Nat)) (x:Nat),getL 0 (l.foldl (putM max) L) s<=x↔getL 0 L s<=x/\∀ c ∈ l,c.1=s->c.2.2<=x
 | [],L,x=>by simp
 | c :: r,L,x=>by
  rw [List.foldl_cons,zpp s r];unfold putM;rw [zji];simp only [List.mem_cons,forall_eq_or_imp]
  by_cases h:s=c.1
  ·subst h;rw [if_pos rfl]
   constructor
   ·rintro⟨h1,h2⟩;exact⟨by omega,fun _=>by omega,h2⟩
   ·rintro⟨h1,h2,h3⟩;have:=h2 rfl;exact⟨by omega,h3⟩
  ·rw [if_neg h]
   constructor
   ·rintro⟨h1,h2⟩;exact⟨h1,fun e=>absurd e.symm h,h2⟩
   ·rintro⟨h1,-,h3⟩;exact⟨h1,h3⟩
theorem plusC_le {l:List zag} {s:Str} {x:Nat}:zbr l s<=x↔∀ c ∈ l,c.1=s->c.2.1<=x:=by
 unfold zbr zax;rw [zpo];simp [getL,List.lookup]
theorem minusC_le {l:List zag} {s:Str} {x:Nat}:zbf l s<=x↔∀ c ∈ l,c.1=s->c.2.2<=x:=by
 unfold zbf zaz;rw [zpp];simp [getL,List.lookup]
theorem zip {a b:Nat} (h:∀ x,a<=x↔b<=x):a=b:=Nat.le_antisymm ((h b).2 (Nat.le_refl _)) ((h a).1 (Nat.le_refl _))
theorem zre (a b:List zag) (s:Str):zbr (a++b) s=max (zbr a s) (zbr b s):=zip fun x=>by
 rw [Nat.max_le,plusC_le,plusC_le,plusC_le]
 constructor
 ·intro h;exact⟨fun c hc=>h c (List.mem_append_left _ hc),fun c hc=>h c (List.mem_append_right _ hc)⟩
 ·rintro⟨h1,h2⟩ c hc;rcases List.mem_append.1 hc with hc | hc;exact h1 c hc;exact h2 c hc
theorem zqn (a b:List zag) (s:Str):zbf (a++b) s=max (zbf a s) (zbf b s):=zip fun x=>by
 rw [Nat.max_le,minusC_le,minusC_le,minusC_le]
 constructor
 ·intro h;exact⟨fun c hc=>h c (List.mem_append_left _ hc),fun c hc=>h c (List.mem_append_right _ hc)⟩
 ·rintro⟨h1,h2⟩ c hc;rcases List.mem_append.1 hc with hc | hc;exact h1 c hc;exact h2 c hc
theorem SortedC.uniq {l:List zag} (h:SortedC l) {a b:zag} (ha:a ∈ l) (hb:b ∈ l) (e:a.1=b.1):a=b:=by
 induction l with
 | nil=>cases ha
 | cons x r ih =>
  obtain⟨h1,h2⟩:=List.pairwise_cons.1 h;rcases List.mem_cons.1 ha with e1 | ha'
  ·rcases List.mem_cons.1 hb with e2 | hb'
   ·rw [e1,e2]
   ·rw [e1] at e;exact absurd e (zck (h1 b hb'))
  ·rcases List.mem_cons.1 hb with e2 | hb'
   ·rw [e2] at e;exact absurd e.symm (zck (h1 a ha'))
   ·exact ih h2 ha' hb'
theorem SortedC.plus {l:List zag} (h:SortedC l) {c:zag} (hc:c ∈ l):zbr l c.1=c.2.1:=zip fun x=>by
 rw [plusC_le];exact⟨fun k=>k c hc rfl,fun k d hd e=>by rw [h.uniq hd hc e];exact k⟩
theorem SortedC.minus {l:List zag} (h:SortedC l) {c:zag} (hc:c ∈ l):zbf l c.1=c.2.2:=zip fun x=>by
 rw [minusC_le];exact⟨fun k=>k c hc rfl,fun k d hd e=>by rw [h.uniq hd hc e];exact k⟩
theorem zf4 {l:List zag} {s:Str} (h:∀ c ∈ l,c.1 ≠ s):zbr l s=0:=Nat.le_zero.1 (plusC_le.2 fun c hc e=>absurd e (h c hc))
theorem zfi {l:List zag} {s:Str} (h:∀ c ∈ l,c.1 ≠ s):zbf l s=0:=Nat.le_zero.1 (minusC_le.2 fun c hc e=>absurd e (h c hc))
theorem GoodC.mem_iff {l:List zag} (h:GoodC l) {c:zag}:c ∈ l↔¬ (zbr l c.1=0/\zbf l c.1=0)/\c.2=(zbr l c.1,zbf l c.1):=by
 constructor
 ·intro hc;rw [h.1.plus hc,h.1.minus hc];exact⟨h.2 c hc,rfl⟩
 ·rintro⟨h1,h2⟩;obtain⟨s,v⟩:=c;simp only at h1 h2;subst h2
  by_cases hx:∃ d ∈ l,d.1=s
  ·obtain⟨d,hd,rfl⟩:=hx;rw [h.1.plus hd,h.1.minus hd];exact hd
  ·have hn:∀ c ∈ l,c.1 ≠ s:=fun c hc e=>hx ⟨c,hc,e⟩
   exact absurd ⟨zf4 hn,zfi hn⟩ h1
theorem zo0 {a b:List zag} (ha:SortedC a) (hb:SortedC b) (h:∀ m,m ∈ a↔m ∈ b):a=b:=by
 unfold SortedC at ha hb;have na:a.Nodup:=ha.imp fun {a b} hab e=>by subst e;rw [zap] at hab;cases hab
 have nb:b.Nodup:=hb.imp fun {a b} hab e=>by subst e;rw [zap] at hab;cases hab
 exact List.Perm.eq_of_pairwise (le:=fun a b=>ltS a.1 b.1=true) (fun x y _ _ h1 h2=>by rw [zc8 h1] at h2;cases h2) ha hb (zdl na nb h)
theorem GoodC.ext {a b:List zag} (ha:GoodC a) (hb:GoodC b) (h:∀ s,zbr a s=zbr b s/\zbf a s=zbf b s):a=b :=
 zo0 ha.1 hb.1 fun m=>by rw [ha.mem_iff,hb.mem_iff,(h m.1).1,(h m.1).2]
theorem zlv {Lp Lm:List (Str × Nat)} (hk:∀ s,s ∈ Lm.map Prod.fst->s ∈ Lp.map Prod.fst) (hn:(Lp.map Prod.fst).Nodup) (s:Str):zbr (zdr Lp Lm) s=getL 0 Lp s/\zbf (zdr Lp Lm) s=getL 0 Lm s:=by
 have hg:=zhb (Lm:=Lm) hn
 by_cases h:∃ c ∈ zdr Lp Lm,c.1=s
 ·obtain⟨c,hc,rfl⟩:=h;rw [hg.1.plus hc,hg.1.minus hc,(listL_mem.1 hc).2.2];exact⟨rfl,rfl⟩
 ·have h':∀ c ∈ zdr Lp Lm,c.1 ≠ s:=fun c hc e=>h ⟨c,hc,e⟩
  rw [zf4 h',zfi h']
  by_cases hs:s ∈ Lp.map Prod.fst
  ·have:getL 0 Lp s=0/\getL 0 Lm s=0:=Classical.byContradiction fun hx=>h' (s,getL 0 Lp s,getL 0 Lm s) (listL_mem.2 ⟨hs,hx,rfl⟩) rfl
   exact⟨this.1.symm,this.2.symm⟩
  ·rw [zpn hs,zpn fun hm=>hs (hk s hm)];exact⟨rfl,rfl⟩
theorem zpq:∀ (cs:List zag) (L:List (Str × Nat)) (s:Str),s ∈ (cs.foldl (putM max) L).map Prod.fst↔(∃ c ∈ cs,c.1=s) ∨ s ∈ L.map Prod.fst
 | [],L,s=>by simp
 | c :: r,L,s=>by
  rw [List.foldl_cons,zpq r];unfold putM;rw [zkz]
  constructor
  ·rintro (⟨x,hx,he⟩ | h | h)
   ·exact .inl ⟨x,by simp [hx],he⟩
   ·exact .inl ⟨c,by simp,h.symm⟩
   ·exact .inr h
  ·rintro (⟨x,hx,he⟩ | h)
   ·rcases List.mem_cons.1 hx with rfl | hx
    ·exact .inr (.inl he.symm)
    ·exact .inl ⟨x,hx,he⟩
   ·exact .inr (.inr h)
theorem minusOf_key {cs:List zag} {s:Str}:s ∈ (zaz cs).map Prod.fst↔∃ c ∈ cs,c.1=s:=by
 rw [show zaz cs=cs.foldl (putM max) [] from rfl,zpq];simp
theorem zuu (a b:List zag):GoodC (zef a b):=zhb (zcd _)
theorem zpr (a b:List zag) (s:Str):zbr (zef a b) s=max (zbr a s) (zbr b s)/\zbf (zef a b) s=max (zbf a s) (zbf b s):=by
 have:=zlv (Lp:=zax (a++b)) (Lm:=zaz (a++b)) (fun s hs=>plusOf_key.2 (minusOf_key.1 hs)) (zcd _) s;rw [<- zre,<- zqn];exact this
theorem zrf (l:List zag) (p:Str) (n:Int) (s:Str):zbr (addL l p n) s=(if s=p then addU (zbr l p) (upOf n) else zbr l s)/\zbf (addL l p n) s=(if s=p then addU (zbf l p) (zcb n) else zbf l s):=by
 unfold addL
 have:=zlv (Lp:=putP addU (zax l) (p,upOf n,zcb n)) (Lm:=putM addU (zaz l) (p,upOf n,zcb n)) (fun s hs=>by unfold putP;unfold putM at hs;rw [zkz] at hs ⊢;exact hs.imp id fun h=>plusOf_key.2 (minusOf_key.1 h)) (zky _ (zcd l) _) s
 rw [this.1,this.2];unfold putP putM;rw [zji,zji];exact⟨rfl,rfl⟩
end
section
open Go.RowKit Go.Shelf
theorem zps {P:Program} (w:World) (T:TypeId) (u v:Value) (h:v.oneCell'=true) (a:Nat) (ha:a=w.heap.size):(store ⟨a,0,none⟩ v).run P (w.alloc (.cells #[u] T))=.ok () (w.alloc (.cells #[v] T)):=by
 subst ha;have hc:(w.alloc (.cells #[u] T)).cell? ⟨w.heap.size,0,none⟩=some u:=(zix w u T).1;have hf:=(zix w u T).2;rw [run_store P _ _ v _ h,hc];simp only [hf,World.setCell_alloc_new]
 rfl
def clo (f:Nat) (l:List Nat):Value:=.func (.func f) #[] (l.map fun b=>Value.pointer (some ⟨b,0,none⟩)).toArray
abbrev M8 (o:Option Nat):Value:=.map o
abbrev V8 (v:Value):Value:=v
structure UpdAt (w:World) (B E:Nat) (n:Int) (tx:Str) (d:Dot) (m:Nat):Prop where
 pe:w.cell? ⟨B,0,none⟩=some (.pointer (some ⟨E,0,none⟩))
 po2:w.cell? ⟨B+1,2,none⟩=some (I n)
 po3:w.cell? ⟨B+1,3,none⟩=some (St tx)
 d0:w.cell? ⟨B+2,0,none⟩=some (St d.1)
 d1:w.cell? ⟨B+2,1,none⟩=some (U d.2)
 err:RowIs w (B+3) 32 [I 0] []
 c1:w.cell? ⟨B+4,0,none⟩=some (clo 173 [B,B+2,B+3])
 c2:w.cell? ⟨B+5,0,none⟩=some (clo 175 [B,B+3])
 maps:∃ m1 m2 m3,MapIs K8 M8 w m [(1,some m1),(2,some m2),(3,some m3)] /\
  MapIs K8 V8 w m1 [(1,clo 177 [B+4,B+1]),(5,clo 178 [B,B+4])] /\
  MapIs K8 V8 w m2 [(2,clo 179 [B,B+1,B+2,B+3]),(3,clo 181 [B,B+1]),(5,clo 183 [B])] /\
  MapIs K8 V8 w m3 [(4,clo 184 [B+5,B+1]),(5,clo 185 [B+5])]
theorem zs0 {W:World} {E:Nat} (k:Str) (dO:Nat) (n:Int) (tx:Str) (d:Dot) :
  Calls Tryz.prog 135 #[.pointer (some ⟨E,0,none⟩),.agg #[K8 dO,St k,I n,St tx],dotV d] W fun r w'=>∃ m,r=.returned (.map (some m))/\UpdAt w' W.heap.size E n tx d m/\W.heap.size+6<=w'.heap.size/\Ext W w':=by
 have hmm:=@run_makeMap Tryz.prog;obtain⟨B,hB⟩:∃ B,B=W.heap.size:=⟨_,rfl⟩
 have hs1:=zps (P:=Tryz.prog) ((((W.alloc (.cells #[.pointer (some ⟨E,0,none⟩)] 109)).alloc (.cells #[K8 dO,St k,I n,St tx] 99)).alloc (.cells #[St d.1,U d.2] 59)).alloc (.cells #[I 0] 32)) 251 .nilFunc (.func (.func 173) #[] #[.pointer (some ⟨W.heap.size,0,none⟩),.pointer (some ⟨W.heap.size+1+1,0,none⟩),.pointer (some ⟨W.heap.size+1+1+1,0,none⟩)]) rfl (W.heap.size+1+1+1+1) (by simp);have hs2:=zps (P:=Tryz.prog) (((((W.alloc (.cells #[.pointer (some ⟨E,0,none⟩)] 109)).alloc (.cells #[K8 dO,St k,I n,St tx] 99)).alloc (.cells #[St d.1,U d.2] 59)).alloc (.cells #[I 0] 32)).alloc (.cells #[(.func (.func 173) #[] #[.pointer (some ⟨W.heap.size,0,none⟩),.pointer (some ⟨W.heap.size+1+1,0,none⟩),.pointer (some ⟨W.heap.size+1+1+1,0,none⟩)])] 251)) 254 .nilFunc (.func (.func 175) #[] #[.pointer (some ⟨W.heap.size,0,none⟩),.pointer (some ⟨W.heap.size+1+1+1,0,none⟩)]) rfl (W.heap.size+1+1+1+1+1) (by simp);obtain⟨W5,hW5⟩:∃ W5,W5=(((((W.alloc (.cells #[.pointer (some ⟨E,0,none⟩)] 109)).alloc (.cells #[K8 dO,St k,I n,St tx] 99)).alloc (.cells #[St d.1,U d.2] 59)).alloc (.cells #[I 0] 32)).alloc (.cells #[(.func (.func 173) #[] #[.pointer (some ⟨W.heap.size,0,none⟩),.pointer (some ⟨W.heap.size+1+1,0,none⟩),.pointer (some ⟨W.heap.size+1+1+1,0,none⟩)])] 251)).alloc (.cells #[.func (.func 175) #[] #[.pointer (some ⟨W.heap.size,0,none⟩),.pointer (some ⟨W.heap.size+1+1+1,0,none⟩)]] 254):=⟨_,rfl⟩
 have hz5:W5.heap.size=W.heap.size+1+1+1+1+1+1:=by rw [hW5];simp
 have hx5:Ext W W5:=by rw [hW5];exact ((((((Ext.refl W).alloc _).alloc _).alloc _).alloc _).alloc _).alloc _
 have HU:Hid (∀ w,Ext W5 w->∀ m,(∃ m1 m2 m3,MapIs K8 M8 w m [(1,some m1),(2,some m2),(3,some m3)] /\
   MapIs K8 V8 w m1 [(1,clo 177 [B+4,B+1]),(5,clo 178 [B,B+4])] /\
   MapIs K8 V8 w m2 [(2,clo 179 [B,B+1,B+2,B+3]),(3,clo 181 [B,B+1]),(5,clo 183 [B])] /\
   MapIs K8 V8 w m3 [(4,clo 184 [B+5,B+1]),(5,clo 185 [B+5])])->UpdAt w W.heap.size E n tx d m):=zH fun w hx m hmaps=>by
  subst hB;refine ⟨hx.cell ?_,hx.cell ?_,hx.cell ?_,hx.cell ?_,hx.cell ?_,RowIs.ext ?_ hx,hx.cell ?_,hx.cell ?_,hmaps⟩
  ·rw [hW5];simp [go_sem]
  ·rw [hW5];simp [go_sem]
  ·rw [hW5];simp [go_sem]
  ·rw [hW5];simp [go_sem]
  ·rw [hW5];simp [go_sem]
  ·rw [hW5];have h:=zaf (((W.alloc (.cells #[.pointer (some ⟨E,0,none⟩)] 109)).alloc (.cells #[K8 dO,St k,I n,St tx] 99)).alloc (.cells #[St d.1,U d.2] 59)) 32 [I 0];simp only [World.size_alloc] at h;exact (h.alloc _).alloc _
  ·rw [hW5];simp [go_sem,clo]
  ·rw [hW5];simp [go_sem,clo]
 obtain⟨z,hz⟩:∃ z,z=W5.heap.size:=⟨_,rfl⟩
 obtain⟨Y1,hY1⟩:∃ Y1,Y1=(W5.alloc (.map #[] 0)).alloc (.map #[] 0):=⟨_,rfl⟩
 have hM:MapIs K8 M8 Y1 z []:=by rw [hY1,hz];exact (MapIs.new W5).ext ((Ext.refl _).alloc _)
 have hM1:MapIs K8 V8 Y1 (z+1) []:=by have:=MapIs.new (K:=K8) (V:=V8) (W5.alloc (.map #[] 0));rw [World.size_alloc] at this;rw [hY1,hz];exact this
 have hx1:Ext W5 Y1:=by rw [hY1];exact ((Ext.refl _).alloc _).alloc _
 have hzY:Y1.heap.size=z+1+1:=by rw [hY1,hz];simp
 obtain⟨Xa,ua,ma,ta⟩:=zaw (P:=Tryz.prog) (t:=203) Tryz.underlying203 keyOk8 hM1 1 (clo 177 [B+4,B+1]);obtain⟨Xb,ub,mb,tb⟩:=zaw (P:=Tryz.prog) (t:=203) Tryz.underlying203 keyOk8 ma 5 (clo 178 [B,B+4]);obtain⟨Xc,uc,mc,tc⟩:=zaw (P:=Tryz.prog) (t:=204) Tryz.underlying204 keyOk8 ((hM.turned ta (by omega)).turned tb (by omega)) 1 (some (z+1));have hx2:=((hx1.turned ta (by omega)).turned tb (by omega)).turned tc (by omega);have mb2:=mb.turned tc (by omega);have hzc:Xc.heap.size=z+1+1:=by rw [tc.size,tb.size,ta.size,hzY]
 have hM2:=MapIs.new (K:=K8) (V:=V8) Xc;have hy2:=(Ext.refl Xc).alloc (.map #[] 0);obtain⟨Xd,ud,md,td⟩:=zaw (P:=Tryz.prog) (t:=203) Tryz.underlying203 keyOk8 hM2 2 (clo 179 [B,B+1,B+2,B+3]);obtain⟨Xe,ue,me,te⟩:=zaw (P:=Tryz.prog) (t:=203) Tryz.underlying203 keyOk8 md 3 (clo 181 [B,B+1]);obtain⟨Xf,uf,mf,tf⟩:=zaw (P:=Tryz.prog) (t:=203) Tryz.underlying203 keyOk8 me 5 (clo 183 [B]);obtain⟨Xg,ug,mg,tg⟩:=zaw (P:=Tryz.prog) (t:=204) Tryz.underlying204 keyOk8 ((((mc.ext hy2).turned td (by omega)).turned te (by omega)).turned tf (by omega)) 2 (some Xc.heap.size);have hx3:=((((hx2.trans hy2).turned td (by omega)).turned te (by omega)).turned tf (by omega)).turned tg (by omega);have mb3:=((((mb2.ext hy2).turned td (by omega)).turned te (by omega)).turned tf (by omega)).turned tg (by omega);have mf2:=mf.turned tg (by omega);have hzg:Xg.heap.size=z+1+1+1:=by rw [tg.size,tf.size,te.size,td.size,World.size_alloc,hzc]
 have hM3:=MapIs.new (K:=K8) (V:=V8) Xg;have hy3:=(Ext.refl Xg).alloc (.map #[] 0);obtain⟨Xh,uh,mh,th⟩:=zaw (P:=Tryz.prog) (t:=203) Tryz.underlying203 keyOk8 hM3 4 (clo 184 [B+5,B+1]);obtain⟨Xi,ui,mi,ti⟩:=zaw (P:=Tryz.prog) (t:=203) Tryz.underlying203 keyOk8 mh 5 (clo 185 [B+5]);obtain⟨Xj,uj,mj,tj⟩:=zaw (P:=Tryz.prog) (t:=204) Tryz.underlying204 keyOk8 (((mg.ext hy3).turned th (by omega)).turned ti (by omega)) 3 (some Xg.heap.size);have hx4:=(((hx3.trans hy3).turned th (by omega)).turned ti (by omega)).turned tj (by omega);have mb4:=(((mb3.ext hy3).turned th (by omega)).turned ti (by omega)).turned tj (by omega);have mf3:=(((mf2.ext hy3).turned th (by omega)).turned ti (by omega)).turned tj (by omega);have mi2:=mi.turned tj (by omega);have HR:=zH (HU.out Xj hx4 z ⟨z+1,Xc.heap.size,Xg.heap.size,mj,mb4,mf3,mi2⟩);have HX:=zH (hx5.trans hx4);have HZ:=zH (show W.heap.size+6<=Xj.heap.size by have:=hx4.size;omega);subst hB;have ua':(Instr.mapUpdate 203 (.map (some (z+1))) (.int .u8 1) (.func (.func 177) #[] #[.pointer (some ⟨W.heap.size+1+1+1+1,0,none⟩),.pointer (some ⟨W.heap.size+1,0,none⟩)])).run Tryz.prog Y1=.ok () Xa:=ua;have ub':(Instr.mapUpdate 203 (.map (some (z+1))) (.int .u8 5) (.func (.func 178) #[] #[.pointer (some ⟨W.heap.size,0,none⟩),.pointer (some ⟨W.heap.size+1+1+1+1,0,none⟩)])).run Tryz.prog Xa=.ok () Xb:=ub;have uc':(Instr.mapUpdate 204 (.map (some z)) (.int .u8 1) (.map (some (z+1)))).run Tryz.prog Xb=.ok () Xc:=uc;have ud':(Instr.mapUpdate 203 (.map (some Xc.heap.size)) (.int .u8 2) (.func (.func 179) #[] #[.pointer (some ⟨W.heap.size,0,none⟩),.pointer (some ⟨W.heap.size+1,0,none⟩),.pointer (some ⟨W.heap.size+1+1,0,none⟩),.pointer (some ⟨W.heap.size+1+1+1,0,none⟩)])).run Tryz.prog (Xc.alloc (.map #[] 0))=.ok () Xd:=ud;have ue':(Instr.mapUpdate 203 (.map (some Xc.heap.size)) (.int .u8 3) (.func (.func 181) #[] #[.pointer (some ⟨W.heap.size,0,none⟩),.pointer (some ⟨W.heap.size+1,0,none⟩)])).run Tryz.prog Xd=.ok () Xe:=ue;have uf':(Instr.mapUpdate 203 (.map (some Xc.heap.size)) (.int .u8 5) (.func (.func 183) #[] #[.pointer (some ⟨W.heap.size,0,none⟩)])).run Tryz.prog Xe=.ok () Xf:=uf;have ug':(Instr.mapUpdate 204 (.map (some z)) (.int .u8 2) (.map (some Xc.heap.size))).run Tryz.prog Xf=.ok () Xg:=ug;have uh':(Instr.mapUpdate 203 (.map (some Xg.heap.size)) (.int .u8 4) (.func (.func 184) #[] #[.pointer (some ⟨W.heap.size+1+1+1+1+1,0,none⟩),.pointer (some ⟨W.heap.size+1,0,none⟩)])).run Tryz.prog (Xg.alloc (.map #[] 0))=.ok () Xh:=uh;have ui':(Instr.mapUpdate 203 (.map (some Xg.heap.size)) (.int .u8 5) (.func (.func 185) #[] #[.pointer (some ⟨W.heap.size+1+1+1+1+1,0,none⟩)])).run Tryz.prog Xh=.ok () Xi:=ui;have uj':(Instr.mapUpdate 204 (.map (some z)) (.int .u8 3) (.map (some Xg.heap.size))).run Tryz.prog Xi=.ok () Xj:=uj;clear ua ub uc ud ue uf ug uh ui uj ma mb mc md me mf mg mh mi mj mb2 mb3 mb4 mf2 mf3 mi2 ta tb tc td te tf tg th ti tj hx1 hx2 hx3 hx4 hy2 hy3 hM hM1 hM2 hM3 hzc hzg hzY hx5 HU;rw [hz,hz5] at *;rw [hY1,hW5] at ua'
 clear hY1 hW5;go_enter Tryz.func135,Tryz.ntmps135;go_wp2_with fail;go_ret;exact⟨_,rfl,HR.out,HZ.out,HX.out⟩
abbrev OpD:=Nat × Str × Int × Str
abbrev opV (o:OpD):Value:=.agg #[K8 o.1,St o.2.1,I o.2.2.1,St o.2.2.2]
def zce (B kk dO:Nat):Option Value :=
 if kk=1 then (if dO=1 then some (clo 177 [B+4,B+1]) else if dO=5 then some (clo 178 [B,B+4]) else none)
 else if kk=2 then (if dO=2 then some (clo 179 [B,B+1,B+2,B+3]) else if dO=3 then some (clo 181 [B,B+1]) else if dO=5 then some (clo 183 [B]) else none)
 else if kk=3 then (if dO=4 then some (clo 184 [B+5,B+1]) else if dO=5 then some (clo 185 [B+5]) else none)
 else none
def doE (kk:Nat) (e:Entry) (o:OpD) (d:Dot):Option (Entry × Nat) :=
 if kk=1 then (if o.1=1 then some ({ e with counts:=(addC e.counts d.1 o.2.2.1).1 },(addC e.counts d.1 o.2.2.1).2) else if o.1=5 then some ({ e with counts:=(delC e.counts d.1).1 },(delC e.counts d.1).2) else none)
 else if kk=2 then (if o.1=2 then some ({ e with items:=(putB e.items o.2.2.2 d).1 },(putB e.items o.2.2.2 d).2) else if o.1=3 then some ({ e with items:=zf2 e.items o.2.2.2 },0) else if o.1=5 then some ({ e with items:=[] },0) else none)
 else if kk=3 then (if o.1=4 then some ({ e with cell:=(za5 e.cell o.2.2.2 false).1 },(za5 e.cell o.2.2.2 false).2) else if o.1=5 then some ({ e with cell:=(za5 e.cell [] true).1 },(za5 e.cell [] true).2) else none)
 else none
theorem UpdAt.ext {w w':World} {B E:Nat} {n:Int} {tx:Str} {d:Dot} {m:Nat} (h:UpdAt w B E n tx d m) (he:Ext w w'):UpdAt w' B E n tx d m:=by
 obtain⟨h1,h2,h3,h4,h5,h6,h7,h8,m1,m2,m3,h9,h10,h11,h12⟩:=h;exact⟨he.cell h1,he.cell h2,he.cell h3,he.cell h4,he.cell h5,h6.ext he,he.cell h7,he.cell h8,m1,m2,m3,h9.ext he,h10.ext he,h11.ext he,h12.ext he⟩
theorem ybm (w:World):(zeroValue 203).run Tryz.prog w=.ok (M8 none) w:=Tryz.zeroValue203 w
theorem zxm (w:World):(zeroValue 201).run Tryz.prog w=.ok (V8 .nilFunc) w:=Tryz.zeroValue201 w
theorem zzt (k:Nat) (w:World):(Instr.lookup 203 (.map none) (K8 k) true).run Tryz.prog w=.ok (.tuple #[.nilFunc,.bool false]) w:=by
 have hz:=zxm w;have hc:=keyOk8.check true k w;have hf:=MapIs.find (V:=V8) keyOk8 (es:=#[]) (L:=[]) rfl k w;simp at hf;simp [Instr.lookup,run_underlying Tryz.underlying203,hz,hc,hf]
def InnerIs (W:World) (B kk:Nat) (v:Value):Prop:=∀ W3,Ext W W3->∀ dO,(Instr.lookup 203 v (K8 dO) true).run Tryz.prog W3=.ok (.tuple #[(zce B kk dO).getD .nilFunc,.bool (zce B kk dO).isSome]) W3
theorem InnerIs.ext {W W':World} {B kk:Nat} {v:Value} (h:InnerIs W B kk v) (he:Ext W W'):InnerIs W' B kk v:=fun W3 h3=>h W3 (he.trans h3)
theorem zne {W:World} {B kk b:Nat} {L:List (Nat × Value)} (h:MapIs K8 V8 W b L) (hc:∀ dO,zce B kk dO=zdd L dO):InnerIs W B kk (.map (some b)):=fun W3 h3 dO=>by
 have:=(zbi (P:=Tryz.prog) (z:=Value.nilFunc) Tryz.underlying203 keyOk8 zxm (h.ext h3) dO).2;rw [zgv,show getL Value.nilFunc L dO=(zdd L dO).getD .nilFunc from rfl,<- hc] at this;exact this
theorem zzu {w:World} {B E:Nat} {n:Int} {tx:Str} {d:Dot} {m:Nat} (h:UpdAt w B E n tx d m) (kk:Nat) :
  ∃ u,(∀ W3,Ext w W3->(Instr.lookup 204 (.map (some m)) (K8 kk) false).run Tryz.prog W3=.ok u W3)/\InnerIs w B kk u:=by
 obtain⟨m1,m2,m3,h9,h10,h11,h12⟩:=h.maps;refine ⟨M8 (getL none [(1,some m1),(2,some m2),(3,some m3)] kk),fun W3 h3=>(zbi (P:=Tryz.prog) (z:=none) Tryz.underlying204 keyOk8 ybm (h9.ext h3) kk).1,?_⟩;rw [show getL none [(1,some m1),(2,some m2),(3,some m3)] kk=(zdd [(1,some m1),(2,some m2),(3,some m3)] kk).getD none from rfl];simp only [zfa]
 by_cases k1:kk=1
 ·subst k1;simp only [if_true,Option.getD_some];exact zne h10 fun dO=>by simp only [zfa,zce,if_true];rfl
 ·by_cases k2:kk=2
  ·subst k2;simp only [if_true,if_neg k1,Option.getD_some];exact zne h11 fun dO=>by simp only [zfa,zce,if_true,if_neg k1];rfl
  ·by_cases k3:kk=3
   ·subst k3;simp only [if_true,if_neg k1,if_neg k2,Option.getD_some];exact zne h12 fun dO=>by simp only [zfa,zce,if_true,if_neg k1,if_neg k2];rfl
   ·simp only [if_neg k1,if_neg k2,if_neg k3];intro W3 h3 dO;rw [show zce B kk dO=none by simp only [zce,if_neg k1,if_neg k2,if_neg k3]];exact zzt dO W3
theorem ybn {S:Nat->Prop} {W:World} {B E m:Nat} {kk:Nat} {o:OpD} {d:Dot} {e:Entry} {v1 v2 v3:Value} (hU:UpdAt W B E o.2.2.1 o.2.2.2 d m) (hn1:-9223372036854775808<=o.2.2.1) (hn2:o.2.2.1<=9223372036854775807)
  (hl1:e.counts.length < 1099511627776) (hl2:(zab e.items).length < 1099511627776) (hE:RowIs W E 46 (entL e v1 v2 v3) []) (hA:EntAt W S e v1 v2 v3) (hS:∀ b,S b->b ≠ E/\b ≠ B+3) (hpr:B+3 ≠ E) :
  match zce B kk o.1,doE kk e o d with
  | none,none=>True
  | some c,some (e',err)=>∃ f args,c=.func (.func f) #[] args/\(∀ xs w,(callFunc f xs).run Tryz.prog w=.ok (.enter f xs) w)/\Calls Tryz.prog f args W fun r w'=>r=.returned (I err)/\Did W w' E (B+3) S e' v1
  | _,_=>False:=by
 obtain⟨pe,po2,po3,d0,d1,err,c1,c2,-⟩:=hU;unfold zce doE
 by_cases k1:kk=1
 ·simp only [k1,if_true]
  by_cases q1:o.1=1
  ·simp only [q1,if_true];exact⟨_,_,rfl,enters_of Tryz.func177 (by kernel_rfl) rfl,zzn o.2.2.1 hn1 hn2 c1 po2 d0 hl1 pe err hE hA hS hpr⟩
  ·simp only [if_neg q1]
   by_cases q5:o.1=5
   ·simp only [q5,if_true];exact⟨_,_,rfl,enters_of Tryz.func178 (by kernel_rfl) rfl,zzo c1 d0 hl1 pe err hE hA hS hpr⟩
   ·simp only [if_neg q5]
 ·by_cases k2:kk=2
  ·simp only [k2,if_true,if_neg (by decide:¬ (2:Nat)=1)]
   by_cases q2:o.1=2
   ·simp only [q2,if_true];exact⟨_,_,rfl,enters_of Tryz.func179 (by kernel_rfl) rfl,zzm po3 d0 d1 hl2 pe err hE hA hS hpr⟩
   ·simp only [if_neg q2]
    by_cases q3:o.1=3
    ·simp only [q3,if_true];exact⟨_,_,rfl,enters_of Tryz.func181 (by kernel_rfl) rfl,zzs po3 (by omega) pe hE hA hS⟩
    ·simp only [if_neg q3]
     by_cases q5:o.1=5
     ·simp only [q5,if_true];exact⟨_,_,rfl,enters_of Tryz.func183 (by kernel_rfl) rfl,zzp pe hE hA hS⟩
     ·simp only [if_neg q5]
  ·by_cases k3:kk=3
   ·simp only [k3,if_true,if_neg (by decide:¬ (3:Nat)=1),if_neg (by decide:¬ (3:Nat)=2)]
    by_cases q4:o.1=4
    ·simp only [q4,if_true];exact⟨_,_,rfl,enters_of Tryz.func184 (by kernel_rfl) rfl,zzq c2 po3 pe err hE hA hS hpr⟩
    ·simp only [if_neg q4]
     by_cases q5:o.1=5
     ·simp only [q5,if_true];exact⟨_,_,rfl,enters_of Tryz.func185 (by kernel_rfl) rfl,zzr c2 pe err hE hA hS hpr⟩
     ·simp only [if_neg q5]
   ·simp only [if_neg k1,if_neg k2,if_neg k3]
def zfb (e:Entry) (o:OpD) (d:Dot):Entry × Nat :=
 match doE (zas o.2.1) e o d with
 | none=>(zak,150)
 | some p=>if p.2=0 then ({ p.1 with seen:=setM p.1.seen d.1 d.2 },0) else (zak,p.2)
def updE (e:Entry) (o:OpD) (d:Dot):Entry × Nat :=
 if keyS o.2.1=false then (zak,10) else if e.key ≠ o.2.1/\zbl e zak=false then (zak,2) else if d.1 = [] ∨ d.2 < 1 ∨ 281474976710656 < d.2 ∨ hasM e.seen d=true then (zak,2) else zfb { e with key:=o.2.1 } o d
theorem zgw (w:World) (q:Nat) (e:Entry) (v1 v2 v3:Value) (b:Nat) (hb:b ≠ q):(put7 w q e v1 v2 v3).heap[b]? = w.heap[b]? :=
 ((((((Below.heap_setCell _ _ _ b hb).trans (Below.heap_setCell _ _ _ b hb)).trans (Below.heap_setCell _ _ _ b hb)).trans (Below.heap_setCell _ _ _ b hb)).trans (Below.heap_setCell _ _ _ b hb)).trans (Below.heap_setCell _ _ _ b hb)).trans (Below.heap_setCell _ _ _ b hb)
theorem zuw (B kk:Nat) (e:Entry) (o:OpD) (d:Dot):(zce B kk o.1).isSome=(doE kk e o d).isSome:=by
 unfold zce doE
 repeat' split
 all_goals first | rfl | (exfalso;omega)
theorem EntAt.keep {W w:World} {S:Nat->Prop} {e:Entry} {v1 v2 v3:Value} (h:EntAt W S e v1 v2 v3) (hs:∀ b,S b->b < W.heap.size->w.heap[b]? = W.heap[b]?):EntAt w S e v1 v2 v3 :=
 ⟨h.seen.keep (by decide) hs,h.counts.keep (by decide) hs,h.items.keep (by decide) hs⟩
theorem zxn {e':Entry} {c:Nat} {e:Entry} {p:Entry × Nat} (h1:e'.seen=e.seen) (h2:e'.key=e.key) (h:some (e',c)=some p):p.1.seen=e.seen/\p.1.key=e.key:=by
 have:=Option.some.inj h;rw [<- this];exact⟨h1,h2⟩
theorem zzv {kk:Nat} {e:Entry} {o:OpD} {d:Dot} {p:Entry × Nat} (h:doE kk e o d=some p):p.1.seen=e.seen/\p.1.key=e.key:=by
 unfold doE at h
 repeat' split at h
 all_goals first | (refine zxn (e:=e) ?_ ?_ h <;> rfl) | cases h
structure U4 (w V:World) (E O D:List Value):Prop where
 ext:Ext w V
 size:w.heap.size+4<=V.heap.size
 e:RowIs V w.heap.size 46 E []
 o:RowIs V (w.heap.size+1) 99 O []
 d:RowIs V (w.heap.size+1+1) 59 D []
 r:RowIs V (w.heap.size+1+1+1) 46 [St [],.slice none 0 0,.slice none 0 0,.slice none 0 0,.int .u64 0,St [],.bool false] []
theorem U4.start (w:World) (E O D:List Value):U4 w ((((w.alloc (.cells E.toArray 46)).alloc (.cells O.toArray 99)).alloc (.cells D.toArray 59)).alloc (.cells #[St [],.slice none 0 0,.slice none 0 0,.slice none 0 0,.int .u64 0,St [],.bool false] 46)) E O D:=by
 have h1:=zaf (w.alloc (.cells E.toArray 46)) 99 O;have h2:=zaf ((w.alloc (.cells E.toArray 46)).alloc (.cells O.toArray 99)) 59 D;have h3:=zaf (((w.alloc (.cells E.toArray 46)).alloc (.cells O.toArray 99)).alloc (.cells D.toArray 59)) 46 [St [],.slice none 0 0,.slice none 0 0,.slice none 0 0,.int .u64 0,St [],.bool false];simp only [World.size_alloc] at h1 h2 h3;exact⟨((((Ext.refl w).alloc _).alloc _).alloc _).alloc _,by simp,(((zaf w _ E).alloc _).alloc _).alloc _,(h1.alloc _).alloc _,h2.alloc _,h3⟩
theorem U4.on {w V V':World} {E O D:List Value} (h:U4 w V E O D) (he:Ext V V'):U4 w V' E O D :=
 ⟨h.ext.trans he,Nat.le_trans h.size he.size,h.e.ext he,h.o.ext he,h.d.ext he,h.r.ext he⟩
section
variable {w:World} {g T:Nat} {a b c d e f k:Value}
theorem RowIs.c7 (h:RowIs w g T [a,b,c,d,e,f,k] []):w.cell? ⟨g,0,none⟩=some a/\w.cell? ⟨g,1,none⟩=some b/\w.cell? ⟨g,2,none⟩=some c/\w.cell? ⟨g,3,none⟩=some d/\w.cell? ⟨g,4,none⟩=some e/\w.cell? ⟨g,5,none⟩=some f/\w.cell? ⟨g,6,none⟩=some k :=
 ⟨h.cell rfl,h.cell rfl,h.cell rfl,h.cell rfl,h.cell rfl,h.cell rfl,h.cell rfl⟩
theorem RowIs.c4 (h:RowIs w g T [a,b,c,d] []):w.cell? ⟨g,0,none⟩=some a/\w.cell? ⟨g,1,none⟩=some b/\w.cell? ⟨g,2,none⟩=some c/\w.cell? ⟨g,3,none⟩=some d:=⟨h.cell rfl,h.cell rfl,h.cell rfl,h.cell rfl⟩
theorem RowIs.c2 (h:RowIs w g T [a,b] []):w.cell? ⟨g,0,none⟩=some a/\w.cell? ⟨g,1,none⟩=some b:=⟨h.cell rfl,h.cell rfl⟩
theorem RowIs.z7 {l:List Value} (h:RowIs w g T l []):w.frozen? ⟨g,0,none⟩=false/\w.frozen? ⟨g,1,none⟩=false/\w.frozen? ⟨g,2,none⟩=false/\w.frozen? ⟨g,3,none⟩=false/\w.frozen? ⟨g,4,none⟩=false/\w.frozen? ⟨g,5,none⟩=false/\w.frozen? ⟨g,6,none⟩=false :=
 ⟨h.frozen 0,h.frozen 1,h.frozen 2,h.frozen 3,h.frozen 4,h.frozen 5,h.frozen 6⟩
end
theorem zzw {S:Nat->Prop} {e:Entry} {v1 v2 v3:Value} {w:World} (o:OpD) (d:Dot) (h:EntAt w S e v1 v2 v3) (sm:SmallE e) (hn1:-9223372036854775808<=o.2.2.1) (hn2:o.2.2.1<=9223372036854775807) :
  Calls Tryz.prog 84 #[entV e v1 v2 v3,opV o,dotV d] w fun r w'=>∃ u1 u2 u3,r=.returned (.tuple #[entV (updE e o d).1 u1 u2 u3,I (updE e o d).2])/\EntAt w' (fun b=>w.heap.size<=b) (updE e o d).1 u1 u2 u3/\Ext w w':=by
 obtain⟨ek,es,ec,ei,x1,x2,x3⟩:=e;obtain⟨dO,k,n,tx⟩:=o;obtain⟨d1,dn⟩:=d;obtain⟨A1,n1,A2,n2,A3,n3,rfl,rfl,rfl⟩:=h.fm;have H0:=U4.start w [St ek,.slice A1 es.length n1,.slice A2 ec.length n2,.slice A3 ei.length n3,U x1,St x2,.bool x3] [K8 dO,St k,I n,St tx] [St d1,U dn];have H1:=zH (ya4 k ((((w.alloc (.cells #[St ek,.slice A1 es.length n1,.slice A2 ec.length n2,.slice A3 ei.length n3,U x1,St x2,.bool x3] 46)).alloc (.cells #[K8 dO,St k,I n,St tx] 99)).alloc (.cells #[St d1,U dn] 59)).alloc (.cells #[St [],.slice none 0 0,.slice none 0 0,.slice none 0 0,.int .u64 0,St [],.bool false] 46)));have HE:=zH h;simp only at hn1 hn2;obtain⟨J,hJ⟩:∃ J,updE ⟨ek,es,ec,ei,x1,x2,x3⟩ (dO,k,n,tx) (d1,dn)=J:=⟨_,rfl⟩
 have HJ:Hid (J=if keyS k=false then (zak,10) else if ek ≠ k/\zbl ⟨ek,es,ec,ei,x1,x2,x3⟩ zak=false then (zak,2) else if d1 = [] ∨ dn < 1 ∨ 281474976710656 < dn ∨ hasM es (d1,dn)=true then (zak,2) else zfb ⟨k,es,ec,ei,x1,x2,x3⟩ (dO,k,n,tx) (d1,dn)):=zH hJ.symm;rw [hJ]
 have hno:∀ (c:Nat) (V:World),Ext w V->J=(zak,c)->∃ u1 u2 u3,(Ending.returned (.tuple #[entV zak (.slice none 0 0) (.slice none 0 0) (.slice none 0 0),I c]))=.returned (.tuple #[entV J.1 u1 u2 u3,I J.2])/\EntAt (put7 V (w.heap.size+1+1+1) zak (.slice none 0 0) (.slice none 0 0) (.slice none 0 0)) (fun b=>w.heap.size<=b) J.1 u1 u2 u3/\Ext w (put7 V (w.heap.size+1+1+1) zak (.slice none 0 0) (.slice none 0 0) (.slice none 0 0)):=by rintro c V hx rfl;exact⟨_,_,_,rfl,EntAt.none _ _ _ _ _,zeb hx (by omega) zak _ _ _⟩
 have HNO:=zH hno;clear h hJ hno;go_enter Tryz.func84,Tryz.ntmps84;refine wpH ?_;intro K HK;go_wp2_with fail;refine HK.out _ _ ?_;clear HK K;refine wpH ?_;intro K HK;go_wp2_with fail;refine H1.out.mono ?_;rintro r V ⟨rfl,hx1⟩;have HW:=zH (H0.on hx1);clear H0 hx1 H1
 cases hk:keyS k with
 | false =>
  have HJ2:=zH (show J=(zak,10) by rw [HJ.out,if_pos hk]);have HX:=zH (HW.out).ext;obtain⟨r0,r1,r2,r3,r4,r5,r6⟩:=(HW.out).r.c7;obtain⟨f0,f1,f2,f3,f4,f5,f6⟩:=(HW.out).r.z7;clear HJ;go_wp2_with fail
  (try simp only [Exit.inBlock,Exit.then])
  exact bodyPost_ret (v:=.tuple #[entV zak (.slice none 0 0) (.slice none 0 0) (.slice none 0 0),I 10]) (by simp [results,Tryz.f84,go_sem,entV,entC,zak,r0,r1,r2,r3,r4,r5,r6]) rfl (HNO.out 10 _ HX.out HJ2.out)
 | true =>
  rw [hk] at HJ;have HJ2:Hid (J=if ek ≠ k/\zbl ⟨ek,es,ec,ei,x1,x2,x3⟩ zak=false then (zak,2) else if d1 = [] ∨ dn < 1 ∨ 281474976710656 < dn ∨ hasM es (d1,dn)=true then (zak,2) else zfb ⟨k,es,ec,ei,x1,x2,x3⟩ (dO,k,n,tx) (d1,dn)):=zH (HJ.out.trans (if_neg (by simp)));clear HJ hk;go_wp2_with fail;refine HK.out _ _ ?_;clear HK K;refine wp_seq_k ?_;intro K hK
  have REST:∀ (u12 u13 u14 u15 u17 u18 u19 u20 u21 u22 u23 u24 u25 u26:Value) (V:World),U4 w V [St ek,.slice A1 es.length n1,.slice A2 ec.length n2,.slice A3 ei.length n3,U x1,St x2,.bool x3] [K8 dO,St k,I n,St tx] [St d1,U dn]->J=(if d1 = [] ∨ dn < 1 ∨ 281474976710656 < dn ∨ hasM es (d1,dn)=true then (zak,2) else zfb ⟨k,es,ec,ei,x1,x2,x3⟩ (dO,k,n,tx) (d1,dn))->K ⟨#[.agg #[St ek,.slice A1 es.length n1,.slice A2 ec.length n2,.slice A3 ei.length n3,U x1,St x2,.bool x3],.agg #[K8 dO,St k,I n,St tx],.agg #[St d1,U dn],.pointer (some ⟨w.heap.size,0,none⟩),.pointer (some ⟨w.heap.size+1,0,none⟩),.pointer (some ⟨w.heap.size+1+1,0,none⟩),.pointer (some ⟨w.heap.size+1+1+1,0,none⟩),I 0,undef,undef,undef,undef,u12,u13,u14,u15,undef,u17,u18,u19,u20,u21,u22,u23,u24,u25,u26,undef,undef,undef,undef,undef,undef,undef,undef,undef,undef,undef,undef,undef,undef,undef,undef,undef,undef,undef,undef,undef,undef,undef,undef,undef,undef,undef,undef,undef,undef,undef,undef,undef,undef,undef,undef,undef,undef,undef,undef,undef,undef,undef,undef,undef,undef,undef,undef,undef,undef,undef,undef,undef,undef,undef,undef,undef],[]⟩ V:=by
   intro u12 u13 u14 u15 u17 u18 u19 u20 u21 u22 u23 u24 u25 u26 V hw hj;have HW:=zH hw;have HJ:=zH hj;refine hK _ _ ?_;clear hK K hw hj HJ2;obtain⟨d0,d2⟩:=HW.out.d.c2
   by_cases hd:d1 = []
   ·subst hd;have HJ2:=zH (show J=(zak,2) by rw [HJ.out,if_pos (.inl rfl)]);have HX:=zH (HW.out).ext;obtain⟨r0,r1,r2,r3,r4,r5,r6⟩:=(HW.out).r.c7;obtain⟨f0,f1,f2,f3,f4,f5,f6⟩:=(HW.out).r.z7;clear HJ;go_wp2_with fail
    (try simp only [Exit.inBlock,Exit.then])
    exact bodyPost_ret (v:=.tuple #[entV zak (.slice none 0 0) (.slice none 0 0) (.slice none 0 0),I 2]) (by simp [results,Tryz.f84,go_sem,entV,entC,zak,r0,r1,r2,r3,r4,r5,r6]) rfl (HNO.out 2 _ HX.out HJ2.out)
   have hdb:(d1 == [])=false:=by simpa using hd
   by_cases h2:(dn:Int) < 1
   ·skip
    have HJ2:=zH (show J=(zak,2) by rw [HJ.out,if_pos (.inr (.inl (by omega)))]);have HX:=zH (HW.out).ext;obtain⟨r0,r1,r2,r3,r4,r5,r6⟩:=(HW.out).r.c7;obtain⟨f0,f1,f2,f3,f4,f5,f6⟩:=(HW.out).r.z7;clear HJ;go_wp2_with fail
    (try simp only [Exit.inBlock,Exit.then])
    exact bodyPost_ret (v:=.tuple #[entV zak (.slice none 0 0) (.slice none 0 0) (.slice none 0 0),I 2]) (by simp [results,Tryz.f84,go_sem,entV,entC,zak,r0,r1,r2,r3,r4,r5,r6]) rfl (HNO.out 2 _ HX.out HJ2.out)
   by_cases h3:(dn:Int) > 281474976710656
   ·skip
    have HJ2:=zH (show J=(zak,2) by rw [HJ.out,if_pos (.inr (.inr (.inl (by omega))))]);have HX:=zH (HW.out).ext;obtain⟨r0,r1,r2,r3,r4,r5,r6⟩:=(HW.out).r.c7;obtain⟨f0,f1,f2,f3,f4,f5,f6⟩:=(HW.out).r.z7;clear HJ;go_wp2_with fail
    (try simp only [Exit.inBlock,Exit.then])
    exact bodyPost_ret (v:=.tuple #[entV zak (.slice none 0 0) (.slice none 0 0) (.slice none 0 0),I 2]) (by simp [results,Tryz.f84,go_sem,entV,entC,zak,r0,r1,r2,r3,r4,r5,r6]) rfl (HNO.out 2 _ HX.out HJ2.out)
   have HH:=zH (zou (d1,dn) (HE.out.seen.ext (by decide) HW.out.ext));obtain⟨e0,e1,e2,e3,e4,e5,e6⟩:=HW.out.e.c7;cases hh:hasM es (d1,dn)
   ·rw [hh] at HH;have HJ2:=zH (show J=zfb ⟨k,es,ec,ei,x1,x2,x3⟩ (dO,k,n,tx) (d1,dn) by rw [HJ.out,if_neg (by simp [hd,hh];omega)]);clear HJ hh;refine wp_seq_k ?_;intro K hK;have HK:=zH hK;clear hK HNO;have h2b:1<=(dn:Int):=(by omega);have h3b:(dn:Int)<=281474976710656:=(by omega);go_wp2_with fail;refine HH.out.mono ?_;rintro r V2 ⟨rfl,hx2⟩;have HW:=zH (HW.out.on hx2);clear e0 e1 e2 e3 e4 e5 e6 hx2 HH;go_wp2_with fail;refine HK.out _ _ ?_;clear HK K;have HCP:=zH (zgs (HE.out.ext HW.out.ext) (Nat.le_trans sm.seen (by decide)) (Nat.le_trans sm.counts (by decide)) (Nat.le_trans sm.items (by decide)) (fun it hit=>Nat.le_trans (sm.dots it hit) (by omega)));obtain⟨e0,e1,e2,e3,e4,e5,e6⟩:=HW.out.e.c7;go_wp2_with fail;refine HCP.out.mono ?_;rintro r V4 ⟨u1,u2,u3,rfl,hu,hx4⟩;have hzb:=hx4.size;have hz2:=HW.out.size;have HW:=zH (HW.out.on hx4);obtain⟨B1,m1,B2,m2,B3,m3,rfl,rfl,rfl⟩:=hu.fm;have HU:=zH (show EntAt V4 (fun b=>V2.heap.size<=b/\b < V4.heap.size) ⟨k,es,ec,ei,(x1,x2,x3)⟩ (.slice B1 es.length m1) (.slice B2 ec.length m2) (.slice B3 ei.length m3) from (show EntAt V4 (fun b=>V2.heap.size<=b) ⟨k,es,ec,ei,(x1,x2,x3)⟩ _ _ _ from ⟨hu.at.seen,hu.at.counts,hu.at.items⟩).mono fun b hb h=>⟨h,hb⟩);obtain⟨q0,q1,q2,q3⟩:=HW.out.o.c4;obtain⟨hx1,hzz,rE,rO,rD,rR⟩:=HW.out;obtain rfl:=HJ2.out;clear hx4 hu HCP HW HJ2 e0 e1 e2 e3 e4 e5 e6;have hlt1:w.heap.size+1 < V4.heap.size:=(by omega);go_wp2_with fail;have rN:=zaf V4 46 [St k,.slice B1 es.length m1,.slice B2 ec.length m2,.slice B3 ei.length m3,U x1,St x2,.bool x3];have hxa:=(Ext.refl V4).alloc (.cells #[St k,.slice B1 es.length m1,.slice B2 ec.length m2,.slice B3 ei.length m3,U x1,St x2,.bool x3] 46);have rO4:=rO.ext hxa;have rD4:=rD.ext hxa;have rR4:=rR.ext hxa;have HU4:=zH (HU.out.ext hxa);have hx4:=hx1.trans hxa;have hzn:=rN.lt;generalize hW4:V4.alloc (.cells #[St k,.slice B1 es.length m1,.slice B2 ec.length m2,.slice B3 ei.length m3,U x1,St x2,.bool x3] 46)=W4 at *;have hv4:=hxa.size;clear hW4 rO rD rR rE hx1 hxa HU q0 q1 q2 q3
    refine zat [fun v _=>v=opV (dO,k,n,tx),
  fun v _=>v=dotV (d1,dn),
  fun v W2=>∃ B m,W4.heap.size<=B/\B+6<=W2.heap.size/\UpdAt W2 B V4.heap.size n tx (d1,dn) m/\v=.map (some m),
  fun v _=>v=.pointer (some ⟨w.heap.size+1,1,none⟩),
  fun v _=>v=St k,
  fun v _=>v=K8 (zas k),
  fun v W2=>∃ B m,W4.heap.size<=B/\B+6<=W2.heap.size/\UpdAt W2 B V4.heap.size n tx (d1,dn) m/\InnerIs W2 B (zas k) v,
  fun v _=>v=.pointer (some ⟨w.heap.size+1,0,none⟩),
  fun v _=>v=K8 dO,
  fun v W2=>∃ B m,W4.heap.size<=B/\B+6<=W2.heap.size/\UpdAt W2 B V4.heap.size n tx (d1,dn) m/\v=.tuple #[(zce B (zas k) dO).getD .nilFunc,.bool (zce B (zas k) dO).isSome],
  fun v W2=>∃ B m,W4.heap.size<=B/\B+6<=W2.heap.size/\UpdAt W2 B V4.heap.size n tx (d1,dn) m/\v=.tuple #[(zce B (zas k) dO).getD .nilFunc,.bool (zce B (zas k) dO).isSome],
  fun v W2=>∃ B m,W4.heap.size<=B/\B+6<=W2.heap.size/\UpdAt W2 B V4.heap.size n tx (d1,dn) m/\v=(zce B (zas k) dO).getD .nilFunc,
  fun v _=>v=.bool (doE (zas k) ⟨k,es,ec,ei,(x1,x2,x3)⟩ (dO,k,n,tx) (d1,dn)).isSome,
  fun v W2=>∃ B m,W4.heap.size<=B/\B+6<=W2.heap.size/\UpdAt W2 B V4.heap.size n tx (d1,dn) m/\v=(zce B (zas k) dO).getD .nilFunc] rfl (by kernel_rfl) ?hR ?hstep ?hend
    case hR=>simp only [List.mem_cons,List.not_mem_nil,or_false,forall_eq_or_imp,forall_eq];exact⟨kP,kP,fun v _ _ h he=>by obtain⟨B,m,h1,h2,h3,h4⟩:=h;exact⟨B,m,h1,Nat.le_trans h2 he.size,h3.ext he,h4⟩,kP,kP,kP,fun v _ _ h he=>by obtain⟨B,m,h1,h2,h3,h4⟩:=h;exact⟨B,m,h1,Nat.le_trans h2 he.size,h3.ext he,h4.ext he⟩,kP,kP,fun v _ _ h he=>by obtain⟨B,m,h1,h2,h3,h4⟩:=h;exact⟨B,m,h1,Nat.le_trans h2 he.size,h3.ext he,h4⟩,fun v _ _ h he=>by obtain⟨B,m,h1,h2,h3,h4⟩:=h;exact⟨B,m,h1,Nat.le_trans h2 he.size,h3.ext he,h4⟩,fun v _ _ h he=>by obtain⟨B,m,h1,h2,h3,h4⟩:=h;exact⟨B,m,h1,Nat.le_trans h2 he.size,h3.ext he,h4⟩,kP,fun v _ _ h he=>by obtain⟨B,m,h1,h2,h3,h4⟩:=h;exact⟨B,m,h1,Nat.le_trans h2 he.size,h3.ext he,h4⟩⟩
    case hstep =>
     simp only [List.length_cons,List.length_nil,Nat.reduceAdd,List.take_succ_cons,List.take_zero,zbj,and_true]
     and_intros <;> intro x W he f
     ·have h:x 4=.pointer (some ⟨w.heap.size+1,0,none⟩):=f.1;have q0:=(rO4.ext he).cell (j:=0) rfl;have q1:=(rO4.ext he).cell (j:=1) rfl;have q2:=(rO4.ext he).cell (j:=2) rfl;have q3:=(rO4.ext he).cell (j:=3) rfl;go_wp;exact sQ
     ·have h:x 5=.pointer (some ⟨w.heap.size+1+1,0,none⟩):=f.1;have q0:=(rD4.ext he).cell (j:=0) rfl;have q1:=(rD4.ext he).cell (j:=1) rfl;go_wp;exact sQ
     ·have h8:x 8=.pointer (some ⟨V4.heap.size,0,none⟩):=f.1;have h54:_=_:=f.2.1;have h55:_=_:=f.2.2.1;have hs:=he.size;have HC:=zH (zs0 (W:=W) (E:=V4.heap.size) k dO n tx (d1,dn));go_wp;refine HC.out.mono ?_;rintro r W2 ⟨m,rfl,hU,hz,hx2⟩;dsimp only;go_wp;exact zaa (v:=.map (some m)) ⟨W.heap.size,m,hs,hz,hU,rfl⟩ hx2
     ·have h:x 4=.pointer (some ⟨w.heap.size+1,0,none⟩):=f.1;go_wp;exact sQ
     ·have h:_=_:=f.1;have q1:=(rO4.ext he).cell (j:=1) rfl;go_wp;exact sQ
     ·have h:_=_:=f.1;have HC:=zH (zkw k W);go_wp;refine HC.out.mono ?_;rintro r W2 ⟨rfl,hx2⟩;dsimp only;go_wp;exact zaa rfl hx2
     ·obtain⟨B,m,b1,b2,hU,h⟩:∃ B m,W4.heap.size<=B/\B+6<=W.heap.size/\UpdAt W B V4.heap.size n tx (d1,dn) m/\x 56=.map (some m):=f.1;have h59:_=_:=f.2.1;obtain⟨u,hu1,hu2⟩:=zzu hU (zas k);have hl:=hu1 W (Ext.refl _);go_wp;exact zaa (v:=u) ⟨B,m,b1,b2,hU,hu2⟩ (Ext.refl _)
     ·have h:x 4=.pointer (some ⟨w.heap.size+1,0,none⟩):=f.1;go_wp;exact sQ
     ·have h:_=_:=f.1;have q0:=(rO4.ext he).cell (j:=0) rfl;go_wp;exact sQ
     ·obtain⟨B,m,b1,b2,hU,hI⟩:∃ B m,W4.heap.size<=B/\B+6<=W.heap.size/\UpdAt W B V4.heap.size n tx (d1,dn) m/\InnerIs W B (zas k) (x 60):=f.1;have h62:_=_:=f.2.1;have hl:=hI W (Ext.refl _) dO;go_wp;exact zaa ⟨B,m,b1,b2,hU,rfl⟩ (Ext.refl _)
     ·obtain⟨B,m,b1,b2,hU,h⟩:∃ B m,W4.heap.size<=B/\B+6<=W.heap.size/\UpdAt W B V4.heap.size n tx (d1,dn) m/\x 63=.tuple #[(zce B (zas k) dO).getD .nilFunc,.bool (zce B (zas k) dO).isSome]:=f.1;go_wp;exact zaa ⟨B,m,b1,b2,hU,rfl⟩ (Ext.refl _)
     ·obtain⟨B,m,b1,b2,hU,h⟩:∃ B m,W4.heap.size<=B/\B+6<=W.heap.size/\UpdAt W B V4.heap.size n tx (d1,dn) m/\x 53=.tuple #[(zce B (zas k) dO).getD .nilFunc,.bool (zce B (zas k) dO).isSome]:=f.1;go_wp;exact zaa ⟨B,m,b1,b2,hU,rfl⟩ (Ext.refl _)
     ·obtain⟨B,m,b1,b2,hU,h⟩:∃ B m,W4.heap.size<=B/\B+6<=W.heap.size/\UpdAt W B V4.heap.size n tx (d1,dn) m/\x 53=.tuple #[(zce B (zas k) dO).getD .nilFunc,.bool (zce B (zas k) dO).isSome]:=f.1;rw [zuw B (zas k) ⟨k,es,ec,ei,(x1,x2,x3)⟩ (dO,k,n,tx) (d1,dn)] at h;go_wp;exact sQ
     ·obtain⟨B,m,b1,b2,hU,h⟩:∃ B m,W4.heap.size<=B/\B+6<=W.heap.size/\UpdAt W B V4.heap.size n tx (d1,dn) m/\x 64=(zce B (zas k) dO).getD .nilFunc:=f.1;go_wp
      first | exact zaa ⟨B,m,b1,b2,hU,rfl⟩ (Ext.refl _) | exact zaa ⟨B,m,b1,b2,hU,h⟩ (Ext.refl _)
    case hend =>
     intro x W he f;obtain⟨B,m,hB1,hB2,hU,h9⟩:∃ B m,W4.heap.size<=B/\B+6<=W.heap.size/\UpdAt W B V4.heap.size n tx (d1,dn) m/\x 9=(zce B (zas k) dO).getD .nilFunc:=f.2.2.2.2.2.2.2.2.2.2.2.2.2.1;have h65:x 65=.bool (doE (zas k) ⟨k,es,ec,ei,(x1,x2,x3)⟩ (dO,k,n,tx) (d1,dn)).isSome:=f.2.2.2.2.2.2.2.2.2.2.2.2.1;clear f;have hx5:=hx4.trans he;have rN5:=rN.ext he;have rD5:=rD4.ext he;have rR:=rR4.ext he;have HU5:=zH (HU4.out.ext he);have HRE:=zH (show zfb ⟨k,es,ec,ei,(x1,x2,x3)⟩ (dO,k,n,tx) (d1,dn)=match (doE (zas k) ⟨k,es,ec,ei,(x1,x2,x3)⟩ (dO,k,n,tx) (d1,dn)) with | none=>(zak,150) | some p=>if p.2=0 then ({ p.1 with seen:=setM p.1.seen d1 dn },0) else (zak,p.2) from rfl);have HDO:=ybn (kk:=zas k) (o:=(dO,k,n,tx)) (d:=(d1,dn)) (e:=⟨k,es,ec,ei,(x1,x2,x3)⟩) hU hn1 hn2 (Nat.lt_of_le_of_lt sm.counts (by decide)) (Nat.lt_of_le_of_lt sm.places (by decide)) rN5 HU5.out (fun b hb=>⟨by omega,by omega⟩) (by omega);have hse:=@zzv (zas k) ⟨k,es,ec,ei,(x1,x2,x3)⟩ (dO,k,n,tx) (d1,dn);generalize doE (zas k) ⟨k,es,ec,ei,(x1,x2,x3)⟩ (dO,k,n,tx) (d1,dn)=Dd at *;clear hU he rO4 rD4 rR4 HU4 rN hx4
     cases Dd with
     | none =>
      clear HDO h9 hse;have HRE2:=zH HRE.out;obtain⟨r0,r1,r2,r3,r4,r5,r6⟩:=rR.p7;obtain⟨f0,f1,f2,f3,f4,f5,f6⟩:=rR.q7;have HX:=zH hx5;simp only [Option.isSome_none] at h65;clear rN5 rD5 HU5 HRE;simp only [List.length_cons,List.length_nil,Nat.reduceAdd,List.take_succ_cons,List.take_zero,List.filterMap_cons,List.filterMap_nil,List.drop_succ_cons,List.drop_zero,zav,Act.put,List.setIfInBounds_toArray,List.set_cons_succ,List.set_cons_zero,h65];go_wp;go_wp2_with fail
      (try simp only [Exit.inBlock,Exit.then])
      refine bodyPost_ret (v:=.tuple #[entV zak (.slice none 0 0) (.slice none 0 0) (.slice none 0 0),I 150]) (by simp [results,Tryz.f84,go_sem,entV,entC,zak,r0,r1,r2,r3,r4,r5,r6]) rfl ?_;have hp:=zeb (q:=w.heap.size+1+1+1) HX.out (by omega) zak (.slice none 0 0) (.slice none 0 0) (.slice none 0 0);refine ⟨.slice none 0 0,.slice none 0 0,.slice none 0 0,by (rw [HRE2.out];try rfl),?_⟩;rw [HRE2.out];exact⟨EntAt.none _ _ _ _ _,hp⟩
     | some p =>
      obtain⟨e1,err⟩:=p;have HS1:=zH (hse rfl);simp only [Option.isSome_some] at h65
      cases hc:zce B (zas k) dO with
      | none=>rw [hc] at HDO;exact HDO.elim
      | some c =>
       rw [hc] at HDO h9;obtain⟨fn,cap,rfl,hen,HCC⟩:=HDO;simp only [Option.getD_some] at h9;have HC:=zH HCC;clear HCC hc hse;simp only [List.length_cons,List.length_nil,Nat.reduceAdd,List.take_succ_cons,List.take_zero,List.filterMap_cons,List.filterMap_nil,List.drop_succ_cons,List.drop_zero,zav,Act.put,List.setIfInBounds_toArray,List.set_cons_succ,List.set_cons_zero,h65,h9];go_wp;go_wp2_with fail;refine HC.out.mono ?_;rintro r W6 ⟨rfl,hD⟩;obtain⟨t2,t3,hE6,hA6,hk6⟩:=hD;have hx6:=hx5.kept2 hk6 (by omega) (by omega);have rR6:=rR.keep (hk6.other _ rR.lt (by omega) (by omega));have rD6:=rD5.keep (hk6.other _ rD5.lt (by omega) (by omega));have hz6:=hk6.size;clear HC rR rD5 rN5 HU5 hx5 hk6 hen
       by_cases herr:err=0
       ·subst herr;have HRE2:=zH (show zfb ⟨k,es,ec,ei,(x1,x2,x3)⟩ (dO,k,n,tx) (d1,dn)=({ e1 with seen:=setM e1.seen d1 dn },0) from HRE.out);have HS:=zH (zj9 d1 dn hA6.seen (by rw [HS1.out.1];exact Nat.le_trans sm.seen (by decide)));obtain⟨T2,t2n,rfl,-,-⟩:=hA6.counts.form;obtain⟨T3,t3n,rfl,-,-⟩:=hA6.items.form;have k1:=hE6.cell (j:=1) rfl;have dd0:=rD6.cell (j:=0) rfl;have dd1:=rD6.cell (j:=1) rfl;have HA6:=zH hA6;clear hA6 HRE;go_wp2_with fail;refine HS.out.mono ?_;rintro r W7 ⟨u,rfl,ho,hx7⟩;obtain⟨U1,un,rfl,-,-⟩:=ho.form;have hE7:=hE6.ext hx7;have rR7:=rR6.ext hx7;have hf7:=hE7.frozen 1;have hc7:=hE7.cell (j:=1) rfl;have hsz7:=hx7.size;have hE8:=hE7.set (j:=1) (by simp) (.slice U1 (setM e1.seen d1 dn).length un);have rR8:=rR7.other (p:=⟨V4.heap.size,1,none⟩) (by simp;omega) (.slice U1 (setM e1.seen d1 dn).length un);simp only [List.set_cons_succ,List.set_cons_zero] at hE8;obtain⟨y0,y1,y2,y3,y4,y5,y6⟩:=hE7.p7;obtain⟨rr0,rr1,rr2,rr3,rr4,rr5,rr6⟩:=rR7.p7;obtain⟨ff0,ff1,ff2,ff3,ff4,ff5,ff6⟩:=rR7.q7;obtain⟨z0,z1,z2,z3,z4,z5,z6⟩:=hE8.p7;obtain⟨r0,r1,r2,r3,r4,r5,r6⟩:=rR8.p7;obtain⟨f0,f1,f2,f3,f4,f5,f6⟩:=rR8.q7;have HX:=zH (((hx6.trans hx7).set (p:=⟨V4.heap.size,1,none⟩) (by simp;omega) (.slice U1 (setM e1.seen d1 dn).length un)));have HO:=zH ho;have HX7:=zH hx7;clear hE6 hE7 hE8 rR6 rR7 rR8 rD6 ho hx7 hx6 HS k1 dd0 dd1;go_wp2_with fail
        (try simp only [Exit.inBlock,Exit.then])
        refine bodyPost_ret (v:=.tuple #[entV { e1 with seen:=setM e1.seen d1 dn } (.slice U1 (setM e1.seen d1 dn).length un) (.slice T2 e1.counts.length t2n) (.slice T3 e1.items.length t3n),I 0]) (by simp [results,Tryz.f84,go_sem,entV,entC,r0,r1,r2,r3,r4,r5,r6,rr0,rr1,rr2,rr3,rr4,rr5,rr6]) rfl ?_;have hp:=zeb (q:=w.heap.size+1+1+1) HX.out (by omega) { e1 with seen:=setM e1.seen d1 dn } (.slice U1 (setM e1.seen d1 dn).length un) (.slice T2 e1.counts.length t2n) (.slice T3 e1.items.length t3n);refine ⟨.slice U1 (setM e1.seen d1 dn).length un,.slice T2 e1.counts.length t2n,.slice T3 e1.items.length t3n,by (rw [HRE2.out];try rfl),?_⟩;rw [HRE2.out];refine ⟨?_,hp⟩
        have hkp:∀ b,b ≠ V4.heap.size->b ≠ w.heap.size+1+1+1->(put7 (W7.setCell ⟨V4.heap.size,1,none⟩ (.slice U1 (setM e1.seen d1 dn).length un)) (w.heap.size+1+1+1) { e1 with seen:=setM e1.seen d1 dn } (.slice U1 (setM e1.seen d1 dn).length un) (.slice T2 e1.counts.length t2n) (.slice T3 e1.items.length t3n)).heap[b]? = W7.heap[b]?:=fun b h1 h2=>(zgw _ _ _ _ _ _ b h2).trans (Below.heap_setCell _ _ _ _ h1)
        have hA7:=HA6.out.ext HX7.out;refine ⟨?_,?_,?_⟩
        ·exact (zbb (HO.out.keep fun b hb _=>hkp b (by have:=(HO.out.base_le hb).1;omega) (by have:=(HO.out.base_le hb).1;omega))).mono (by decide) fun b _ h=>by omega
        ·exact (hA7.counts.keep (by decide) fun b hb _=>hkp b (by rcases hb with hb | hb <;> omega) (by rcases hb with hb | hb <;> omega)).mono (by decide) fun b _ hb=>by rcases hb with hb | hb <;> omega
        ·exact (hA7.items.keep (by decide) fun b hb _=>hkp b (by rcases hb with hb | hb <;> omega) (by rcases hb with hb | hb <;> omega)).mono (by decide) fun b _ hb=>by rcases hb with hb | hb <;> omega
       ·have HRE2:=zH (show zfb ⟨k,es,ec,ei,(x1,x2,x3)⟩ (dO,k,n,tx) (d1,dn)=(zak,err) by rw [HRE.out];exact if_neg herr);have hne2:((err:Int) == 0)=false:=neI (by omega);obtain⟨r0,r1,r2,r3,r4,r5,r6⟩:=rR6.p7;obtain⟨f0,f1,f2,f3,f4,f5,f6⟩:=rR6.q7;have HX:=zH hx6;clear hE6 hA6 rD6 HRE hx6 rR6;go_wp2_with fail
        (try simp only [Exit.inBlock,Exit.then])
        refine bodyPost_ret (v:=.tuple #[entV zak (.slice none 0 0) (.slice none 0 0) (.slice none 0 0),I err]) (by simp [results,Tryz.f84,go_sem,entV,entC,zak,r0,r1,r2,r3,r4,r5,r6]) rfl ?_;have hp:=zeb (q:=w.heap.size+1+1+1) HX.out (by omega) zak (.slice none 0 0) (.slice none 0 0) (.slice none 0 0);refine ⟨.slice none 0 0,.slice none 0 0,.slice none 0 0,by (rw [HRE2.out];try rfl),?_⟩;rw [HRE2.out];exact⟨EntAt.none _ _ _ _ _,hp⟩
   ·rw [hh] at HH;go_wp2_with fail;refine HH.out.mono ?_;rintro r V2 ⟨rfl,hx2⟩;have HW:=zH (HW.out.on hx2);clear e0 e1 e2 e3 e4 e5 e6 hx2 HH;have HJ2:=zH (show J=(zak,2) by rw [HJ.out,if_pos (.inr (.inr (.inr hh)))]);have HX:=zH (HW.out).ext;obtain⟨r0,r1,r2,r3,r4,r5,r6⟩:=(HW.out).r.c7;obtain⟨f0,f1,f2,f3,f4,f5,f6⟩:=(HW.out).r.z7;clear HJ;go_wp2_with fail
    (try simp only [Exit.inBlock,Exit.then])
    exact bodyPost_ret (v:=.tuple #[entV zak (.slice none 0 0) (.slice none 0 0) (.slice none 0 0),I 2]) (by simp [results,Tryz.f84,go_sem,entV,entC,zak,r0,r1,r2,r3,r4,r5,r6]) rfl (HNO.out 2 _ HX.out HJ2.out)
  have HRS:=zH REST;clear REST hK;have HN:=zH (zpm (HE.out.ext HW.out.ext));obtain⟨e0,e1,e2,e3,e4,e5,e6⟩:=HW.out.e.c7;obtain⟨o0,o1,o2,o3⟩:=HW.out.o.c4
  by_cases he:ek=k
  ·subst he;clear HN;go_wp2_with fail;exact HRS.out _ _ _ _ _ _ _ _ _ _ _ _ _ _ _ HW.out (HJ2.out.trans (if_neg fun h=>h.1 rfl))
  have hne:(ek == k)=false:=by simpa using he
  cases hs:zbl ⟨ek,es,ec,ei,x1,x2,x3⟩ zak
  ·clear HRS;rw [hs] at HN;go_wp2_with fail;refine HN.out.mono ?_;rintro r V2 ⟨rfl,hx2⟩;have HW:=zH (HW.out.on hx2);clear e0 e1 e2 e3 e4 e5 e6 o0 o1 o2 o3 hx2 HN;have HJ:=HJ2;have HJ2:=zH (show J=(zak,2) by rw [HJ.out,if_pos ⟨he,hs⟩]);have HX:=zH (HW.out).ext;obtain⟨r0,r1,r2,r3,r4,r5,r6⟩:=(HW.out).r.c7;obtain⟨f0,f1,f2,f3,f4,f5,f6⟩:=(HW.out).r.z7;clear HJ;go_wp2_with fail
   (try simp only [Exit.inBlock,Exit.then])
   exact bodyPost_ret (v:=.tuple #[entV zak (.slice none 0 0) (.slice none 0 0) (.slice none 0 0),I 2]) (by simp [results,Tryz.f84,go_sem,entV,entC,zak,r0,r1,r2,r3,r4,r5,r6]) rfl (HNO.out 2 _ HX.out HJ2.out)
  ·rw [hs] at HN;go_wp2_with fail;refine HN.out.mono ?_;rintro r V2 ⟨rfl,hx2⟩;go_wp2_with fail;exact HRS.out _ _ _ _ _ _ _ _ _ _ _ _ _ _ _ (HW.out.on hx2) (HJ2.out.trans (if_neg fun h=>by rw [hs] at h;cases h.2))
end
section
theorem zlx {κ:Type} [DecidableEq κ] {l:List κ} (h:l.Nodup):setL l=l:=by
 have:=zle l [] (by simpa using h)
 simpa [setL] using this
theorem zly {l:List Item} {s:Str} (h:(zcx l).Nodup):((zbd l s).map (·.2)).Nodup/\∀ p ∈ zbd l s,p ∈ zab l:=by
 rw [zcn] at h;have h0:(zab l).Nodup:=(List.pairwise_map.1 h).imp fun h e=>h (by rw [e])
 unfold zbd;rw [zlx h0];exact⟨List.Nodup.sublist ((List.filter_sublist).map _) h,fun p hp=>(List.mem_filter.1 hp).1⟩
theorem zc2 {l:List Item} (h:GoodB l) {p:zan} (hp:p ∈ zab l):OkD p.2/\p.1.length<=4096/\p.2 ∈ zcx l:=by
 have hd:p.2 ∈ zcx l:=by rw [zcn];exact List.mem_map.2 ⟨p,hp,rfl⟩
 obtain⟨it,hit,hm⟩:=List.mem_flatMap.1 hp;obtain⟨d,hd2,rfl⟩:=List.mem_map.1 hm;exact⟨h.2.2.1 _ hd,(h.2.1 it hit).1,hd⟩
theorem zux {l:List Item} (s:Str) (h:GoodB l):GoodB (zf2 l s)/\∀ d ∈ zcx (zf2 l s),d ∈ zcx l:=by
 obtain⟨h1,h2⟩:=zly (s:=s) h.2.2.2;refine ⟨zh0 h1 (fun p hp=>(zc2 h (h2 p hp)).1) (fun p hp=>(zc2 h (h2 p hp)).2.1),fun d hd=>?_⟩;obtain⟨p,hp,rfl⟩:=zn7 hd;exact (zc2 h (h2 p hp)).2.2
theorem zxo {l:List Item} {s:Str} {d:Dot} (h:GoodB l) (hd:OkD d) (hn:d ∉ zcx l) (h0:(putB l s d).2=0):GoodB (putB l s d).1/\∀ x ∈ zcx (putB l s d).1,x=d ∨ x ∈ zcx l:=by
 unfold putB at h0 ⊢
 by_cases hs:4096 < s.length
 ·rw [if_pos hs] at h0;cases h0
 ·rw [if_neg hs] at h0 ⊢
  by_cases hf:256<=(ze2 (zbd l s)).length
  ·rw [if_pos hf] at h0;cases h0
  ·rw [if_neg hf];obtain⟨h1,h2⟩:=zly (s:=s) h.2.2.2;have hnew:(s,d) ∉ zbd l s:=fun hm=>hn (zc2 h (h2 _ hm)).2.2
   have ha:addK (zbd l s) (s,d)=zbd l s++[(s,d)]:=(by unfold addK;rw [if_neg hnew]);rw [ha]
   have hp:∀ p ∈ zbd l s++[(s,d)],p ∈ zbd l s ∨ p=(s,d):=fun p hp=>by
    rcases List.mem_append.1 hp with hp | hp
    ·exact .inl hp
    ·exact .inr (by simpa using hp)
   refine ⟨zh0 ?_ (fun p hpm=>?_) (fun p hpm=>?_),fun x hx=>?_⟩
   ·rw [List.map_append,List.nodup_append];refine ⟨h1,by simp,fun a haa b hb=>?_⟩;simp only [List.map_cons,List.map_nil,List.mem_singleton] at hb;subst hb;obtain⟨p,hpm,rfl⟩:=List.mem_map.1 haa;intro e;exact hn (e ▸ (zc2 h (h2 p hpm)).2.2)
   ·rcases hp p hpm with hpm | rfl
    ·exact (zc2 h (h2 p hpm)).1
    ·exact hd
   ·rcases hp p hpm with hpm | rfl
    ·exact (zc2 h (h2 p hpm)).2.1
    ·exact Nat.not_lt.1 hs
   ·obtain⟨p,hpm,rfl⟩:=zn7 hx;rcases hp p hpm with hpm | rfl
    ·exact .inr (zc2 h (h2 p hpm)).2.2
    ·exact .inl rfl
structure PreE (e:Entry):Prop where
 good:GoodM e.seen
 most:∀ m ∈ e.seen,m.2<=281474976710656
 one:zas e.key=1->e.items = []/\e.cell=zgd/\∀ c ∈ e.counts,c.1 = [] ∨ ofM e.seen c.1 ≠ 0
 two:zas e.key=2->GoodB e.items/\(∀ d ∈ zcx e.items,hasM e.seen d=true)/\e.counts = []/\e.cell=zgd
 three:zas e.key=3->e.counts = []/\e.items = []
theorem zjw:GoodB []:=⟨.nil,by simp,by simp [zcx],by simp [zcx]⟩
theorem zrh {e:Entry} (h:mayE e=true):PreE e:=by
 unfold mayE at h;rw [Bool.and_eq_true,Bool.and_eq_true] at h;obtain⟨h1,h2,h3⟩:=h;obtain⟨-,g1,g2⟩:=mayM_iff.1 h1;refine ⟨g1,g2,fun hk=>?_,fun hk=>?_,fun hk=>?_⟩
 ·rw [if_pos hk] at h3;simp only [may1,Bool.and_eq_true,decide_eq_true_eq,List.length_eq_zero_iff] at h3;obtain⟨k1,k2,k3,k4⟩:=h3;refine ⟨k3,k4,fun c hc=>?_⟩;have:=List.all_eq_true.1 k2 c hc
  by_cases h:c.1 = []
  ·exact .inl h
  ·refine .inr fun h0=>?_
   simp [h,h0] at this
 ·rw [if_neg (by omega),if_pos hk] at h3;simp only [may2,Bool.and_eq_true,decide_eq_true_eq,List.length_eq_zero_iff] at h3;obtain⟨k1,k2,k3,k4⟩:=h3;refine ⟨mayB_iff.1 k1,fun d hd=>?_,k3,k4⟩;obtain⟨it,hit,hdd⟩:=List.mem_flatMap.1 hd;exact List.all_eq_true.1 (List.all_eq_true.1 k2 it hit) d hdd
 ·rw [if_neg (by omega),if_neg (by omega),if_pos hk] at h3;simp only [may3,Bool.and_eq_true,decide_eq_true_eq,List.length_eq_zero_iff] at h3;exact h3.2
end
end Go.Proofs.YtaabaflgeljbjaaGreat
