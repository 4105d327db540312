/- Contracts and plain laws. -/
import Derived.Test.YtaabaflgeljbjaaGreatPo34
import Derived.Test.YtaabaflgeljbjaaGreatPo02
import Derived.Test.YtaabaflgeljbjaaGreatPo11
import Derived.Test.YtaabaflgeljbjaaGreatPo22
import Derived.Test.YtaabaflgeljbjaaGreatPo28
import Derived.Test.YtaabaflgeljbjaaGreatPo05
import Derived.Test.YtaabaflgeljbjaaGreatPo14
set_option linter.unusedVariables false
set_option linter.unusedSimpArgs false
set_option maxRecDepth 100000
set_option maxHeartbeats 40000000
namespace Go.Proofs.YtaabaflgeljbjaaGreat
section
open Go.RowKit Go.Shelf
def zj8:Cell:=(0,[],false)
def may1 (e:Entry):Bool:=mayL e.counts && (zf1 e && (decide (e.items.length=0) && decide (e.cell=zj8)))
def may2 (e:Entry):Bool:=mayB e.items && (zg1 e && (decide (e.counts.length=0) && decide (e.cell=zj8)))
def may3 (e:Entry):Bool:=mayC e.cell && (decide (e.counts.length=0) && decide (e.items.length=0))
def mayE (e:Entry):Bool:=mayM e.seen && (!decide (e.seen.length=0) && (if zaq e.key=1 then may1 e else if zaq e.key=2 then may2 e else if zaq e.key=3 then may3 e else false))
theorem zwl {S:Nat->Prop} {e:Entry} {v1 v2 v3:Value} {W:World} {B:Nat} (hb:RowIs W B 46 (entL e v1 v2 v3) []) (h:EntAt W S e v1 v2 v3) :
  Calls Tryz.prog 73 #[.pointer (some ⟨B,0,none⟩)] W fun r w'=>r=.returned (.bool (may1 e))/\Ext W w':=by
 obtain⟨ek,es,ec,ei,x1,x2,x3⟩:=e;have HM:=zH (show may1 ⟨ek,es,ec,ei,(x1,x2,x3)⟩=(mayL ec && (zf1 ⟨ek,es,ec,ei,(x1,x2,x3)⟩ && (decide (ei.length=0) && decide ((x1,x2,x3)=zj8)))) from rfl);have HC:=zH (zv2 h.counts);have H:=zH h;obtain⟨A1,n1,rfl,-,-⟩:=h.seen.form;obtain⟨A2,n2,rfl,-,-⟩:=h.counts.form;obtain⟨A3,n3,rfl,-,-⟩:=h.items.form;have k2:=hb.cell (j:=2) rfl;have hq:=fun w=>zk7 (x1,x2,x3) (0,[],false) w
 simp only at hq;clear h;go_enter Tryz.func73,Tryz.ntmps73;go_wp2_with fail;refine HC.out.mono ?_;rintro r W1 ⟨rfl,hx1⟩;have hb1:=hb.ext hx1
 cases hm:mayL ec with
 | false=>have HR:=zH (show may1 ⟨ek,es,ec,ei,(x1,x2,x3)⟩=false by rw [HM.out,hm];rfl);go_wp2_with fail;go_ret;exact⟨by rw [HR.out];rfl,hx1⟩
 | true =>
  obtain⟨c0,c1,c2,c3,c4,c5,c6⟩:=hb1.p7;have HS:=zH (zor (H.out.ext hx1));go_wp2_with fail;refine HS.out.mono ?_;rintro r W2 ⟨rfl,hx2⟩;have hb2:=hb1.ext hx2;have d2:=hb2.cell (j:=2) rfl;have d3:=hb2.cell (j:=3) rfl;have d4:=hb2.cell (j:=4) rfl;have d5:=hb2.cell (j:=5) rfl;have d6:=hb2.cell (j:=6) rfl;have HX:=zH (hx1.trans hx2)
  cases hs:zf1 ⟨ek,es,ec,ei,(x1,x2,x3)⟩ with
  | false=>have HR:=zH (show may1 ⟨ek,es,ec,ei,(x1,x2,x3)⟩=false by rw [HM.out,hm,hs];rfl);go_wp2_with fail;go_ret;exact⟨by rw [HR.out];rfl,HX.out⟩
  | true =>
   cases ei with
   | nil =>
    have HR:=zH (show may1 ⟨ek,es,ec,[],(x1,x2,x3)⟩=decide ((x1,x2,x3)=((0,[],false):Cell)) by rw [HM.out,hm,hs];rfl);go_wp2_with fail
    all_goals
     go_ret;refine ⟨?_,HX.out⟩;rw [HR.out];simp [*]
   | cons it ei=>have HR:=zH (show may1 ⟨ek,es,ec,it :: ei,(x1,x2,x3)⟩=false by rw [HM.out,hm,hs];rfl);go_wp2_with fail;go_ret;exact⟨by rw [HR.out];rfl,HX.out⟩
theorem zwm {S:Nat->Prop} {e:Entry} {v1 v2 v3:Value} {W:World} {B:Nat} (hl40:e.items.length<=1099511627776) (hb:RowIs W B 46 (entL e v1 v2 v3) []) (h:EntAt W S e v1 v2 v3) :
  Calls Tryz.prog 76 #[.pointer (some ⟨B,0,none⟩)] W fun r w'=>r=.returned (.bool (may2 e))/\Ext W w':=by
 obtain⟨ek,es,ec,ei,x1,x2,x3⟩:=e;have HM:=zH (show may2 ⟨ek,es,ec,ei,(x1,x2,x3)⟩=(mayB ei && (zg1 ⟨ek,es,ec,ei,(x1,x2,x3)⟩ && (decide (ec.length=0) && decide ((x1,x2,x3)=zj8)))) from rfl);have HC:=zH (zwf h.items hl40);have H:=zH h;obtain⟨A1,n1,rfl,-,-⟩:=h.seen.form;obtain⟨A2,n2,rfl,-,-⟩:=h.counts.form;obtain⟨A3,n3,rfl,-,-⟩:=h.items.form;have k3:=hb.cell (j:=3) rfl;have hq:=fun w=>zk7 (x1,x2,x3) (0,[],false) w
 simp only at hq;clear h;go_enter Tryz.func76,Tryz.ntmps76;go_wp2_with fail;refine HC.out.mono ?_;rintro r W1 ⟨rfl,hx1⟩;have hb1:=hb.ext hx1
 cases hm:mayB ei with
 | false=>have HR:=zH (show may2 ⟨ek,es,ec,ei,(x1,x2,x3)⟩=false by rw [HM.out,hm];rfl);go_wp2_with fail;go_ret;exact⟨by rw [HR.out];rfl,hx1⟩
 | true =>
  obtain⟨c0,c1,c2,c3,c4,c5,c6⟩:=hb1.p7;have HS:=zH (zp4 (H.out.ext hx1));go_wp2_with fail;refine HS.out.mono ?_;rintro r W2 ⟨rfl,hx2⟩;have hb2:=hb1.ext hx2;have d2:=hb2.cell (j:=2) rfl;have d3:=hb2.cell (j:=3) rfl;have d4:=hb2.cell (j:=4) rfl;have d5:=hb2.cell (j:=5) rfl;have d6:=hb2.cell (j:=6) rfl;have HX:=zH (hx1.trans hx2)
  cases hs:zg1 ⟨ek,es,ec,ei,(x1,x2,x3)⟩ with
  | false=>have HR:=zH (show may2 ⟨ek,es,ec,ei,(x1,x2,x3)⟩=false by rw [HM.out,hm,hs];rfl);go_wp2_with fail;go_ret;exact⟨by rw [HR.out];rfl,HX.out⟩
  | true =>
   cases ec with
   | nil =>
    have HR:=zH (show may2 ⟨ek,es,[],ei,(x1,x2,x3)⟩=decide ((x1,x2,x3)=((0,[],false):Cell)) by rw [HM.out,hm,hs];rfl);go_wp2_with fail
    all_goals
     go_ret;refine ⟨?_,HX.out⟩;rw [HR.out];simp [*]
   | cons it ec=>have HR:=zH (show may2 ⟨ek,es,it :: ec,ei,(x1,x2,x3)⟩=false by rw [HM.out,hm,hs];rfl);go_wp2_with fail;go_ret;exact⟨by rw [HR.out];rfl,HX.out⟩
theorem zwn {S:Nat->Prop} {e:Entry} {v1 v2 v3:Value} {W:World} {B:Nat} (hb:RowIs W B 46 (entL e v1 v2 v3) []) (h:EntAt W S e v1 v2 v3) :
  Calls Tryz.prog 79 #[.pointer (some ⟨B,0,none⟩)] W fun r w'=>r=.returned (.bool (may3 e))/\Ext W w':=by
 obtain⟨ek,es,ec,ei,x1,x2,x3⟩:=e;have HM:=zH (show may3 ⟨ek,es,ec,ei,(x1,x2,x3)⟩=(mayC (x1,x2,x3) && (decide (ec.length=0) && decide (ei.length=0))) from rfl);have HC:=zH (zwg (x1,x2,x3) W);obtain⟨A1,n1,rfl,-,-⟩:=h.seen.form;obtain⟨A2,n2,rfl,-,-⟩:=h.counts.form;obtain⟨A3,n3,rfl,-,-⟩:=h.items.form;have k4:=hb.cell (j:=4) rfl;have k5:=hb.cell (j:=5) rfl;have k6:=hb.cell (j:=6) rfl;clear h;go_enter Tryz.func79,Tryz.ntmps79;go_wp2_with fail;refine HC.out.mono ?_;rintro r W1 ⟨rfl,hx1⟩;have hb1:=hb.ext hx1;have c2:=hb1.cell (j:=2) rfl;have c3:=hb1.cell (j:=3) rfl
 cases hm:mayC (x1,x2,x3) with
 | false=>have HR:=zH (show may3 ⟨ek,es,ec,ei,(x1,x2,x3)⟩=false by rw [HM.out,hm];rfl);go_wp2_with fail;go_ret;exact⟨by rw [HR.out];rfl,hx1⟩
 | true =>
  cases ec with
  | nil =>
   cases ei with
   | nil=>have HR:=zH (show may3 ⟨ek,es,[],[],(x1,x2,x3)⟩=true by rw [HM.out,hm];rfl);go_wp2_with fail;go_ret;exact⟨by rw [HR.out];rfl,hx1⟩
   | cons it ei=>have HR:=zH (show may3 ⟨ek,es,[],it :: ei,(x1,x2,x3)⟩=false by rw [HM.out,hm];rfl);go_wp2_with fail;go_ret;exact⟨by rw [HR.out];rfl,hx1⟩
  | cons c ec=>have HR:=zH (show may3 ⟨ek,es,c :: ec,ei,(x1,x2,x3)⟩=false by rw [HM.out,hm];rfl);go_wp2_with fail;go_ret;exact⟨by rw [HR.out];rfl,hx1⟩
end
section
open Go.RowKit Go.Shelf
def mayV (B:Nat):Option Nat->Value
 | none=>.nilFunc
 | some f=>.func (.func f) #[] #[.pointer (some ⟨B,0,none⟩)]
theorem zy5 (B:Nat) (w:World):(zeroValue 31).run Tryz.prog w=.ok (mayV B none) w:=Tryz.zeroValue31 w
theorem keyOk8:KeyOk Tryz.prog 5 K8:=zwj Tryz.underlying5
theorem zit {S:Nat->Prop} {e:Entry} {v1 v2 v3:Value} {w:World} (h:EntAt w S e v1 v2 v3) (hl40:e.items.length<=1099511627776) :
  Calls Tryz.prog 34 #[entV e v1 v2 v3] w fun r w'=>r=.returned (.bool (mayE e))/\Ext w w':=by
 obtain⟨ek,es,ec,ei,x1,x2,x3⟩:=e;have HM:=zH (show mayE ⟨ek,es,ec,ei,(x1,x2,x3)⟩=(mayM es && (!decide (es.length=0) && (if zaq ek=1 then may1 ⟨ek,es,ec,ei,(x1,x2,x3)⟩ else if zaq ek=2 then may2 ⟨ek,es,ec,ei,(x1,x2,x3)⟩ else if zaq ek=3 then may3 ⟨ek,es,ec,ei,(x1,x2,x3)⟩ else false))) from rfl);generalize mayE ⟨ek,es,ec,ei,(x1,x2,x3)⟩=R at *;have H:=zH h;obtain⟨A1,n1,rfl,-,-⟩:=h.seen.form;obtain⟨A2,n2,rfl,-,-⟩:=h.counts.form;obtain⟨A3,n3,rfl,-,-⟩:=h.items.form;have hx0:=(Ext.refl w).alloc (.cells #[St ek,.slice A1 es.length n1,.slice A2 ec.length n2,.slice A3 ei.length n3,U x1,St x2,.bool x3] 46);have hb0:=zai w 46 [St ek,.slice A1 es.length n1,.slice A2 ec.length n2,.slice A3 ei.length n3,U x1,St x2,.bool x3];have k1:=hb0.cell (j:=1) rfl;have HMM:=zH (zrb (h.seen.ext (by decide) hx0));clear h;have eg1:∀ args w,(callFunc 73 args).run Tryz.prog w=.ok (.enter 73 args) w:=enters_of Tryz.func73 (by kernel_rfl) rfl;have eg2:∀ args w,(callFunc 76 args).run Tryz.prog w=.ok (.enter 76 args) w:=enters_of Tryz.func76 (by kernel_rfl) rfl;have eg3:∀ args w,(callFunc 79 args).run Tryz.prog w=.ok (.enter 79 args) w:=enters_of Tryz.func79 (by kernel_rfl) rfl;have hmm:=@run_makeMap Tryz.prog;go_enter Tryz.func34,Tryz.ntmps34;go_wp2_with fail;generalize hW0:w.alloc (.cells #[St ek,.slice A1 es.length n1,.slice A2 ec.length n2,.slice A3 ei.length n3,U x1,St x2,.bool x3] 46)=W0 at *;clear hW0;refine HMM.out.mono ?_;rintro r W1 ⟨rfl,hx1⟩;have hb1:=hb0.ext hx1;have c0:=hb1.cell (j:=0) rfl;have c1:=hb1.cell (j:=1) rfl;have hX1:=hx0.trans hx1
 cases hm:mayM es with
 | false=>have HR:=zH (show R=false by rw [HM.out,hm];rfl);go_wp2_with fail;go_ret;exact⟨by rw [HR.out];rfl,hX1⟩
 | true =>
  cases es with
  | nil=>have HR:=zH (show R=false by rw [HM.out,hm];rfl);go_wp2_with fail;go_ret;exact⟨by rw [HR.out];rfl,hX1⟩
  | cons m es =>
   have HR:=zH (show R=(if zaq ek=1 then may1 ⟨ek,m :: es,ec,ei,(x1,x2,x3)⟩ else if zaq ek=2 then may2 ⟨ek,m :: es,ec,ei,(x1,x2,x3)⟩ else if zaq ek=3 then may3 ⟨ek,m :: es,ec,ei,(x1,x2,x3)⟩ else false) by rw [HM.out,hm];rfl);have hz1:=hb1.lt;obtain⟨Wa,ua,ma,ta⟩:=zas (P:=Tryz.prog) (t:=149) Tryz.underlying149 keyOk8 (MapIs.new (K:=K8) (V:=mayV w.heap.size) W1) 1 (some 73);obtain⟨Wb,ub,mb,tb⟩:=zas (P:=Tryz.prog) (t:=149) Tryz.underlying149 keyOk8 ma 2 (some 76);obtain⟨Wc,uc,mc,tc⟩:=zas (P:=Tryz.prog) (t:=149) Tryz.underlying149 keyOk8 mb 3 (some 79);have hxa:=((Ext.refl W1).alloc (.map #[] 0)).turned ta (Nat.le_refl _);have hxb:=hxa.turned tb (Nat.le_refl _);have hxc:=hxb.turned tc (Nat.le_refl _);have d0:=(hb1.ext hxc).cell (j:=0) rfl;have HK:=zH (zis ek Wc);have HC:=zH mc;have HXC:=zH hxc;clear ta tb tc hxa hxb hxc ma mb mc;have ua':(Instr.mapUpdate 149 (.map (some W1.heap.size)) (.int .u8 1) (.func (.func 73) #[] #[.pointer (some ⟨w.heap.size,0,none⟩)])).run Tryz.prog (W1.alloc (.map #[] 0))=.ok () Wa:=ua;have ub':(Instr.mapUpdate 149 (.map (some W1.heap.size)) (.int .u8 2) (.func (.func 76) #[] #[.pointer (some ⟨w.heap.size,0,none⟩)])).run Tryz.prog Wa=.ok () Wb:=ub;have uc':(Instr.mapUpdate 149 (.map (some W1.heap.size)) (.int .u8 3) (.func (.func 79) #[] #[.pointer (some ⟨w.heap.size,0,none⟩)])).run Tryz.prog Wb=.ok () Wc:=uc;clear ua ub uc;go_wp2_with fail;refine HK.out.mono ?_;rintro r W2 ⟨rfl,hx2⟩;have hL:=(zbk (P:=Tryz.prog) (t:=149) (z:=none) Tryz.underlying149 keyOk8 (zy5 w.heap.size) (HC.out.ext hx2) (zaq ek)).2;have HB2:=zH (hb1.ext (HXC.out.trans hx2));have HX2:=zH (hX1.trans (HXC.out.trans hx2));generalize hkk:zaq ek=kk at *;have hL':(Instr.lookup 149 (.map (some W1.heap.size)) (U8 kk) true).run Tryz.prog W2=.ok (.tuple #[mayV w.heap.size (getL none (putL (putL (putL [] 1 (some 73)) 2 (some 76)) 3 (some 79)) kk),.bool (decide (kk ∈ [1,2,3]))]) W2:=hL;clear hL;rcases (show kk=1 ∨ kk=2 ∨ kk=3 ∨ (kk ≠ 1/\kk ≠ 2/\kk ≠ 3) by omega) with h1 | h1 | h1 | ⟨h1,h2,h3⟩
   ·subst h1;have hl:(Instr.lookup 149 (.map (some W1.heap.size)) (U8 1) true).run Tryz.prog W2=.ok (.tuple #[.func (.func 73) #[] #[.pointer (some ⟨w.heap.size,0,none⟩)],.bool true]) W2:=hL';have HR2:=zH (show R=may1 ⟨ek,m :: es,ec,ei,(x1,x2,x3)⟩ by rw [HR.out];rfl);clear hL' hkk HR;have HT:=zH (zwl HB2.out (H.out.ext HX2.out));go_wp2_with fail;refine HT.out.mono ?_;rintro r W3 ⟨rfl,hx3⟩;have HX3:=zH (HX2.out.trans hx3);clear hx3;go_wp2_with fail;go_ret;exact⟨by rw [HR2.out];rfl,HX3.out⟩
   ·subst h1;have hl:(Instr.lookup 149 (.map (some W1.heap.size)) (U8 2) true).run Tryz.prog W2=.ok (.tuple #[.func (.func 76) #[] #[.pointer (some ⟨w.heap.size,0,none⟩)],.bool true]) W2:=hL';have HR2:=zH (show R=may2 ⟨ek,m :: es,ec,ei,(x1,x2,x3)⟩ by rw [HR.out];rfl);clear hL' hkk HR;have HT:=zH (zwm hl40 HB2.out (H.out.ext HX2.out));go_wp2_with fail;refine HT.out.mono ?_;rintro r W3 ⟨rfl,hx3⟩;have HX3:=zH (HX2.out.trans hx3);clear hx3;go_wp2_with fail;go_ret;exact⟨by rw [HR2.out];rfl,HX3.out⟩
   ·subst h1;have hl:(Instr.lookup 149 (.map (some W1.heap.size)) (U8 3) true).run Tryz.prog W2=.ok (.tuple #[.func (.func 79) #[] #[.pointer (some ⟨w.heap.size,0,none⟩)],.bool true]) W2:=hL';have HR2:=zH (show R=may3 ⟨ek,m :: es,ec,ei,(x1,x2,x3)⟩ by rw [HR.out];rfl);clear hL' hkk HR;have HT:=zH (zwn HB2.out (H.out.ext HX2.out));go_wp2_with fail;refine HT.out.mono ?_;rintro r W3 ⟨rfl,hx3⟩;have HX3:=zH (HX2.out.trans hx3);clear hx3;go_wp2_with fail;go_ret;exact⟨by rw [HR2.out];rfl,HX3.out⟩
   ·have hl:(Instr.lookup 149 (.map (some W1.heap.size)) (U8 kk) true).run Tryz.prog W2=.ok (.tuple #[.nilFunc,.bool false]) W2:=by
     rw [hL'];have e1:(1 == kk)=false:=(by simp;omega);have e2:(kk == 1)=false:=(by simp;omega);have e3:(kk == 2)=false:=(by simp;omega);have e4:(kk == 3)=false:=(by simp;omega);simp [getL,putL,List.lookup,e2,e3,e4,h1,h2,h3,mayV]
    have HR2:=zH (show R=false by rw [HR.out,if_neg h1,if_neg h2,if_neg h3]);clear hL' hkk HR;go_wp2_with fail;go_ret;exact⟨by rw [HR2.out];rfl,HX2.out⟩
end
end Go.Proofs.YtaabaflgeljbjaaGreat
