/- Contracts of the functions that the statement goes through, and plain laws of them. -/
import Derived.Test.YtdikcgmdmcfpfaaGreatSi26
import Derived.Test.YtdikcgmdmcfpfaaGreatSi09
import Derived.Test.YtdikcgmdmcfpfaaGreatSi22
import Derived.Test.YtdikcgmdmcfpfaaGreatSi19
import Derived.Test.YtdikcgmdmcfpfaaGreatSi27
import Derived.Test.YtdikcgmdmcfpfaaGreatSi02
import Derived.Test.YtdikcgmdmcfpfaaGreatSi12
import Derived.Test.YtdikcgmdmcfpfaaGreatSi08
import Derived.Test.YtdikcgmdmcfpfaaGreatSi14
import Derived.Test.YtdikcgmdmcfpfaaGreatSi25
import Derived.Test.YtdikcgmdmcfpfaaGreatSi24
set_option linter.unusedVariables false
set_option linter.unusedSimpArgs false
set_option linter.unusedSectionVars false
set_option maxRecDepth 100000
set_option maxHeartbeats 4000000
namespace Go.Proofs.YtdikcgmdmcfpfaaGreat
section
open Go.RowKit Go.Shelf
def zir:Cell:=(0,[],false)
def may1 (e:Entry):Bool:=mayL e.counts && (ze9 e && (decide (e.items.length=0) && decide (e.cell=zir)))
def may2 (e:Entry):Bool:=mayB e.items && (zf0 e && (decide (e.counts.length=0) && decide (e.cell=zir)))
def may3 (e:Entry):Bool:=mayC e.cell && (decide (e.counts.length=0) && decide (e.items.length=0))
def mayE (e:Entry):Bool:=mayM e.seen && (!decide (e.seen.length=0) && (if zaj e.key=1 then may1 e else if zaj e.key=2 then may2 e else if zaj e.key=3 then may3 e else false))
theorem zsr {S:Nat→Prop} {e:Entry} {v1 v2 v3:Value} {W:World} {B:Nat} (hb:RowIs W B 37 (entL e v1 v2 v3) []) (h:EntAt W S e v1 v2 v3) :
  Calls Tryz.prog 118 #[.pointer (some ⟨B,0,none⟩)] W fun r w'=>r = .returned (.bool (may1 e))∧Ext W w':=by
 obtain⟨ek,es,ec,ei,x1,x2,x3⟩:=e
 have HM:=Lib.hid (show may1 ⟨ek,es,ec,ei,(x1,x2,x3)⟩=(mayL ec && (ze9 ⟨ek,es,ec,ei,(x1,x2,x3)⟩ && (decide (ei.length=0) && decide ((x1,x2,x3)=zir)))) from rfl)
 have HC:=Lib.hid (zsk h.counts)
 have H:=Lib.hid h
 obtain⟨A1,n1,rfl,-,-⟩:=h.seen.form
 obtain⟨A2,n2,rfl,-,-⟩:=h.counts.form
 obtain⟨A3,n3,rfl,-,-⟩:=h.items.form
 have k2:=hb.cell (j:=2) rfl
 have hq:=fun w=>zjj (x1,x2,x3) (0,[],false) w
 simp only at hq
 clear h
 go_enter Tryz.func118,Tryz.ntmps118
 go_wp2_with fail
 refine HC.out.mono ?_
 rintro r W1 ⟨rfl,hx1⟩
 have hb1:=hb.ext hx1
 cases hm:mayL ec with
 | false =>
  have HR:=Lib.hid (show may1 ⟨ek,es,ec,ei,(x1,x2,x3)⟩=false by rw [HM.out,hm];rfl)
  go_wp2_with fail
  go_ret
  exact⟨by rw [HR.out];rfl,hx1⟩
 | true =>
  have c0:=hb1.cell (j:=0) rfl
  have c1:=hb1.cell (j:=1) rfl
  have c2:=hb1.cell (j:=2) rfl
  have c3:=hb1.cell (j:=3) rfl
  have c4:=hb1.cell (j:=4) rfl
  have c5:=hb1.cell (j:=5) rfl
  have c6:=hb1.cell (j:=6) rfl
  have HS:=Lib.hid (zmh (H.out.ext hx1))
  go_wp2_with fail
  refine HS.out.mono ?_
  rintro r W2 ⟨rfl,hx2⟩
  have hb2:=hb1.ext hx2
  have d2:=hb2.cell (j:=2) rfl
  have d3:=hb2.cell (j:=3) rfl
  have d4:=hb2.cell (j:=4) rfl
  have d5:=hb2.cell (j:=5) rfl
  have d6:=hb2.cell (j:=6) rfl
  have HX:=Lib.hid (hx1.trans hx2)
  cases hs:ze9 ⟨ek,es,ec,ei,(x1,x2,x3)⟩ with
  | false =>
   have HR:=Lib.hid (show may1 ⟨ek,es,ec,ei,(x1,x2,x3)⟩=false by rw [HM.out,hm,hs];rfl)
   go_wp2_with fail
   go_ret
   exact⟨by rw [HR.out];rfl,HX.out⟩
  | true =>
   cases ei with
   | nil =>
    have HR:=Lib.hid (show may1 ⟨ek,es,ec,[],(x1,x2,x3)⟩=decide ((x1,x2,x3)=((0,[],false):Cell)) by rw [HM.out,hm,hs];rfl)
    go_wp2_with fail
    all_goals
     go_ret
     refine ⟨?_,HX.out⟩
     rw [HR.out]
     simp [*]
   | cons it ei =>
    have HR:=Lib.hid (show may1 ⟨ek,es,ec,it :: ei,(x1,x2,x3)⟩=false by rw [HM.out,hm,hs];rfl)
    go_wp2_with fail
    go_ret
    exact⟨by rw [HR.out];rfl,HX.out⟩
theorem zss {S:Nat→Prop} {e:Entry} {v1 v2 v3:Value} {W:World} {B:Nat} (hl40:e.items.length≤1099511627776) (hb:RowIs W B 37 (entL e v1 v2 v3) []) (h:EntAt W S e v1 v2 v3) :
  Calls Tryz.prog 121 #[.pointer (some ⟨B,0,none⟩)] W fun r w'=>r = .returned (.bool (may2 e))∧Ext W w':=by
 obtain⟨ek,es,ec,ei,x1,x2,x3⟩:=e
 have HM:=Lib.hid (show may2 ⟨ek,es,ec,ei,(x1,x2,x3)⟩=(mayB ei && (zf0 ⟨ek,es,ec,ei,(x1,x2,x3)⟩ && (decide (ec.length=0) && decide ((x1,x2,x3)=zir)))) from rfl)
 have HC:=Lib.hid (zsi h.items hl40)
 have H:=Lib.hid h
 obtain⟨A1,n1,rfl,-,-⟩:=h.seen.form
 obtain⟨A2,n2,rfl,-,-⟩:=h.counts.form
 obtain⟨A3,n3,rfl,-,-⟩:=h.items.form
 have k3:=hb.cell (j:=3) rfl
 have hq:=fun w=>zjj (x1,x2,x3) (0,[],false) w
 simp only at hq
 clear h
 go_enter Tryz.func121,Tryz.ntmps121
 go_wp2_with fail
 refine HC.out.mono ?_
 rintro r W1 ⟨rfl,hx1⟩
 have hb1:=hb.ext hx1
 cases hm:mayB ei with
 | false =>
  have HR:=Lib.hid (show may2 ⟨ek,es,ec,ei,(x1,x2,x3)⟩=false by rw [HM.out,hm];rfl)
  go_wp2_with fail
  go_ret
  exact⟨by rw [HR.out];rfl,hx1⟩
 | true =>
  have c0:=hb1.cell (j:=0) rfl
  have c1:=hb1.cell (j:=1) rfl
  have c2:=hb1.cell (j:=2) rfl
  have c3:=hb1.cell (j:=3) rfl
  have c4:=hb1.cell (j:=4) rfl
  have c5:=hb1.cell (j:=5) rfl
  have c6:=hb1.cell (j:=6) rfl
  have HS:=Lib.hid (znf (H.out.ext hx1))
  go_wp2_with fail
  refine HS.out.mono ?_
  rintro r W2 ⟨rfl,hx2⟩
  have hb2:=hb1.ext hx2
  have d2:=hb2.cell (j:=2) rfl
  have d3:=hb2.cell (j:=3) rfl
  have d4:=hb2.cell (j:=4) rfl
  have d5:=hb2.cell (j:=5) rfl
  have d6:=hb2.cell (j:=6) rfl
  have HX:=Lib.hid (hx1.trans hx2)
  cases hs:zf0 ⟨ek,es,ec,ei,(x1,x2,x3)⟩ with
  | false =>
   have HR:=Lib.hid (show may2 ⟨ek,es,ec,ei,(x1,x2,x3)⟩=false by rw [HM.out,hm,hs];rfl)
   go_wp2_with fail
   go_ret
   exact⟨by rw [HR.out];rfl,HX.out⟩
  | true =>
   cases ec with
   | nil =>
    have HR:=Lib.hid (show may2 ⟨ek,es,[],ei,(x1,x2,x3)⟩=decide ((x1,x2,x3)=((0,[],false):Cell)) by rw [HM.out,hm,hs];rfl)
    go_wp2_with fail
    all_goals
     go_ret
     refine ⟨?_,HX.out⟩
     rw [HR.out]
     simp [*]
   | cons it ec =>
    have HR:=Lib.hid (show may2 ⟨ek,es,it :: ec,ei,(x1,x2,x3)⟩=false by rw [HM.out,hm,hs];rfl)
    go_wp2_with fail
    go_ret
    exact⟨by rw [HR.out];rfl,HX.out⟩
theorem zst {S:Nat→Prop} {e:Entry} {v1 v2 v3:Value} {W:World} {B:Nat} (hb:RowIs W B 37 (entL e v1 v2 v3) []) (h:EntAt W S e v1 v2 v3) :
  Calls Tryz.prog 124 #[.pointer (some ⟨B,0,none⟩)] W fun r w'=>r = .returned (.bool (may3 e))∧Ext W w':=by
 obtain⟨ek,es,ec,ei,x1,x2,x3⟩:=e
 have HM:=Lib.hid (show may3 ⟨ek,es,ec,ei,(x1,x2,x3)⟩=(mayC (x1,x2,x3) && (decide (ec.length=0) && decide (ei.length=0))) from rfl)
 have HC:=Lib.hid (zsn (x1,x2,x3) W)
 obtain⟨A1,n1,rfl,-,-⟩:=h.seen.form
 obtain⟨A2,n2,rfl,-,-⟩:=h.counts.form
 obtain⟨A3,n3,rfl,-,-⟩:=h.items.form
 have k4:=hb.cell (j:=4) rfl
 have k5:=hb.cell (j:=5) rfl
 have k6:=hb.cell (j:=6) rfl
 clear h
 go_enter Tryz.func124,Tryz.ntmps124
 go_wp2_with fail
 refine HC.out.mono ?_
 rintro r W1 ⟨rfl,hx1⟩
 have hb1:=hb.ext hx1
 have c2:=hb1.cell (j:=2) rfl
 have c3:=hb1.cell (j:=3) rfl
 cases hm:mayC (x1,x2,x3) with
 | false =>
  have HR:=Lib.hid (show may3 ⟨ek,es,ec,ei,(x1,x2,x3)⟩=false by rw [HM.out,hm];rfl)
  go_wp2_with fail
  go_ret
  exact⟨by rw [HR.out];rfl,hx1⟩
 | true =>
  cases ec with
  | nil =>
   cases ei with
   | nil =>
    have HR:=Lib.hid (show may3 ⟨ek,es,[],[],(x1,x2,x3)⟩=true by rw [HM.out,hm];rfl)
    go_wp2_with fail
    go_ret
    exact⟨by rw [HR.out];rfl,hx1⟩
   | cons it ei =>
    have HR:=Lib.hid (show may3 ⟨ek,es,[],it :: ei,(x1,x2,x3)⟩=false by rw [HM.out,hm];rfl)
    go_wp2_with fail
    go_ret
    exact⟨by rw [HR.out];rfl,hx1⟩
  | cons c ec =>
   have HR:=Lib.hid (show may3 ⟨ek,es,c :: ec,ei,(x1,x2,x3)⟩=false by rw [HM.out,hm];rfl)
   go_wp2_with fail
   go_ret
   exact⟨by rw [HR.out];rfl,hx1⟩
end
section
open Go.RowKit Go.Shelf
def mayV (B:Nat):Option Nat→Value
 | none=>.nilFunc
 | some f=>.func (.func f) #[] #[.pointer (some ⟨B,0,none⟩)]
theorem zuq (B:Nat) (w:World):(zeroValue 43).run Tryz.prog w = .ok (mayV B none) w:=Tryz.zeroValue43 w
theorem keyOk8:KeyOk Tryz.prog 5 K8:=zsp Tryz.underlying5
theorem zhp {S:Nat→Prop} {e:Entry} {v1 v2 v3:Value} {w:World} (h:EntAt w S e v1 v2 v3) (hl40:e.items.length≤1099511627776) :
  Calls Tryz.prog 65 #[entV e v1 v2 v3] w fun r w'=>r = .returned (.bool (mayE e))∧Ext w w':=by
 obtain⟨ek,es,ec,ei,x1,x2,x3⟩:=e
 have HM:=Lib.hid (show mayE ⟨ek,es,ec,ei,(x1,x2,x3)⟩=(mayM es && (!decide (es.length=0) && (if zaj ek=1 then may1 ⟨ek,es,ec,ei,(x1,x2,x3)⟩ else if zaj ek=2 then may2 ⟨ek,es,ec,ei,(x1,x2,x3)⟩ else if zaj ek=3 then may3 ⟨ek,es,ec,ei,(x1,x2,x3)⟩ else false))) from rfl)
 generalize mayE ⟨ek,es,ec,ei,(x1,x2,x3)⟩=R at *
 have H:=Lib.hid h
 obtain⟨A1,n1,rfl,-,-⟩:=h.seen.form
 obtain⟨A2,n2,rfl,-,-⟩:=h.counts.form
 obtain⟨A3,n3,rfl,-,-⟩:=h.items.form
 have hx0:=(Ext.refl w).alloc (.cells #[St ek,.slice A1 es.length n1,.slice A2 ec.length n2,.slice A3 ei.length n3,U x1,St x2,.bool x3] 37)
 have hb0:=zac w 37 [St ek,.slice A1 es.length n1,.slice A2 ec.length n2,.slice A3 ei.length n3,U x1,St x2,.bool x3]
 have k1:=hb0.cell (j:=1) rfl
 have HMM:=Lib.hid (zn5 (h.seen.ext (by decide) hx0))
 clear h
 have eg1:∀ args w,(callFunc 118 args).run Tryz.prog w = .ok (.enter 118 args) w:=enters_of Tryz.func118 (by kernel_rfl) rfl
 have eg2:∀ args w,(callFunc 121 args).run Tryz.prog w = .ok (.enter 121 args) w:=enters_of Tryz.func121 (by kernel_rfl) rfl
 have eg3:∀ args w,(callFunc 124 args).run Tryz.prog w = .ok (.enter 124 args) w:=enters_of Tryz.func124 (by kernel_rfl) rfl
 have hmm:=@run_makeMap Tryz.prog
 go_enter Tryz.func65,Tryz.ntmps65
 go_wp2_with fail
 generalize hW0:w.alloc (.cells #[St ek,.slice A1 es.length n1,.slice A2 ec.length n2,.slice A3 ei.length n3,U x1,St x2,.bool x3] 37)=W0 at *
 clear hW0
 refine HMM.out.mono ?_
 rintro r W1 ⟨rfl,hx1⟩
 have hb1:=hb0.ext hx1
 have c0:=hb1.cell (j:=0) rfl
 have c1:=hb1.cell (j:=1) rfl
 have hX1:=hx0.trans hx1
 cases hm:mayM es with
 | false =>
  have HR:=Lib.hid (show R=false by rw [HM.out,hm];rfl)
  go_wp2_with fail
  go_ret
  exact⟨by rw [HR.out];rfl,hX1⟩
 | true =>
  cases es with
  | nil =>
   have HR:=Lib.hid (show R=false by rw [HM.out,hm];rfl)
   go_wp2_with fail
   go_ret
   exact⟨by rw [HR.out];rfl,hX1⟩
  | cons m es =>
   have HR:=Lib.hid (show R=(if zaj ek=1 then may1 ⟨ek,m :: es,ec,ei,(x1,x2,x3)⟩ else if zaj ek=2 then may2 ⟨ek,m :: es,ec,ei,(x1,x2,x3)⟩ else if zaj ek=3 then may3 ⟨ek,m :: es,ec,ei,(x1,x2,x3)⟩ else false) by rw [HM.out,hm];rfl)
   have hz1:=hb1.lt
   obtain⟨Wa,ua,ma,ta⟩:=zao (P:=Tryz.prog) (t:=186) Tryz.underlying186 keyOk8 (MapIs.new (K:=K8) (V:=mayV w.heap.size) W1) 1 (some 118)
   obtain⟨Wb,ub,mb,tb⟩:=zao (P:=Tryz.prog) (t:=186) Tryz.underlying186 keyOk8 ma 2 (some 121)
   obtain⟨Wc,uc,mc,tc⟩:=zao (P:=Tryz.prog) (t:=186) Tryz.underlying186 keyOk8 mb 3 (some 124)
   have hxa:=((Ext.refl W1).alloc (.map #[] 0)).turned ta (Nat.le_refl _)
   have hxb:=hxa.turned tb (Nat.le_refl _)
   have hxc:=hxb.turned tc (Nat.le_refl _)
   have d0:=(hb1.ext hxc).cell (j:=0) rfl
   have HK:=Lib.hid (zgi ek Wc)
   have HC:=Lib.hid mc
   have HXC:=Lib.hid hxc
   clear ta tb tc hxa hxb hxc ma mb mc
   have ua':(Instr.mapUpdate 186 (.map (some W1.heap.size)) (.int .u8 1) (.func (.func 118) #[] #[.pointer (some ⟨w.heap.size,0,none⟩)])).run Tryz.prog (W1.alloc (.map #[] 0)) = .ok () Wa:=ua
   have ub':(Instr.mapUpdate 186 (.map (some W1.heap.size)) (.int .u8 2) (.func (.func 121) #[] #[.pointer (some ⟨w.heap.size,0,none⟩)])).run Tryz.prog Wa = .ok () Wb:=ub
   have uc':(Instr.mapUpdate 186 (.map (some W1.heap.size)) (.int .u8 3) (.func (.func 124) #[] #[.pointer (some ⟨w.heap.size,0,none⟩)])).run Tryz.prog Wb = .ok () Wc:=uc
   clear ua ub uc
   go_wp2_with fail
   refine HK.out.mono ?_
   rintro r W2 ⟨rfl,hx2⟩
   have hL:=(za3 (P:=Tryz.prog) (t:=186) (z:=none) Tryz.underlying186 keyOk8 (zuq w.heap.size) (HC.out.ext hx2) (zaj ek)).2
   have HB2:=Lib.hid (hb1.ext (HXC.out.trans hx2))
   have HX2:=Lib.hid (hX1.trans (HXC.out.trans hx2))
   generalize hkk:zaj ek=kk at *
   have hL':(Instr.lookup 186 (.map (some W1.heap.size)) (U8 kk) true).run Tryz.prog W2 = .ok (.tuple #[mayV w.heap.size (getL none (putL (putL (putL [] 1 (some 118)) 2 (some 121)) 3 (some 124)) kk),.bool (decide (kk ∈ [1,2,3]))]) W2:=hL
   clear hL
   rcases (show kk=1 ∨ kk=2 ∨ kk=3 ∨ (kk ≠ 1∧kk ≠ 2∧kk ≠ 3) by omega) with h1 | h1 | h1 | ⟨h1,h2,h3⟩
   ·subst h1
    have hl:(Instr.lookup 186 (.map (some W1.heap.size)) (U8 1) true).run Tryz.prog W2 = .ok (.tuple #[.func (.func 118) #[] #[.pointer (some ⟨w.heap.size,0,none⟩)],.bool true]) W2:=hL'
    have HR2:=Lib.hid (show R=may1 ⟨ek,m :: es,ec,ei,(x1,x2,x3)⟩ by rw [HR.out];rfl)
    clear hL' hkk HR
    have HT:=Lib.hid (zsr HB2.out (H.out.ext HX2.out))
    go_wp2_with fail
    refine HT.out.mono ?_
    rintro r W3 ⟨rfl,hx3⟩
    have HX3:=Lib.hid (HX2.out.trans hx3)
    clear hx3
    go_wp2_with fail
    go_ret
    exact⟨by rw [HR2.out];rfl,HX3.out⟩
   ·subst h1
    have hl:(Instr.lookup 186 (.map (some W1.heap.size)) (U8 2) true).run Tryz.prog W2 = .ok (.tuple #[.func (.func 121) #[] #[.pointer (some ⟨w.heap.size,0,none⟩)],.bool true]) W2:=hL'
    have HR2:=Lib.hid (show R=may2 ⟨ek,m :: es,ec,ei,(x1,x2,x3)⟩ by rw [HR.out];rfl)
    clear hL' hkk HR
    have HT:=Lib.hid (zss hl40 HB2.out (H.out.ext HX2.out))
    go_wp2_with fail
    refine HT.out.mono ?_
    rintro r W3 ⟨rfl,hx3⟩
    have HX3:=Lib.hid (HX2.out.trans hx3)
    clear hx3
    go_wp2_with fail
    go_ret
    exact⟨by rw [HR2.out];rfl,HX3.out⟩
   ·subst h1
    have hl:(Instr.lookup 186 (.map (some W1.heap.size)) (U8 3) true).run Tryz.prog W2 = .ok (.tuple #[.func (.func 124) #[] #[.pointer (some ⟨w.heap.size,0,none⟩)],.bool true]) W2:=hL'
    have HR2:=Lib.hid (show R=may3 ⟨ek,m :: es,ec,ei,(x1,x2,x3)⟩ by rw [HR.out];rfl)
    clear hL' hkk HR
    have HT:=Lib.hid (zst HB2.out (H.out.ext HX2.out))
    go_wp2_with fail
    refine HT.out.mono ?_
    rintro r W3 ⟨rfl,hx3⟩
    have HX3:=Lib.hid (HX2.out.trans hx3)
    clear hx3
    go_wp2_with fail
    go_ret
    exact⟨by rw [HR2.out];rfl,HX3.out⟩
   ·have hl:(Instr.lookup 186 (.map (some W1.heap.size)) (U8 kk) true).run Tryz.prog W2 = .ok (.tuple #[.nilFunc,.bool false]) W2:=by
     rw [hL']
     have e1:(1 == kk)=false:=by simp;omega
     have e2:(kk == 1)=false:=by simp;omega
     have e3:(kk == 2)=false:=by simp;omega
     have e4:(kk == 3)=false:=by simp;omega
     simp [getL,putL,List.lookup,e2,e3,e4,h1,h2,h3,mayV]
    have HR2:=Lib.hid (show R=false by rw [HR.out,if_neg h1,if_neg h2,if_neg h3])
    clear hL' hkk HR
    go_wp2_with fail
    go_ret
    exact⟨by rw [HR2.out];rfl,HX2.out⟩
end
section
open Go.RowKit Go.Shelf
def zcs (all:List Mark):Option Str→List Entry→Bool
 | _,[]=>true
 | prev,e :: r=>mayE e && ((match prev with | none=>true | some k=>ltS k e.key) && (zar all e.seen && zcs all (some e.key) r))
def zcg (all:List Mark):Option Str→List Str→Bool
 | _,[]=>true
 | prev,p :: r=>!p.isEmpty && ((match prev with | none=>true | some k=>ltS k p) && (decide (ofM all p=0) && zcg all (some p) r))
def mayS (s:State):Bool:=mayM s.all && (zcs s.all none s.entries && zcg s.all none s.pruned)
theorem zgj {S:Nat→Prop} {s:State} {v1 v2 v3:Value} {w:World} (h:StAt w S s v1 v2 v3) (sm:SmallS s) :
  Calls Tryz.prog 20 #[stV v1 v2 v3] w fun r w'=>r = .returned (.bool (mayS s))∧Ext w w':=by
 obtain⟨sa,se,sp⟩:=s
 obtain⟨A1,n1,rfl,-,-⟩:=h.all.form
 obtain⟨A2,n2,rfl,-,-⟩:=h.entries.form
 obtain⟨A3,n3,rfl,-,-⟩:=h.pruned.form
 have h':=h.entries
 have h'':=h.pruned
 have HAT:=Lib.hid (fun (pre post:List Entry) (m:Entry) (wr:World) (hx:Ext w wr) (hl:se=pre++m :: post)=>zb0 h' hx hl)
 have HPT:=Lib.hid (fun (pre post:List Str) (m:Str) (wr:World) (hx:Ext w wr) (hl:sp=pre++m :: post)=>ze0 h'' hx hl)
 have H:=Lib.hid h
 have SM:=Lib.hid sm
 have hx0:=(Ext.refl w).alloc (.cells #[.slice A1 sa.length n1,.slice A2 se.length n2,.slice A3 sp.length n3] 30)
 have rB0:=zac w 30 [.slice A1 sa.length n1,.slice A2 se.length n2,.slice A3 sp.length n3]
 have H1:=Lib.hid (zn5 (h.all.ext (by decide) hx0))
 have HM:=Lib.hid (show mayS ⟨sa,se,sp⟩=(mayM sa && (zcs sa none se && zcg sa none sp)) from rfl)
 have hsa:sa.length≤549755813888:=sm.all
 have hse:se.length≤549755813888:=sm.entries
 have hsp:sp.length≤549755813888:=sm.pruned
 clear h h' h'' sm
 go_enter Tryz.func20,Tryz.ntmps20
 go_wp2_with fail
 generalize w.alloc (.cells #[.slice A1 sa.length n1,.slice A2 se.length n2,.slice A3 sp.length n3] 30)=W0 at *
 refine H1.out.mono ?_
 rintro r W1 ⟨rfl,hx1⟩
 have rB:=rB0.ext hx1
 have hxw:=hx0.trans hx1
 have b1:=rB.cell (j:=1) rfl
 have hbl:=rB.lt
 clear rB0 hx0 hx1 H1
 cases hm:mayM sa with
 | false =>
  have HR:=Lib.hid (show mayS ⟨sa,se,sp⟩=false by rw [HM.out,hm];rfl)
  have HX:=Lib.hid hxw
  clear hxw rB HM
  go_wp2_with fail
  go_ret
  exact⟨by rw [HR.out];rfl,HX.out⟩
 | true =>
  have HM2:=Lib.hid (show mayS ⟨sa,se,sp⟩=(zcs sa none se && zcg sa none sp) by rw [HM.out,hm];rfl)
  have HB1:=Lib.hid rB
  have HX1:=Lib.hid hxw
  clear hm HM rB hxw
  go_wp2_with fail
  go_loopw [14] (fun i wr=>∃ pre post,se=pre++post∧i=I pre.length∧Hid (zcs sa none se=zcs sa (pre.getLast?.map (·.key)) post)∧Hid (RowIs wr w.heap.size 30 [.slice A1 sa.length n1,.slice A2 se.length n2,.slice A3 sp.length n3] [])∧Ext w wr) (fun i _=>se.length - (intOf i).toNat)
  case atStart=>exact⟨[],se,rfl,rfl,Lib.hid rfl,HB1,HX1.out⟩
  case round =>
   obtain⟨pre,post,hl,rfl,hme,hrow,hx⟩:=hrel
   cases post with
   | cons m post =>
    obtain⟨b,o,a1,a2,a3,rfl,e0,e1,e2,e3,e4,e5,e6,hEA⟩:=HAT.out pre post m wr hx hl
    obtain⟨C1,c1,rfl,-,-⟩:=hEA.seen.form
    obtain⟨C2,c2,rfl,-,-⟩:=hEA.counts.form
    obtain⟨C3,c3,rfl,-,-⟩:=hEA.items.form
    have hlt:pre.length < se.length:=by rw [hl];simp
    have HL:=Lib.hid hl
    have hsm:SmallE m:=SM.out.each m (by show m ∈ se;rw [hl];simp)
    have hxb:=(Ext.refl wr).alloc (.cells #[St m.key,.slice C1 m.seen.length c1,.slice C2 m.counts.length c2,.slice C3 m.items.length c3,U m.cell.1,St m.cell.2.1,.bool m.cell.2.2] 37)
    have rb:=zac wr 37 [St m.key,.slice C1 m.seen.length c1,.slice C2 m.counts.length c2,.slice C3 m.items.length c3,U m.cell.1,St m.cell.2.1,.bool m.cell.2.2]
    have hprev:(pre.length=0∧pre.getLast?.map (·.key)=none) ∨ (0 < pre.length∧∃ q:Entry,pre.getLast?.map (·.key)=some q.key∧wr.cell? ⟨b,o+(pre.length - 1) * 7,none⟩=some (St q.key)):=by
     rcases Nat.eq_zero_or_pos pre.length with h0 | h0
     ·exact .inl ⟨h0,by rw [List.eq_nil_of_length_eq_zero h0];rfl⟩
     ·obtain⟨p',q,f1,f2,f3⟩:=zft h0
      obtain⟨b',o',_,_,_,e,q0,-⟩:=HAT.out p' (m :: post) q wr hx (by rw [hl,f1];simp)
      cases e
      rw [f3] at q0
      exact .inr ⟨h0,q,by rw [f2];rfl,q0⟩
    have hEA2:=(hEA.ext hx).ext hxb
    have HB:=Lib.hid (hrow.out.ext hxb)
    have hxwb:=hx.trans hxb
    have HME:=Lib.hid (show zcs sa none se=(mayE m && ((match pre.getLast?.map (·.key) with | none=>true | some k=>ltS k m.key) && (zar sa m.seen && zcs sa (some m.key) post))) from hme.out)
    clear hl hEA hme hrow hx
    go_wp2_with fail
    generalize hWb:wr.alloc (.cells #[St m.key,.slice C1 m.seen.length c1,.slice C2 m.counts.length c2,.slice C3 m.items.length c3,U m.cell.1,St m.cell.2.1,.bool m.cell.2.2] 37)=Wb at *
    have hprev2:(pre.length=0∧pre.getLast?.map (·.key)=none) ∨ (0 < pre.length∧∃ q:Entry,pre.getLast?.map (·.key)=some q.key∧Wb.cell? ⟨b,o+(pre.length - 1) * 7,none⟩=some (St q.key)):=by
     rcases hprev with h | ⟨h0,q,h1,h2⟩
     ·exact .inl h
     ·exact .inr ⟨h0,q,h1,hxb.cell h2⟩
    have HSA:=Lib.hid (H.out.all.ext (by decide) hxwb)
    clear hWb hprev hxb e0 e1 e2 e3 e4 e5 e6
    have HXB:=Lib.hid hxwb
    clear hxwb
    cases hb:mayE m with
    | false =>
     have HRF:=Lib.hid (show mayS ⟨sa,se,sp⟩=false by rw [HM2.out,HME.out,hb];rfl)
     refine za9 [fun v _=>v=entV m (.slice C1 m.seen.length c1) (.slice C2 m.counts.length c2) (.slice C3 m.items.length c3),
   fun v _=>v = .bool false,
   fun v _=>v = .bool true,
   fun v _=>v = .bool true,
   fun v _=>v = .tuple #[],
   fun v _=>v = .tuple #[],
   fun v _=>v = .tuple #[],
   fun v _=>v = .tuple #[],
   fun v _=>v = .tuple #[],
   fun v _=>v = .tuple #[],
   fun v _=>v = .tuple #[],
   fun v _=>v = .tuple #[],
   fun v _=>v = .tuple #[],
   fun v _=>v = .tuple #[],
   fun v _=>v = .tuple #[],
   fun v _=>v = .tuple #[],
   fun v _=>v = .tuple #[],
   fun v _=>v = .tuple #[],
   fun v _=>v = .bool true,
   fun v _=>v = .bool true,
   fun v _=>v = .tuple #[],
   fun v _=>v = .tuple #[],
   fun v _=>v = .tuple #[],
   fun v _=>v = .tuple #[],
   fun v _=>v = .tuple #[],
   fun v _=>v = .tuple #[]] rfl (by kernel_rfl) ?hR ?hstep ?hend
     case hR =>
      simp only [List.mem_cons,List.not_mem_nil,or_false,forall_eq_or_imp,forall_eq]
      exact⟨fun v _ _ h _=>h,fun v _ _ h _=>h,fun v _ _ h _=>h,fun v _ _ h _=>h,fun v _ _ h _=>h,fun v _ _ h _=>h,fun v _ _ h _=>h,fun v _ _ h _=>h,fun v _ _ h _=>h,fun v _ _ h _=>h,fun v _ _ h _=>h,fun v _ _ h _=>h,fun v _ _ h _=>h,fun v _ _ h _=>h,fun v _ _ h _=>h,fun v _ _ h _=>h,fun v _ _ h _=>h,fun v _ _ h _=>h,fun v _ _ h _=>h,fun v _ _ h _=>h,fun v _ _ h _=>h,fun v _ _ h _=>h,fun v _ _ h _=>h,fun v _ _ h _=>h,fun v _ _ h _=>h,fun v _ _ h _=>h⟩
     case hstep =>
      simp only [List.length_cons,List.length_nil,Nat.reduceAdd,List.take_succ_cons,List.take_zero,zb1,and_true]
      refine ⟨?_,?_,?_,?_,?_,?_,?_,?_,?_,?_,?_,?_,?_,?_,?_,?_,?_,?_,?_,?_,?_,?_,?_,?_,?_,?_⟩
      ·intro x W he f
       have h0:x 4 = .pointer (some ⟨wr.heap.size,0,none⟩):=f.1
       have q0:=(rb.ext he).cell (j:=0) rfl
       have q1:=(rb.ext he).cell (j:=1) rfl
       have q2:=(rb.ext he).cell (j:=2) rfl
       have q3:=(rb.ext he).cell (j:=3) rfl
       have q4:=(rb.ext he).cell (j:=4) rfl
       have q5:=(rb.ext he).cell (j:=5) rfl
       have q6:=(rb.ext he).cell (j:=6) rfl
       go_wp
       exact zaa rfl (Ext.refl _)
      ·intro x W he f
       have h0:x 19=entV m (.slice C1 m.seen.length c1) (.slice C2 m.counts.length c2) (.slice C3 m.items.length c3):=f.1
       have HC:=Lib.hid (zhp (hEA2.ext he) (Nat.le_trans hsm.items (by decide)))
       rw [hb] at HC
       go_wp
       refine HC.out.mono ?_
       rintro r W2 ⟨rfl,hx2⟩
       dsimp only
       go_wp
       exact zaa rfl hx2
      ·intro x W he f
       have h0:x 20 = .bool false:=f.1
       go_wp
       exact zaa rfl (Ext.refl _)
      ·intro x W he f
       have h0:x 21 = .bool true:=f.1
       go_wp
       exact zaa rfl (Ext.refl _)
      ·intro x W he f
       have h0:x 3=I pre.length:=f.1
       have h1:x 22 = .bool true:=f.2.1
       go_wp
       exact zaa rfl (Ext.refl _)
      ·intro x W he f
       have h0:x 23 = .tuple #[]:=f.1
       have h1:x 22 = .bool true:=f.2.1
       go_wp
       exact zaa rfl (Ext.refl _)
      ·intro x W he f
       have h0:x 24 = .tuple #[]:=f.1
       have h1:x 22 = .bool true:=f.2.1
       go_wp
       exact zaa rfl (Ext.refl _)
      ·intro x W he f
       have h0:x 1 = .pointer (some ⟨w.heap.size,0,none⟩):=f.1
       have h1:x 25 = .tuple #[]:=f.2.1
       go_wp
       exact zaa rfl (Ext.refl _)
      ·intro x W he f
       have h0:x 26 = .tuple #[]:=f.1
       have h1:x 25 = .tuple #[]:=f.2.1
       have c1:=(HB.out.ext he).cell (j:=1) rfl
       go_wp
       exact zaa rfl (Ext.refl _)
      ·intro x W he f
       have h0:x 3=I pre.length:=f.1
       have h1:x 25 = .tuple #[]:=f.2.1
       go_wp
       exact zaa rfl (Ext.refl _)
      ·intro x W he f
       have h0:x 28 = .tuple #[]:=f.1
       have h1:x 25 = .tuple #[]:=f.2.1
       go_wp
       exact zaa rfl (Ext.refl _)
      ·intro x W he f
       have h0:x 27 = .tuple #[]:=f.1
       have h1:x 29 = .tuple #[]:=f.2.1
       have h2:x 25 = .tuple #[]:=f.2.2.1
       go_wp
       exact zaa rfl (Ext.refl _)
      ·intro x W he f
       have h0:x 30 = .tuple #[]:=f.1
       have h1:x 25 = .tuple #[]:=f.2.1
       go_wp
       exact zaa rfl (Ext.refl _)
      ·intro x W he f
       have h0:x 31 = .tuple #[]:=f.1
       have h1:x 25 = .tuple #[]:=f.2.1
       go_wp
       exact zaa rfl (Ext.refl _)
      ·intro x W he f
       have h0:x 4 = .pointer (some ⟨wr.heap.size,0,none⟩):=f.1
       have h1:x 25 = .tuple #[]:=f.2.1
       go_wp
       exact zaa rfl (Ext.refl _)
      ·intro x W he f
       have h0:x 33 = .tuple #[]:=f.1
       have h1:x 25 = .tuple #[]:=f.2.1
       have q0:=(rb.ext he).cell (j:=0) rfl
       go_wp
       exact zaa rfl (Ext.refl _)
      ·intro x W he f
       have h0:x 32 = .tuple #[]:=f.1
       have h1:x 34 = .tuple #[]:=f.2.1
       have h2:x 25 = .tuple #[]:=f.2.2.1
       go_wp
       exact zaa rfl (Ext.refl _)
      ·intro x W he f
       have h0:x 25 = .tuple #[]:=f.1
       have h1:x 35 = .tuple #[]:=f.2.1
       have h2:x 22 = .bool true:=f.2.2.1
       go_wp
       exact zaa rfl (Ext.refl _)
      ·intro x W he f
       have h0:x 22 = .bool true:=f.1
       have h1:x 36 = .tuple #[]:=f.2.1
       go_wp
       exact zaa rfl (Ext.refl _)
      ·intro x W he f
       have h0:x 37 = .bool true:=f.1
       go_wp
       exact zaa rfl (Ext.refl _)
      ·intro x W he f
       have h0:x 1 = .pointer (some ⟨w.heap.size,0,none⟩):=f.1
       have h1:x 38 = .bool true:=f.2.1
       go_wp
       exact zaa rfl (Ext.refl _)
      ·intro x W he f
       have h0:x 39 = .tuple #[]:=f.1
       have h1:x 38 = .bool true:=f.2.1
       have c1:=(HB.out.ext he).cell (j:=0) rfl
       go_wp
       exact zaa rfl (Ext.refl _)
      ·intro x W he f
       have h0:x 4 = .pointer (some ⟨wr.heap.size,0,none⟩):=f.1
       have h1:x 38 = .bool true:=f.2.1
       go_wp
       exact zaa rfl (Ext.refl _)
      ·intro x W he f
       have h0:x 41 = .tuple #[]:=f.1
       have h1:x 38 = .bool true:=f.2.1
       have q1:=(rb.ext he).cell (j:=1) rfl
       go_wp
       exact zaa rfl (Ext.refl _)
      ·intro x W he f
       have h0:x 40 = .tuple #[]:=f.1
       have h1:x 42 = .tuple #[]:=f.2.1
       have h2:x 38 = .bool true:=f.2.2.1
       go_wp
       exact zaa rfl (Ext.refl _)
      ·intro x W he f
       have h0:x 43 = .tuple #[]:=f.1
       have h1:x 38 = .bool true:=f.2.1
       go_wp
       exact zaa rfl (Ext.refl _)
     case hend =>
      intro x W he f
      have h38:x 38 = .bool true:=f.2.2.2.2.2.2.2.2.2.2.2.2.2.2.2.2.2.2.2.1
      clear f
      have HX:=Lib.hid (HXB.out.trans he)
      have HBW:=Lib.hid (HB.out.ext he)
      simp only [List.length_cons,List.length_nil,Nat.reduceAdd,List.take_succ_cons,List.take_zero,List.filterMap_cons,List.filterMap_nil,List.drop_succ_cons,List.drop_zero,zaz,Act.put,List.setIfInBounds_toArray,List.set_cons_succ,List.set_cons_zero,h38]
      clear he
      go_wp
      go_wp2_with fail
      go_ret
      exact⟨by rw [HRF.out];rfl,HX.out⟩
    | true =>
     rw [hb] at HME
     rcases hprev2 with ⟨h0,hp⟩ | ⟨h0,q,hp,hq0⟩
     ·rw [hp] at HME
      have hz:(pre.length:Int)=0:=by omega
      have hz2:I (pre.length:Int)=I 0:=by rw [hz]
      refine za9 [fun v _=>v=entV m (.slice C1 m.seen.length c1) (.slice C2 m.counts.length c2) (.slice C3 m.items.length c3),
   fun v _=>v = .bool true,
   fun v _=>v = .bool false,
   fun v _=>v = .bool false,
   fun v _=>v=I 0,
   fun v _=>v = .bool false,
   fun v _=>v = .bool false,
   fun v _=>v = .tuple #[],
   fun v _=>v = .tuple #[],
   fun v _=>v = .tuple #[],
   fun v _=>v = .tuple #[],
   fun v _=>v = .tuple #[],
   fun v _=>v = .tuple #[],
   fun v _=>v = .tuple #[],
   fun v _=>v = .tuple #[],
   fun v _=>v = .tuple #[],
   fun v _=>v = .tuple #[],
   fun v _=>v = .bool false,
   fun v _=>v = .bool false,
   fun v _=>v = .bool false,
   fun v _=>v = .pointer (some ⟨w.heap.size,0,none⟩),
   fun v _=>v = .slice A1 sa.length n1,
   fun v _=>v = .pointer (some ⟨wr.heap.size,1,none⟩),
   fun v _=>v = .slice C1 m.seen.length c1,
   fun v _=>v = .bool (zar sa m.seen),
   fun v _=>v = .bool (!zar sa m.seen)] rfl (by kernel_rfl) ?hR ?hstep ?hend
      case hR =>
       simp only [List.mem_cons,List.not_mem_nil,or_false,forall_eq_or_imp,forall_eq]
       exact⟨fun v _ _ h _=>h,fun v _ _ h _=>h,fun v _ _ h _=>h,fun v _ _ h _=>h,fun v _ _ h _=>h,fun v _ _ h _=>h,fun v _ _ h _=>h,fun v _ _ h _=>h,fun v _ _ h _=>h,fun v _ _ h _=>h,fun v _ _ h _=>h,fun v _ _ h _=>h,fun v _ _ h _=>h,fun v _ _ h _=>h,fun v _ _ h _=>h,fun v _ _ h _=>h,fun v _ _ h _=>h,fun v _ _ h _=>h,fun v _ _ h _=>h,fun v _ _ h _=>h,fun v _ _ h _=>h,fun v _ _ h _=>h,fun v _ _ h _=>h,fun v _ _ h _=>h,fun v _ _ h _=>h,fun v _ _ h _=>h⟩
      case hstep =>
       simp only [List.length_cons,List.length_nil,Nat.reduceAdd,List.take_succ_cons,List.take_zero,zb1,and_true]
       refine ⟨?_,?_,?_,?_,?_,?_,?_,?_,?_,?_,?_,?_,?_,?_,?_,?_,?_,?_,?_,?_,?_,?_,?_,?_,?_,?_⟩
       ·intro x W he f
        have h0:x 4 = .pointer (some ⟨wr.heap.size,0,none⟩):=f.1
        have q0:=(rb.ext he).cell (j:=0) rfl
        have q1:=(rb.ext he).cell (j:=1) rfl
        have q2:=(rb.ext he).cell (j:=2) rfl
        have q3:=(rb.ext he).cell (j:=3) rfl
        have q4:=(rb.ext he).cell (j:=4) rfl
        have q5:=(rb.ext he).cell (j:=5) rfl
        have q6:=(rb.ext he).cell (j:=6) rfl
        go_wp
        exact zaa rfl (Ext.refl _)
       ·intro x W he f
        have h0:x 19=entV m (.slice C1 m.seen.length c1) (.slice C2 m.counts.length c2) (.slice C3 m.items.length c3):=f.1
        have HC:=Lib.hid (zhp (hEA2.ext he) (Nat.le_trans hsm.items (by decide)))
        rw [hb] at HC
        go_wp
        refine HC.out.mono ?_
        rintro r W2 ⟨rfl,hx2⟩
        dsimp only
        go_wp
        exact zaa rfl hx2
       ·intro x W he f
        have h0:x 20 = .bool true:=f.1
        go_wp
        exact zaa rfl (Ext.refl _)
       ·intro x W he f
        have h0:x 21 = .bool false:=f.1
        go_wp
        exact zaa rfl (Ext.refl _)
       ·intro x W he f
        have h0:x 3=I pre.length:=f.1
        have h1:x 22 = .bool false:=f.2.1
        go_wp
        exact zaa rfl (Ext.refl _)
       ·intro x W he f
        have h0:x 23=I 0:=f.1
        have h1:x 22 = .bool false:=f.2.1
        go_wp
        exact zaa rfl (Ext.refl _)
       ·intro x W he f
        have h0:x 24 = .bool false:=f.1
        have h1:x 22 = .bool false:=f.2.1
        go_wp
        exact zaa rfl (Ext.refl _)
       ·intro x W he f
        have h0:x 1 = .pointer (some ⟨w.heap.size,0,none⟩):=f.1
        have h1:x 25 = .bool false:=f.2.1
        go_wp
        exact zaa rfl (Ext.refl _)
       ·intro x W he f
        have h0:x 26 = .tuple #[]:=f.1
        have h1:x 25 = .bool false:=f.2.1
        have c1:=(HB.out.ext he).cell (j:=1) rfl
        go_wp
        exact zaa rfl (Ext.refl _)
       ·intro x W he f
        have h0:x 3=I pre.length:=f.1
        have h1:x 25 = .bool false:=f.2.1
        go_wp
        exact zaa rfl (Ext.refl _)
       ·intro x W he f
        have h0:x 28 = .tuple #[]:=f.1
        have h1:x 25 = .bool false:=f.2.1
        go_wp
        exact zaa rfl (Ext.refl _)
       ·intro x W he f
        have h0:x 27 = .tuple #[]:=f.1
        have h1:x 29 = .tuple #[]:=f.2.1
        have h2:x 25 = .bool false:=f.2.2.1
        go_wp
        exact zaa rfl (Ext.refl _)
       ·intro x W he f
        have h0:x 30 = .tuple #[]:=f.1
        have h1:x 25 = .bool false:=f.2.1
        go_wp
        exact zaa rfl (Ext.refl _)
       ·intro x W he f
        have h0:x 31 = .tuple #[]:=f.1
        have h1:x 25 = .bool false:=f.2.1
        go_wp
        exact zaa rfl (Ext.refl _)
       ·intro x W he f
        have h0:x 4 = .pointer (some ⟨wr.heap.size,0,none⟩):=f.1
        have h1:x 25 = .bool false:=f.2.1
        go_wp
        exact zaa rfl (Ext.refl _)
       ·intro x W he f
        have h0:x 33 = .tuple #[]:=f.1
        have h1:x 25 = .bool false:=f.2.1
        have q0:=(rb.ext he).cell (j:=0) rfl
        go_wp
        exact zaa rfl (Ext.refl _)
       ·intro x W he f
        have h0:x 32 = .tuple #[]:=f.1
        have h1:x 34 = .tuple #[]:=f.2.1
        have h2:x 25 = .bool false:=f.2.2.1
        go_wp
        exact zaa rfl (Ext.refl _)
       ·intro x W he f
        have h0:x 25 = .bool false:=f.1
        have h1:x 35 = .tuple #[]:=f.2.1
        have h2:x 22 = .bool false:=f.2.2.1
        go_wp
        exact zaa rfl (Ext.refl _)
       ·intro x W he f
        have h0:x 22 = .bool false:=f.1
        have h1:x 36 = .bool false:=f.2.1
        go_wp
        exact zaa rfl (Ext.refl _)
       ·intro x W he f
        have h0:x 37 = .bool false:=f.1
        go_wp
        exact zaa rfl (Ext.refl _)
       ·intro x W he f
        have h0:x 1 = .pointer (some ⟨w.heap.size,0,none⟩):=f.1
        have h1:x 38 = .bool false:=f.2.1
        go_wp
        exact zaa rfl (Ext.refl _)
       ·intro x W he f
        have h0:x 39 = .pointer (some ⟨w.heap.size,0,none⟩):=f.1
        have h1:x 38 = .bool false:=f.2.1
        have c1:=(HB.out.ext he).cell (j:=0) rfl
        go_wp
        exact zaa rfl (Ext.refl _)
       ·intro x W he f
        have h0:x 4 = .pointer (some ⟨wr.heap.size,0,none⟩):=f.1
        have h1:x 38 = .bool false:=f.2.1
        go_wp
        exact zaa rfl (Ext.refl _)
       ·intro x W he f
        have h0:x 41 = .pointer (some ⟨wr.heap.size,1,none⟩):=f.1
        have h1:x 38 = .bool false:=f.2.1
        have q1:=(rb.ext he).cell (j:=1) rfl
        go_wp
        exact zaa rfl (Ext.refl _)
       ·intro x W he f
        have h0:x 40 = .slice A1 sa.length n1:=f.1
        have h1:x 42 = .slice C1 m.seen.length c1:=f.2.1
        have h2:x 38 = .bool false:=f.2.2.1
        have HC:=Lib.hid (zfo (HSA.out.ext (by decide) he) (hEA2.seen.ext (by decide) he) (Nat.le_trans hsa (by decide)) (Nat.le_trans hsm.seen (by decide)))
        go_wp
        refine HC.out.mono ?_
        rintro r W2 ⟨rfl,hx2⟩
        dsimp only
        go_wp
        exact zaa rfl hx2
       ·intro x W he f
        have h0:x 43 = .bool (zar sa m.seen):=f.1
        have h1:x 38 = .bool false:=f.2.1
        go_wp
        exact zaa rfl (Ext.refl _)
      case hend =>
       intro x W he f
       have h38:x 38 = .bool false:=f.2.2.2.2.2.2.2.2.2.2.2.2.2.2.2.2.2.2.2.1
       have h44:x 44 = .bool (!zar sa m.seen):=f.2.2.2.2.2.2.2.2.2.2.2.2.2.2.2.2.2.2.2.2.2.2.2.2.2.1
       clear f
       have HX:=Lib.hid (HXB.out.trans he)
       have HBW:=Lib.hid (HB.out.ext he)
       simp only [List.length_cons,List.length_nil,Nat.reduceAdd,List.take_succ_cons,List.take_zero,List.filterMap_cons,List.filterMap_nil,List.drop_succ_cons,List.drop_zero,zaz,Act.put,List.setIfInBounds_toArray,List.set_cons_succ,List.set_cons_zero,h38,h44]
       cases hc:zar sa m.seen with
       | false =>
        have HRF:=Lib.hid (show mayS ⟨sa,se,sp⟩=false by rw [HM2.out,HME.out,hc];rfl)
        clear he
        go_wp
        go_wp2_with fail
        go_ret
        exact⟨by rw [HRF.out];rfl,HX.out⟩
       | true =>
        have HN:=Lib.hid (show zcs sa none se=zcs sa ((pre++[m]).getLast?.map (·.key)) post by rw [HME.out,hc];simp)
        clear he
        go_wp
        go_wp2_with fail
        go_roundw
        case rel=>exact⟨pre++[m],post,by rw [HL.out];simp,by simp <;> omega,HN,HBW,HX.out⟩
        case measure=>simp [intOf];omega
     ·rw [hp] at HME
      have k4:=zez h0 (by omega)
      have k5:((pre.length - 1:Nat):Int) < (se.length:Int):=by omega
      have k6:(0:Int)≤((pre.length - 1:Nat):Int):=by omega
      have k7:(((pre.length - 1:Nat):Int)).toNat=pre.length - 1:=by omega
      have k8:(0:Int) < (pre.length:Int):=by omega
      cases hlt2:ltS q.key m.key with
      | false =>
       have HRF:=Lib.hid (show mayS ⟨sa,se,sp⟩=false by rw [HM2.out,HME.out];simp only [hlt2];rfl)
       refine za9 [fun v _=>v=entV m (.slice C1 m.seen.length c1) (.slice C2 m.counts.length c2) (.slice C3 m.items.length c3),
   fun v _=>v = .bool true,
   fun v _=>v = .bool false,
   fun v _=>v = .bool false,
   fun v _=>v=I pre.length,
   fun v _=>v = .bool true,
   fun v _=>v = .bool true,
   fun v _=>v = .pointer (some ⟨w.heap.size,1,none⟩),
   fun v _=>v = .slice (some ⟨b,o,none⟩) se.length n2,
   fun v _=>v=I pre.length,
   fun v _=>v=I ((pre.length - 1:Nat):Int),
   fun v _=>v = .pointer (some ⟨b,o+(pre.length - 1) * 7,none⟩),
   fun v _=>v = .pointer (some ⟨b,o+(pre.length - 1) * 7,none⟩),
   fun v _=>v=St q.key,
   fun v _=>v = .pointer (some ⟨wr.heap.size,0,none⟩),
   fun v _=>v=St m.key,
   fun v _=>v = .bool true,
   fun v _=>v = .bool true,
   fun v _=>v = .bool true,
   fun v _=>v = .bool true,
   fun v _=>v = .tuple #[],
   fun v _=>v = .tuple #[],
   fun v _=>v = .tuple #[],
   fun v _=>v = .tuple #[],
   fun v _=>v = .tuple #[],
   fun v _=>v = .tuple #[]] rfl (by kernel_rfl) ?hR ?hstep ?hend
       case hR =>
        simp only [List.mem_cons,List.not_mem_nil,or_false,forall_eq_or_imp,forall_eq]
        exact⟨fun v _ _ h _=>h,fun v _ _ h _=>h,fun v _ _ h _=>h,fun v _ _ h _=>h,fun v _ _ h _=>h,fun v _ _ h _=>h,fun v _ _ h _=>h,fun v _ _ h _=>h,fun v _ _ h _=>h,fun v _ _ h _=>h,fun v _ _ h _=>h,fun v _ _ h _=>h,fun v _ _ h _=>h,fun v _ _ h _=>h,fun v _ _ h _=>h,fun v _ _ h _=>h,fun v _ _ h _=>h,fun v _ _ h _=>h,fun v _ _ h _=>h,fun v _ _ h _=>h,fun v _ _ h _=>h,fun v _ _ h _=>h,fun v _ _ h _=>h,fun v _ _ h _=>h,fun v _ _ h _=>h,fun v _ _ h _=>h⟩
       case hstep =>
        simp only [List.length_cons,List.length_nil,Nat.reduceAdd,List.take_succ_cons,List.take_zero,zb1,and_true]
        refine ⟨?_,?_,?_,?_,?_,?_,?_,?_,?_,?_,?_,?_,?_,?_,?_,?_,?_,?_,?_,?_,?_,?_,?_,?_,?_,?_⟩
        ·intro x W he f
         have h0:x 4 = .pointer (some ⟨wr.heap.size,0,none⟩):=f.1
         have q0:=(rb.ext he).cell (j:=0) rfl
         have q1:=(rb.ext he).cell (j:=1) rfl
         have q2:=(rb.ext he).cell (j:=2) rfl
         have q3:=(rb.ext he).cell (j:=3) rfl
         have q4:=(rb.ext he).cell (j:=4) rfl
         have q5:=(rb.ext he).cell (j:=5) rfl
         have q6:=(rb.ext he).cell (j:=6) rfl
         go_wp
         exact zaa rfl (Ext.refl _)
        ·intro x W he f
         have h0:x 19=entV m (.slice C1 m.seen.length c1) (.slice C2 m.counts.length c2) (.slice C3 m.items.length c3):=f.1
         have HC:=Lib.hid (zhp (hEA2.ext he) (Nat.le_trans hsm.items (by decide)))
         rw [hb] at HC
         go_wp
         refine HC.out.mono ?_
         rintro r W2 ⟨rfl,hx2⟩
         dsimp only
         go_wp
         exact zaa rfl hx2
        ·intro x W he f
         have h0:x 20 = .bool true:=f.1
         go_wp
         exact zaa rfl (Ext.refl _)
        ·intro x W he f
         have h0:x 21 = .bool false:=f.1
         go_wp
         exact zaa rfl (Ext.refl _)
        ·intro x W he f
         have h0:x 3=I pre.length:=f.1
         have h1:x 22 = .bool false:=f.2.1
         go_wp
         exact zaa rfl (Ext.refl _)
        ·intro x W he f
         have h0:x 23=I pre.length:=f.1
         have h1:x 22 = .bool false:=f.2.1
         go_wp
         exact zaa rfl (Ext.refl _)
        ·intro x W he f
         have h0:x 24 = .bool true:=f.1
         have h1:x 22 = .bool false:=f.2.1
         go_wp
         exact zaa rfl (Ext.refl _)
        ·intro x W he f
         have h0:x 1 = .pointer (some ⟨w.heap.size,0,none⟩):=f.1
         have h1:x 25 = .bool true:=f.2.1
         go_wp
         exact zaa rfl (Ext.refl _)
        ·intro x W he f
         have h0:x 26 = .pointer (some ⟨w.heap.size,1,none⟩):=f.1
         have h1:x 25 = .bool true:=f.2.1
         have c1:=(HB.out.ext he).cell (j:=1) rfl
         go_wp
         exact zaa rfl (Ext.refl _)
        ·intro x W he f
         have h0:x 3=I pre.length:=f.1
         have h1:x 25 = .bool true:=f.2.1
         go_wp
         exact zaa rfl (Ext.refl _)
        ·intro x W he f
         have h0:x 28=I pre.length:=f.1
         have h1:x 25 = .bool true:=f.2.1
         go_wp
         exact zaa rfl (Ext.refl _)
        ·intro x W he f
         have h0:x 27 = .slice (some ⟨b,o,none⟩) se.length n2:=f.1
         have h1:x 29=I ((pre.length - 1:Nat):Int):=f.2.1
         have h2:x 25 = .bool true:=f.2.2.1
         go_wp
         exact zaa rfl (Ext.refl _)
        ·intro x W he f
         have h0:x 30 = .pointer (some ⟨b,o+(pre.length - 1) * 7,none⟩):=f.1
         have h1:x 25 = .bool true:=f.2.1
         go_wp
         exact zaa rfl (Ext.refl _)
        ·intro x W he f
         have h0:x 31 = .pointer (some ⟨b,o+(pre.length - 1) * 7,none⟩):=f.1
         have h1:x 25 = .bool true:=f.2.1
         have c1:=he.cell hq0
         go_wp
         exact zaa rfl (Ext.refl _)
        ·intro x W he f
         have h0:x 4 = .pointer (some ⟨wr.heap.size,0,none⟩):=f.1
         have h1:x 25 = .bool true:=f.2.1
         go_wp
         exact zaa rfl (Ext.refl _)
        ·intro x W he f
         have h0:x 33 = .pointer (some ⟨wr.heap.size,0,none⟩):=f.1
         have h1:x 25 = .bool true:=f.2.1
         have q0:=(rb.ext he).cell (j:=0) rfl
         go_wp
         exact zaa rfl (Ext.refl _)
        ·intro x W he f
         have h0:x 32=St q.key:=f.1
         have h1:x 34=St m.key:=f.2.1
         have h2:x 25 = .bool true:=f.2.2.1
         go_wp
         exact zaa rfl (Ext.refl _)
        ·intro x W he f
         have h0:x 25 = .bool true:=f.1
         have h1:x 35 = .bool true:=f.2.1
         have h2:x 22 = .bool false:=f.2.2.1
         go_wp
         exact zaa rfl (Ext.refl _)
        ·intro x W he f
         have h0:x 22 = .bool false:=f.1
         have h1:x 36 = .bool true:=f.2.1
         go_wp
         exact zaa rfl (Ext.refl _)
        ·intro x W he f
         have h0:x 37 = .bool true:=f.1
         go_wp
         exact zaa rfl (Ext.refl _)
        ·intro x W he f
         have h0:x 1 = .pointer (some ⟨w.heap.size,0,none⟩):=f.1
         have h1:x 38 = .bool true:=f.2.1
         go_wp
         exact zaa rfl (Ext.refl _)
        ·intro x W he f
         have h0:x 39 = .tuple #[]:=f.1
         have h1:x 38 = .bool true:=f.2.1
         have c1:=(HB.out.ext he).cell (j:=0) rfl
         go_wp
         exact zaa rfl (Ext.refl _)
        ·intro x W he f
         have h0:x 4 = .pointer (some ⟨wr.heap.size,0,none⟩):=f.1
         have h1:x 38 = .bool true:=f.2.1
         go_wp
         exact zaa rfl (Ext.refl _)
        ·intro x W he f
         have h0:x 41 = .tuple #[]:=f.1
         have h1:x 38 = .bool true:=f.2.1
         have q1:=(rb.ext he).cell (j:=1) rfl
         go_wp
         exact zaa rfl (Ext.refl _)
        ·intro x W he f
         have h0:x 40 = .tuple #[]:=f.1
         have h1:x 42 = .tuple #[]:=f.2.1
         have h2:x 38 = .bool true:=f.2.2.1
         go_wp
         exact zaa rfl (Ext.refl _)
        ·intro x W he f
         have h0:x 43 = .tuple #[]:=f.1
         have h1:x 38 = .bool true:=f.2.1
         go_wp
         exact zaa rfl (Ext.refl _)
       case hend =>
        intro x W he f
        have h38:x 38 = .bool true:=f.2.2.2.2.2.2.2.2.2.2.2.2.2.2.2.2.2.2.2.1
        clear f
        have HX:=Lib.hid (HXB.out.trans he)
        have HBW:=Lib.hid (HB.out.ext he)
        simp only [List.length_cons,List.length_nil,Nat.reduceAdd,List.take_succ_cons,List.take_zero,List.filterMap_cons,List.filterMap_nil,List.drop_succ_cons,List.drop_zero,zaz,Act.put,List.setIfInBounds_toArray,List.set_cons_succ,List.set_cons_zero,h38]
        clear he
        go_wp
        go_wp2_with fail
        go_ret
        exact⟨by rw [HRF.out];rfl,HX.out⟩
      | true =>
       have HME2:=Lib.hid (show zcs sa none se=(zar sa m.seen && zcs sa (some m.key) post) by rw [HME.out];simp only [hlt2];rfl)
       refine za9 [fun v _=>v=entV m (.slice C1 m.seen.length c1) (.slice C2 m.counts.length c2) (.slice C3 m.items.length c3),
   fun v _=>v = .bool true,
   fun v _=>v = .bool false,
   fun v _=>v = .bool false,
   fun v _=>v=I pre.length,
   fun v _=>v = .bool true,
   fun v _=>v = .bool true,
   fun v _=>v = .pointer (some ⟨w.heap.size,1,none⟩),
   fun v _=>v = .slice (some ⟨b,o,none⟩) se.length n2,
   fun v _=>v=I pre.length,
   fun v _=>v=I ((pre.length - 1:Nat):Int),
   fun v _=>v = .pointer (some ⟨b,o+(pre.length - 1) * 7,none⟩),
   fun v _=>v = .pointer (some ⟨b,o+(pre.length - 1) * 7,none⟩),
   fun v _=>v=St q.key,
   fun v _=>v = .pointer (some ⟨wr.heap.size,0,none⟩),
   fun v _=>v=St m.key,
   fun v _=>v = .bool false,
   fun v _=>v = .bool false,
   fun v _=>v = .bool false,
   fun v _=>v = .bool false,
   fun v _=>v = .pointer (some ⟨w.heap.size,0,none⟩),
   fun v _=>v = .slice A1 sa.length n1,
   fun v _=>v = .pointer (some ⟨wr.heap.size,1,none⟩),
   fun v _=>v = .slice C1 m.seen.length c1,
   fun v _=>v = .bool (zar sa m.seen),
   fun v _=>v = .bool (!zar sa m.seen)] rfl (by kernel_rfl) ?hR ?hstep ?hend
       case hR =>
        simp only [List.mem_cons,List.not_mem_nil,or_false,forall_eq_or_imp,forall_eq]
        exact⟨fun v _ _ h _=>h,fun v _ _ h _=>h,fun v _ _ h _=>h,fun v _ _ h _=>h,fun v _ _ h _=>h,fun v _ _ h _=>h,fun v _ _ h _=>h,fun v _ _ h _=>h,fun v _ _ h _=>h,fun v _ _ h _=>h,fun v _ _ h _=>h,fun v _ _ h _=>h,fun v _ _ h _=>h,fun v _ _ h _=>h,fun v _ _ h _=>h,fun v _ _ h _=>h,fun v _ _ h _=>h,fun v _ _ h _=>h,fun v _ _ h _=>h,fun v _ _ h _=>h,fun v _ _ h _=>h,fun v _ _ h _=>h,fun v _ _ h _=>h,fun v _ _ h _=>h,fun v _ _ h _=>h,fun v _ _ h _=>h⟩
       case hstep =>
        simp only [List.length_cons,List.length_nil,Nat.reduceAdd,List.take_succ_cons,List.take_zero,zb1,and_true]
        refine ⟨?_,?_,?_,?_,?_,?_,?_,?_,?_,?_,?_,?_,?_,?_,?_,?_,?_,?_,?_,?_,?_,?_,?_,?_,?_,?_⟩
        ·intro x W he f
         have h0:x 4 = .pointer (some ⟨wr.heap.size,0,none⟩):=f.1
         have q0:=(rb.ext he).cell (j:=0) rfl
         have q1:=(rb.ext he).cell (j:=1) rfl
         have q2:=(rb.ext he).cell (j:=2) rfl
         have q3:=(rb.ext he).cell (j:=3) rfl
         have q4:=(rb.ext he).cell (j:=4) rfl
         have q5:=(rb.ext he).cell (j:=5) rfl
         have q6:=(rb.ext he).cell (j:=6) rfl
         go_wp
         exact zaa rfl (Ext.refl _)
        ·intro x W he f
         have h0:x 19=entV m (.slice C1 m.seen.length c1) (.slice C2 m.counts.length c2) (.slice C3 m.items.length c3):=f.1
         have HC:=Lib.hid (zhp (hEA2.ext he) (Nat.le_trans hsm.items (by decide)))
         rw [hb] at HC
         go_wp
         refine HC.out.mono ?_
         rintro r W2 ⟨rfl,hx2⟩
         dsimp only
         go_wp
         exact zaa rfl hx2
        ·intro x W he f
         have h0:x 20 = .bool true:=f.1
         go_wp
         exact zaa rfl (Ext.refl _)
        ·intro x W he f
         have h0:x 21 = .bool false:=f.1
         go_wp
         exact zaa rfl (Ext.refl _)
        ·intro x W he f
         have h0:x 3=I pre.length:=f.1
         have h1:x 22 = .bool false:=f.2.1
         go_wp
         exact zaa rfl (Ext.refl _)
        ·intro x W he f
         have h0:x 23=I pre.length:=f.1
         have h1:x 22 = .bool false:=f.2.1
         go_wp
         exact zaa rfl (Ext.refl _)
        ·intro x W he f
         have h0:x 24 = .bool true:=f.1
         have h1:x 22 = .bool false:=f.2.1
         go_wp
         exact zaa rfl (Ext.refl _)
        ·intro x W he f
         have h0:x 1 = .pointer (some ⟨w.heap.size,0,none⟩):=f.1
         have h1:x 25 = .bool true:=f.2.1
         go_wp
         exact zaa rfl (Ext.refl _)
        ·intro x W he f
         have h0:x 26 = .pointer (some ⟨w.heap.size,1,none⟩):=f.1
         have h1:x 25 = .bool true:=f.2.1
         have c1:=(HB.out.ext he).cell (j:=1) rfl
         go_wp
         exact zaa rfl (Ext.refl _)
        ·intro x W he f
         have h0:x 3=I pre.length:=f.1
         have h1:x 25 = .bool true:=f.2.1
         go_wp
         exact zaa rfl (Ext.refl _)
        ·intro x W he f
         have h0:x 28=I pre.length:=f.1
         have h1:x 25 = .bool true:=f.2.1
         go_wp
         exact zaa rfl (Ext.refl _)
        ·intro x W he f
         have h0:x 27 = .slice (some ⟨b,o,none⟩) se.length n2:=f.1
         have h1:x 29=I ((pre.length - 1:Nat):Int):=f.2.1
         have h2:x 25 = .bool true:=f.2.2.1
         go_wp
         exact zaa rfl (Ext.refl _)
        ·intro x W he f
         have h0:x 30 = .pointer (some ⟨b,o+(pre.length - 1) * 7,none⟩):=f.1
         have h1:x 25 = .bool true:=f.2.1
         go_wp
         exact zaa rfl (Ext.refl _)
        ·intro x W he f
         have h0:x 31 = .pointer (some ⟨b,o+(pre.length - 1) * 7,none⟩):=f.1
         have h1:x 25 = .bool true:=f.2.1
         have c1:=he.cell hq0
         go_wp
         exact zaa rfl (Ext.refl _)
        ·intro x W he f
         have h0:x 4 = .pointer (some ⟨wr.heap.size,0,none⟩):=f.1
         have h1:x 25 = .bool true:=f.2.1
         go_wp
         exact zaa rfl (Ext.refl _)
        ·intro x W he f
         have h0:x 33 = .pointer (some ⟨wr.heap.size,0,none⟩):=f.1
         have h1:x 25 = .bool true:=f.2.1
         have q0:=(rb.ext he).cell (j:=0) rfl
         go_wp
         exact zaa rfl (Ext.refl _)
        ·intro x W he f
         have h0:x 32=St q.key:=f.1
         have h1:x 34=St m.key:=f.2.1
         have h2:x 25 = .bool true:=f.2.2.1
         go_wp
         exact zaa rfl (Ext.refl _)
        ·intro x W he f
         have h0:x 25 = .bool true:=f.1
         have h1:x 35 = .bool false:=f.2.1
         have h2:x 22 = .bool false:=f.2.2.1
         go_wp
         exact zaa rfl (Ext.refl _)
        ·intro x W he f
         have h0:x 22 = .bool false:=f.1
         have h1:x 36 = .bool false:=f.2.1
         go_wp
         exact zaa rfl (Ext.refl _)
        ·intro x W he f
         have h0:x 37 = .bool false:=f.1
         go_wp
         exact zaa rfl (Ext.refl _)
        ·intro x W he f
         have h0:x 1 = .pointer (some ⟨w.heap.size,0,none⟩):=f.1
         have h1:x 38 = .bool false:=f.2.1
         go_wp
         exact zaa rfl (Ext.refl _)
        ·intro x W he f
         have h0:x 39 = .pointer (some ⟨w.heap.size,0,none⟩):=f.1
         have h1:x 38 = .bool false:=f.2.1
         have c1:=(HB.out.ext he).cell (j:=0) rfl
         go_wp
         exact zaa rfl (Ext.refl _)
        ·intro x W he f
         have h0:x 4 = .pointer (some ⟨wr.heap.size,0,none⟩):=f.1
         have h1:x 38 = .bool false:=f.2.1
         go_wp
         exact zaa rfl (Ext.refl _)
        ·intro x W he f
         have h0:x 41 = .pointer (some ⟨wr.heap.size,1,none⟩):=f.1
         have h1:x 38 = .bool false:=f.2.1
         have q1:=(rb.ext he).cell (j:=1) rfl
         go_wp
         exact zaa rfl (Ext.refl _)
        ·intro x W he f
         have h0:x 40 = .slice A1 sa.length n1:=f.1
         have h1:x 42 = .slice C1 m.seen.length c1:=f.2.1
         have h2:x 38 = .bool false:=f.2.2.1
         have HC:=Lib.hid (zfo (HSA.out.ext (by decide) he) (hEA2.seen.ext (by decide) he) (Nat.le_trans hsa (by decide)) (Nat.le_trans hsm.seen (by decide)))
         go_wp
         refine HC.out.mono ?_
         rintro r W2 ⟨rfl,hx2⟩
         dsimp only
         go_wp
         exact zaa rfl hx2
        ·intro x W he f
         have h0:x 43 = .bool (zar sa m.seen):=f.1
         have h1:x 38 = .bool false:=f.2.1
         go_wp
         exact zaa rfl (Ext.refl _)
       case hend =>
        intro x W he f
        have h38:x 38 = .bool false:=f.2.2.2.2.2.2.2.2.2.2.2.2.2.2.2.2.2.2.2.1
        have h44:x 44 = .bool (!zar sa m.seen):=f.2.2.2.2.2.2.2.2.2.2.2.2.2.2.2.2.2.2.2.2.2.2.2.2.2.1
        clear f
        have HX:=Lib.hid (HXB.out.trans he)
        have HBW:=Lib.hid (HB.out.ext he)
        simp only [List.length_cons,List.length_nil,Nat.reduceAdd,List.take_succ_cons,List.take_zero,List.filterMap_cons,List.filterMap_nil,List.drop_succ_cons,List.drop_zero,zaz,Act.put,List.setIfInBounds_toArray,List.set_cons_succ,List.set_cons_zero,h38,h44]
        cases hc:zar sa m.seen with
        | false =>
         have HRF:=Lib.hid (show mayS ⟨sa,se,sp⟩=false by rw [HM2.out,HME2.out,hc];rfl)
         clear he
         go_wp
         go_wp2_with fail
         go_ret
         exact⟨by rw [HRF.out];rfl,HX.out⟩
        | true =>
         have HN:=Lib.hid (show zcs sa none se=zcs sa ((pre++[m]).getLast?.map (·.key)) post by rw [HME2.out,hc];simp)
         clear he
         go_wp
         go_wp2_with fail
         go_roundw
         case rel=>exact⟨pre++[m],post,by rw [HL.out];simp,by simp <;> omega,HN,HBW,HX.out⟩
         case measure=>simp [intOf];omega
   | nil =>
    rw [List.append_nil] at hl
    have hln:se.length=pre.length:=by rw [hl]
    have HM3:=Lib.hid (show mayS ⟨sa,se,sp⟩=zcg sa none sp by rw [HM2.out,hme.out];simp [zcs])
    have c2:=hrow.out.cell (j:=2) rfl
    have HX:=Lib.hid hx
    have HSA:=Lib.hid H.out.all
    clear hl hme hx HM2
    go_wp2_with fail
    obtain⟨wo,rfl⟩:∃ wo:World,wo=wr:=⟨_,rfl⟩
    go_loopw [50] (fun i wr2=>∃ p2 q2,sp=p2++q2∧i=I p2.length∧Hid (zcg sa none sp=zcg sa p2.getLast? q2)∧Hid (RowIs wr2 w.heap.size 30 [.slice A1 sa.length n1,.slice A2 se.length n2,.slice A3 sp.length n3] [])∧Ext w wr2) (fun i _=>sp.length - (intOf i).toNat)
    case atStart=>exact⟨[],sp,rfl,rfl,Lib.hid rfl,hrow,HX.out⟩
    case round =>
     obtain⟨p2,q2,hl2,rfl,hmp,hrow2,hx2⟩:=hrel
     cases q2 with
     | cons p q2 =>
      obtain⟨b,o,rfl,e0⟩:=HPT.out p2 q2 p wr hx2 hl2
      have hlt2:p2.length < sp.length:=by rw [hl2];simp
      have HL2:=Lib.hid hl2
      have hprev:(p2.length=0∧p2.getLast? = none) ∨ (0 < p2.length∧∃ q:Str,p2.getLast? = some q∧wr.cell? ⟨b,o+(p2.length - 1),none⟩=some (St q)):=by
       rcases Nat.eq_zero_or_pos p2.length with h0 | h0
       ·exact .inl ⟨h0,by rw [List.eq_nil_of_length_eq_zero h0];rfl⟩
       ·obtain⟨p',q,f1,f2,f3⟩:=zft h0
        obtain⟨b',o',e,q0⟩:=HPT.out p' (p :: q2) q wr hx2 (by rw [hl2,f1];simp)
        cases e
        rw [f3] at q0
        exact .inr ⟨h0,q,f2,q0⟩
      have r0:=hrow2.out.cell (j:=0) rfl
      have r2:=hrow2.out.cell (j:=2) rfl
      have HMP:=Lib.hid (show zcg sa none sp=(!p.isEmpty && ((match p2.getLast? with | none=>true | some k=>ltS k p) && (decide (ofM sa p=0) && zcg sa (some p) q2))) from hmp.out)
      have HX2:=Lib.hid hx2
      have HOF:=Lib.hid (zhy p (HSA.out.ext (by decide) hx2))
      clear hl2 hmp hx2
      by_cases hpe:p = []
      ·subst hpe
       have HRF:=Lib.hid (show mayS ⟨sa,se,sp⟩=false by rw [HM3.out,HMP.out];rfl)
       clear hprev HOF
       go_wp2_with fail
       go_ret
       exact⟨by rw [HRF.out];rfl,HX2.out⟩
      ·have hpb:(p == [])=false:=by simpa using hpe
       have hpi:p.isEmpty=false:=by cases p with | nil=>exact absurd rfl hpe | cons _ _=>rfl
       rw [hpi] at HMP
       clear hpe hpi
       rcases hprev with ⟨h0,hp⟩ | ⟨h0,q,hp,hq0⟩
       ·rw [hp] at HMP
        obtain rfl:=List.eq_nil_of_length_eq_zero h0
        simp only [List.length_nil,Nat.add_zero] at e0
        have HME2:=Lib.hid (show zcg sa none sp=(decide (ofM sa p=0) && zcg sa (some p) q2) from HMP.out)
        clear hp
        go_wp2_with fail
        refine HOF.out.mono ?_
        rintro r W2 ⟨rfl,hx3⟩
        have HX3:=Lib.hid (HX2.out.trans hx3)
        have HRW:=Lib.hid (hrow2.out.ext hx3)
        obtain⟨z,hz9⟩:∃ z,ofM sa p=z:=⟨_,rfl⟩
        rw [hz9] at HME2
        rw [hz9]
        clear hx3 hz9
        rcases Nat.eq_zero_or_pos z with h9 | h9
        ·subst h9
         have HN:=Lib.hid (show zcg sa none sp=zcg sa ((([]:List Str)++[p]).getLast?) q2 by rw [HME2.out];simp)
         go_wp2_with fail
         go_roundw
         case rel=>exact⟨[]++[p],q2,by rw [HL2.out];simp,by simp,HN,HRW,HX3.out⟩
         case measure=>simp [intOf];omega
        ·have HRF:=Lib.hid (show mayS ⟨sa,se,sp⟩=false by rw [HM3.out,HME2.out];simp;omega)
         have h10:(z:Int) > 0:=by omega
         go_wp2_with fail
         go_ret
         exact⟨by rw [HRF.out];rfl,HX3.out⟩
       ·rw [hp] at HMP
        have k4:=zez h0 (by omega)
        have k5:((p2.length - 1:Nat):Int) < (sp.length:Int):=by omega
        have k6:(0:Int)≤((p2.length - 1:Nat):Int):=by omega
        have k7:(((p2.length - 1:Nat):Int)).toNat=p2.length - 1:=by omega
        have k8:(0:Int) < (p2.length:Int):=by omega
        clear hp
        cases hlt3:ltS q p with
        | false =>
         have HRF:=Lib.hid (show mayS ⟨sa,se,sp⟩=false by rw [HM3.out,HMP.out];simp only [hlt3];rfl)
         clear HOF
         go_wp2_with fail
         go_ret
         exact⟨by rw [HRF.out];rfl,HX2.out⟩
        | true =>
         have HME2:=Lib.hid (show zcg sa none sp=(decide (ofM sa p=0) && zcg sa (some p) q2) by rw [HMP.out];simp only [hlt3];rfl)
         go_wp2_with fail
         refine HOF.out.mono ?_
         rintro r W2 ⟨rfl,hx3⟩
         have HX3:=Lib.hid (HX2.out.trans hx3)
         have HRW:=Lib.hid (hrow2.out.ext hx3)
         obtain⟨z,hz9⟩:∃ z,ofM sa p=z:=⟨_,rfl⟩
         rw [hz9] at HME2
         rw [hz9]
         clear hx3 hz9
         rcases Nat.eq_zero_or_pos z with h9 | h9
         ·subst h9
          have HN:=Lib.hid (show zcg sa none sp=zcg sa ((p2++[p]).getLast?) q2 by rw [HME2.out];simp)
          go_wp2_with fail
          go_roundw
          case rel=>exact⟨p2++[p],q2,by rw [HL2.out];simp,by simp <;> omega,HN,HRW,HX3.out⟩
          case measure=>simp [intOf];omega
         ·have HRF:=Lib.hid (show mayS ⟨sa,se,sp⟩=false by rw [HM3.out,HME2.out];simp;omega)
          have h10:(z:Int) > 0:=by omega
          go_wp2_with fail
          go_ret
          exact⟨by rw [HRF.out];rfl,HX3.out⟩
     | nil =>
      rw [List.append_nil] at hl2
      have hln2:sp.length=p2.length:=by rw [hl2]
      have HRT:=Lib.hid (show mayS ⟨sa,se,sp⟩=true by rw [HM3.out,hmp.out];rfl)
      have HX2:=Lib.hid hx2
      clear hl2 hmp hx2
      go_wp2_with fail
      go_ret
      exact⟨by rw [HRT.out];rfl,HX2.out⟩
end
section
open Go.RowKit Go.Shelf
theorem zo6 {S:Nat→Prop} {e:Entry} {v1 v2 v3:Value} {W:World} {B:Nat} (hb:RowIs W B 37 (entL e v1 v2 v3) []) (h:EntAt W S e v1 v2 v3) :
  Calls Tryz.prog 146 #[.pointer (some ⟨B,0,none⟩)] W fun r w'=>r = .returned (.iface 2 (I (zcq e.counts)))∧Ext W w':=by
 have HC:=Lib.hid (zgd h.counts)
 obtain⟨A2,n2,rfl,-,-⟩:=h.counts.form
 have k2:=hb.cell (j:=2) rfl
 clear h hb
 go_enter Tryz.func146,Tryz.ntmps146
 go_wp2_with fail
 refine HC.out.mono ?_
 rintro r W1 ⟨rfl,hx1⟩
 go_wp2_with fail
 go_ret
 exact⟨rfl,hx1⟩
theorem zo7 {S:Nat→Prop} {e:Entry} {v1 v2 v3:Value} {W:World} {B:Nat} (hl:(zaw e.items).length≤1099511627776) (hb:RowIs W B 37 (entL e v1 v2 v3) []) (h:EntAt W S e v1 v2 v3) :
  Calls Tryz.prog 148 #[.pointer (some ⟨B,0,none⟩)] W fun r w'=>∃ s,r = .returned (.iface 28 s)∧Own w' W.heap.size 9 1 s (zex e.items).length ((zex e.items).flatMap strC)∧Ext W w':=by
 have HC:=Lib.hid (zqs h.items hl)
 obtain⟨A3,n3,rfl,-,-⟩:=h.items.form
 have k3:=hb.cell (j:=3) rfl
 clear h hb
 go_enter Tryz.func148,Tryz.ntmps148
 go_wp2_with fail
 refine HC.out.mono ?_
 rintro r W1 ⟨v',rfl,ho,hx1⟩
 obtain⟨A,n,rfl,-,-⟩:=ho.form
 go_wp2_with fail
 go_ret
 exact⟨_,rfl,ho,hx1⟩
def zg8 (c:Cell):Value:=if (zfu c).2 then .iface 9 (St (zfu c).1) else .nilIface
theorem zo8 {S:Nat→Prop} {e:Entry} {v1 v2 v3:Value} {W:World} {B:Nat} (hb:RowIs W B 37 (entL e v1 v2 v3) []) (h:EntAt W S e v1 v2 v3) :
  Calls Tryz.prog 150 #[.pointer (some ⟨B,0,none⟩)] W fun r w'=>r = .returned (zg8 e.cell)∧Ext W w':=by
 obtain⟨ek,es,ec,ei,x1,x2,x3⟩:=e
 have HC:=Lib.hid (zq8 (x1,x2,x3) W)
 have HV:=Lib.hid (show zg8 (x1,x2,x3)=if (zfu (x1,x2,x3)).2 then .iface 9 (St (zfu (x1,x2,x3)).1) else .nilIface from rfl)
 generalize zg8 (x1,x2,x3)=V at *
 have k4:=hb.cell (j:=4) rfl
 have k5:=hb.cell (j:=5) rfl
 have k6:=hb.cell (j:=6) rfl
 clear h hb
 go_enter Tryz.func150,Tryz.ntmps150
 go_wp2_with fail
 refine HC.out.mono ?_
 rintro r W1 ⟨rfl,hx1⟩
 generalize zfu (x1,x2,x3)=p at *
 obtain⟨p1,p2⟩:=p
 cases p2 with
 | false =>
  go_wp2_with fail
  go_ret
  exact⟨by rw [HV.out];rfl,hx1⟩
 | true =>
  go_wp2_with fail
  go_ret
  exact⟨by rw [HV.out];rfl,hx1⟩
def ValAt (W:World) (base:Nat) (e:Entry) (v:Value):Prop :=
 if zaj e.key=1 then v = .iface 2 (I (zcq e.counts)) else
 if zaj e.key=2 then (∃ s,v = .iface 28 s∧Own W base 9 1 s (zex e.items).length ((zex e.items).flatMap strC)) else
 if zaj e.key=3 then v=zg8 e.cell else v = .nilIface
theorem zug (B:Nat) (w:World):(zeroValue 196).run Tryz.prog w = .ok (mayV B none) w:=Tryz.zeroValue196 w
theorem zj6 {S:Nat→Prop} {e:Entry} {v1 v2 v3:Value} {w:World} (h:EntAt w S e v1 v2 v3) (hl40:(zaw e.items).length≤1099511627776) :
  Calls Tryz.prog 86 #[entV e v1 v2 v3] w fun r w'=>∃ v,r = .returned v∧ValAt w' w.heap.size e v∧Ext w w':=by
 obtain⟨ek,es,ec,ei,x1,x2,x3⟩:=e
 have H:=Lib.hid h
 obtain⟨A1,n1,rfl,-,-⟩:=h.seen.form
 obtain⟨A2,n2,rfl,-,-⟩:=h.counts.form
 obtain⟨A3,n3,rfl,-,-⟩:=h.items.form
 have hx0:=(Ext.refl w).alloc (.cells #[St ek,.slice A1 es.length n1,.slice A2 ec.length n2,.slice A3 ei.length n3,U x1,St x2,.bool x3] 37)
 have hb0:=zac w 37 [St ek,.slice A1 es.length n1,.slice A2 ec.length n2,.slice A3 ei.length n3,U x1,St x2,.bool x3]
 clear h
 have eg1:∀ args w,(callFunc 146 args).run Tryz.prog w = .ok (.enter 146 args) w:=enters_of Tryz.func146 (by kernel_rfl) rfl
 have eg2:∀ args w,(callFunc 148 args).run Tryz.prog w = .ok (.enter 148 args) w:=enters_of Tryz.func148 (by kernel_rfl) rfl
 have eg3:∀ args w,(callFunc 150 args).run Tryz.prog w = .ok (.enter 150 args) w:=enters_of Tryz.func150 (by kernel_rfl) rfl
 have hmm:=@run_makeMap Tryz.prog
 obtain⟨W0,hW0⟩:∃ W0,w.alloc (.cells #[St ek,.slice A1 es.length n1,.slice A2 ec.length n2,.slice A3 ei.length n3,U x1,St x2,.bool x3] 37)=W0:=⟨_,rfl⟩
 rw [hW0] at hx0 hb0
 have hz1:=hb0.lt
 obtain⟨Wa,ua,ma,ta⟩:=zao (P:=Tryz.prog) (t:=197) Tryz.underlying197 keyOk8 (MapIs.new (K:=K8) (V:=mayV w.heap.size) W0) 1 (some 146)
 obtain⟨Wb,ub,mb,tb⟩:=zao (P:=Tryz.prog) (t:=197) Tryz.underlying197 keyOk8 ma 2 (some 148)
 obtain⟨Wc,uc,mc,tc⟩:=zao (P:=Tryz.prog) (t:=197) Tryz.underlying197 keyOk8 mb 3 (some 150)
 have hxa:=((Ext.refl W0).alloc (.map #[] 0)).turned ta (Nat.le_refl _)
 have hxb:=hxa.turned tb (Nat.le_refl _)
 have hxc:=hxb.turned tc (Nat.le_refl _)
 have d0:=(hb0.ext hxc).cell (j:=0) rfl
 have HK:=Lib.hid (zgi ek Wc)
 have HC:=Lib.hid mc
 have HXC:=Lib.hid hxc
 clear ta tb tc hxa hxb hxc ma mb mc
 have ua':(Instr.mapUpdate 197 (.map (some W0.heap.size)) (.int .u8 1) (.func (.func 146) #[] #[.pointer (some ⟨w.heap.size,0,none⟩)])).run Tryz.prog (W0.alloc (.map #[] 0)) = .ok () Wa:=ua
 have ub':(Instr.mapUpdate 197 (.map (some W0.heap.size)) (.int .u8 2) (.func (.func 148) #[] #[.pointer (some ⟨w.heap.size,0,none⟩)])).run Tryz.prog Wa = .ok () Wb:=ub
 have uc':(Instr.mapUpdate 197 (.map (some W0.heap.size)) (.int .u8 3) (.func (.func 150) #[] #[.pointer (some ⟨w.heap.size,0,none⟩)])).run Tryz.prog Wb = .ok () Wc:=uc
 clear ua ub uc
 go_enter Tryz.func86,Tryz.ntmps86
 go_wp2_with fail
 refine HK.out.mono ?_
 rintro r W2 ⟨rfl,hx2⟩
 have hL:=(za3 (P:=Tryz.prog) (t:=197) (z:=none) Tryz.underlying197 keyOk8 (zug w.heap.size) (HC.out.ext hx2) (zaj ek)).2
 have HB2:=Lib.hid (hb0.ext (HXC.out.trans hx2))
 have HX2:=Lib.hid (hx0.trans (HXC.out.trans hx2))
 have HKK:=Lib.hid (show ∀ W b v,ValAt W b ⟨ek,es,ec,ei,(x1,x2,x3)⟩ v=(if zaj ek=1 then v = .iface 2 (I (zcq ec)) else if zaj ek=2 then (∃ s,v = .iface 28 s∧Own W b 9 1 s (zex ei).length ((zex ei).flatMap strC)) else if zaj ek=3 then v=zg8 (x1,x2,x3) else v = .nilIface) from fun _ _ _=>rfl)
 generalize zaj ek=kk at *
 have hL':(Instr.lookup 197 (.map (some W0.heap.size)) (U8 kk) true).run Tryz.prog W2 = .ok (.tuple #[mayV w.heap.size (getL none (putL (putL (putL [] 1 (some 146)) 2 (some 148)) 3 (some 150)) kk),.bool (decide (kk ∈ [1,2,3]))]) W2:=hL
 clear hL
 rcases (show kk=1 ∨ kk=2 ∨ kk=3 ∨ (kk ≠ 1∧kk ≠ 2∧kk ≠ 3) by omega) with h1 | h1 | h1 | ⟨h1,h2,h3⟩
 ·subst h1
  have hl:(Instr.lookup 197 (.map (some W0.heap.size)) (U8 1) true).run Tryz.prog W2 = .ok (.tuple #[.func (.func 146) #[] #[.pointer (some ⟨w.heap.size,0,none⟩)],.bool true]) W2:=hL'
  clear hL'
  have HT:=Lib.hid (zo6 HB2.out (H.out.ext HX2.out))
  go_wp2_with fail
  refine HT.out.mono ?_
  rintro r W3 ⟨rfl,hx3⟩
  have HX3:=Lib.hid (HX2.out.trans hx3)
  have hsz:=HX2.out.size
  clear hx3
  go_wp2_with fail
  go_ret
  exact⟨_,rfl,by rw [HKK.out];exact rfl,HX3.out⟩
 ·subst h1
  have hl:(Instr.lookup 197 (.map (some W0.heap.size)) (U8 2) true).run Tryz.prog W2 = .ok (.tuple #[.func (.func 148) #[] #[.pointer (some ⟨w.heap.size,0,none⟩)],.bool true]) W2:=hL'
  clear hL'
  have HT:=Lib.hid (zo7 hl40 HB2.out (H.out.ext HX2.out))
  go_wp2_with fail
  refine HT.out.mono ?_
  rintro r W3 ⟨s,rfl,ho,hx3⟩
  have HX3:=Lib.hid (HX2.out.trans hx3)
  have hsz:=HX2.out.size
  clear hx3
  go_wp2_with fail
  go_ret
  exact⟨_,rfl,by rw [HKK.out];exact⟨_,rfl,ho.lower hsz⟩,HX3.out⟩
 ·subst h1
  have hl:(Instr.lookup 197 (.map (some W0.heap.size)) (U8 3) true).run Tryz.prog W2 = .ok (.tuple #[.func (.func 150) #[] #[.pointer (some ⟨w.heap.size,0,none⟩)],.bool true]) W2:=hL'
  clear hL'
  have HT:=Lib.hid (zo8 HB2.out (H.out.ext HX2.out))
  go_wp2_with fail
  refine HT.out.mono ?_
  rintro r W3 ⟨rfl,hx3⟩
  have HX3:=Lib.hid (HX2.out.trans hx3)
  have hsz:=HX2.out.size
  clear hx3
  go_wp2_with fail
  go_ret
  exact⟨_,rfl,by rw [HKK.out];exact rfl,HX3.out⟩
 ·have hl:(Instr.lookup 197 (.map (some W0.heap.size)) (U8 kk) true).run Tryz.prog W2 = .ok (.tuple #[.nilFunc,.bool false]) W2:=by
   rw [hL']
   have e2:(kk == 1)=false:=by simp;omega
   have e3:(kk == 2)=false:=by simp;omega
   have e4:(kk == 3)=false:=by simp;omega
   simp [getL,putL,List.lookup,e2,e3,e4,h1,h2,h3,mayV]
  clear hL'
  go_wp2_with fail
  go_ret
  exact⟨_,rfl,by rw [HKK.out,if_neg h1,if_neg h2,if_neg h3];rfl,HX2.out⟩
end
section
open Go.RowKit Go.Shelf
theorem zfw:SmallE zad:=⟨by decide,by decide,by decide,(fun it h=>by cases h),by decide⟩
theorem zie {l:List Entry} {k:Str} {m:Entry} (h:zax l k=some m):m ∈ l:=List.mem_of_find?_eq_some h
theorem zrf {l:List Entry} {k:Str} {m:Entry} (h:zax l k=some m):m.key=k:=by simpa using List.find?_some h
theorem zj7 {l:List Entry} (h:∀ e ∈ l,SmallE e) (k:Str):SmallE ((zax l k).getD zad):=by
 cases hf:zax l k with
 | none=>exact zfw
 | some m=>exact h m (zie hf)
theorem ztr {S:Nat→Prop} {s:State} {v1 v2 v3:Value} {w:World} (k:Str) (h:StAt w S s v1 v2 v3) (sm:∀ e ∈ s.entries,SmallE e) :
  Calls Tryz.prog 24 #[stV v1 v2 v3,St k] w fun r w'=>∃ u1 u2 u3,r = .returned (.tuple #[entV ((zax s.entries k).getD zad) u1 u2 u3,.bool (zax s.entries k).isSome])∧EntNew w' w.heap.size ((zax s.entries k).getD zad) u1 u2 u3∧Ext w w':=by
 obtain⟨sa,se,sp⟩:=s
 obtain⟨A1,n1,rfl,-,-⟩:=h.all.form
 obtain⟨A2,n2,rfl,-,-⟩:=h.entries.form
 obtain⟨A3,n3,rfl,-,-⟩:=h.pruned.form
 have hx0:=((Ext.refl w).alloc (.cells #[.slice A1 sa.length n1,.slice A2 se.length n2,.slice A3 sp.length n3] 30)).alloc (.cells #[St [],.slice none 0 0,.slice none 0 0,.slice none 0 0,.int .u64 0,St [],.bool false] 37)
 have rR0:=zac (w.alloc (.cells #[.slice A1 sa.length n1,.slice A2 se.length n2,.slice A3 sp.length n3] 30)) 37 [St [],.slice none 0 0,.slice none 0 0,.slice none 0 0,.int .u64 0,St [],.bool false]
 rw [World.size_alloc] at rR0
 have H1:=Lib.hid (zjk k (h.entries.ext (by decide) hx0))
 have hz0:w.heap.size+2≤((w.alloc (.cells #[.slice A1 sa.length n1,.slice A2 se.length n2,.slice A3 sp.length n3] 30)).alloc (.cells #[St [],.slice none 0 0,.slice none 0 0,.slice none 0 0,.int .u64 0,St [],.bool false] 37)).heap.size:=by simp
 have HSM:=Lib.hid (zj7 sm k)
 clear h
 go_enter Tryz.func24,Tryz.ntmps24
 go_wp2_with fail
 generalize (w.alloc (.cells #[.slice A1 sa.length n1,.slice A2 se.length n2,.slice A3 sp.length n3] 30)).alloc (.cells #[St [],.slice none 0 0,.slice none 0 0,.slice none 0 0,.int .u64 0,St [],.bool false] 37)=W0 at *
 refine H1.out.mono ?_
 rintro r W1 ⟨v1,v2,v3,rfl,hA,hx1⟩
 simp only at hA HSM ⊢
 have HS0:=Lib.hid HSM.out
 clear HSM
 generalize he:(zax se k).getD zad=e at hA HS0 ⊢
 generalize his:(zax se k).isSome=is
 have HE:=Lib.hid he
 have HIS:=Lib.hid his
 clear he his
 obtain⟨C1,c1,rfl,-,-⟩:=hA.seen.form
 obtain⟨C2,c2,rfl,-,-⟩:=hA.counts.form
 obtain⟨C3,c3,rfl,-,-⟩:=hA.items.form
 have hxb:=(Ext.refl W1).alloc (.cells #[St e.key,.slice C1 e.seen.length c1,.slice C2 e.counts.length c2,.slice C3 e.items.length c3,U e.cell.1,St e.cell.2.1,.bool e.cell.2.2] 37)
 have HC:=Lib.hid (zdx (hA.ext hxb) (Nat.le_trans HS0.out.seen (by decide)) (Nat.le_trans HS0.out.counts (by decide)) (Nat.le_trans HS0.out.items (by decide)) (fun it hit=>Nat.le_trans (HS0.out.dots it hit) (by decide)))
 have hx01:=hx0.trans (hx1.trans hxb)
 have hz1:=(hx1.trans hxb).size
 have rR1:=rR0.ext (hx1.trans hxb)
 clear hA hx0 hx1 rR0
 go_wp2_with fail
 refine HC.out.mono ?_
 rintro r W2 ⟨u1,u2,u3,rfl,hn,hx2⟩
 obtain⟨D1,d1,rfl,-,-⟩:=hn.seen.form
 obtain⟨D2,d2,rfl,-,-⟩:=hn.counts.form
 obtain⟨D3,d3,rfl,-,-⟩:=hn.items.form
 have hR:=rR1.ext hx2
 have r0:=hR.cell (j:=0) rfl
 have r1:=hR.cell (j:=1) rfl
 have r2:=hR.cell (j:=2) rfl
 have r3:=hR.cell (j:=3) rfl
 have r4:=hR.cell (j:=4) rfl
 have r5:=hR.cell (j:=5) rfl
 have r6:=hR.cell (j:=6) rfl
 have f0:=hR.frozen 0
 have f1:=hR.frozen 1
 have f2:=hR.frozen 2
 have f3:=hR.frozen 3
 have f4:=hR.frozen 4
 have f5:=hR.frozen 5
 have f6:=hR.frozen 6
 have HX:=Lib.hid (hx01.trans hx2)
 have HN:=Lib.hid hn
 clear hR rR1 hn hx2 hxb hx01
 go_wp2_with fail
 (try simp only [Exit.inBlock,Exit.then])
 refine bodyPost_ret (v:=.tuple #[entV e (.slice D1 e.seen.length d1) (.slice D2 e.counts.length d2) (.slice D3 e.items.length d3),.bool is]) (by simp [results,Tryz.f24,go_sem,entV,entC,r0,r1,r2,r3,r4,r5,r6]) rfl ?_
 have hp:=zho (q:=w.heap.size+1) HX.out (by omega) HN.out (by omega)
 refine ⟨.slice D1 e.seen.length d1,.slice D2 e.counts.length d2,.slice D3 e.items.length d3,by rw [HE.out,HIS.out],?_⟩
 rw [HE.out]
 exact hp
theorem ValAt.lower {W:World} {base base':Nat} {e:Entry} {v:Value} (h:ValAt W base e v) (hb:base'≤base):ValAt W base' e v:=by
 unfold ValAt at h ⊢
 split
 ·rename_i h1;rw [if_pos h1] at h;exact h
 ·rename_i h1
  rw [if_neg h1] at h
  split
  ·rename_i h2;rw [if_pos h2] at h;obtain⟨s,e1,o⟩:=h;exact⟨s,e1,o.lower hb⟩
  ·rename_i h2
   rw [if_neg h2] at h
   exact h
def atE (l:List Entry) (k:Str):Entry:=(zax l k).getD { zad with key:=k }
theorem zsv {S:Nat→Prop} {s:State} {v1 v2 v3:Value} {w:World} (k:Str) (h:StAt w S s v1 v2 v3) (sm:∀ e ∈ s.entries,SmallE e) :
  Calls Tryz.prog 39 #[stV v1 v2 v3,St k] w fun r w'=>∃ v,r = .returned v∧ValAt w' w.heap.size (atE s.entries k) v∧Ext w w':=by
 obtain⟨sa,se,sp⟩:=s
 obtain⟨A1,n1,rfl,-,-⟩:=h.all.form
 obtain⟨A2,n2,rfl,-,-⟩:=h.entries.form
 obtain⟨A3,n3,rfl,-,-⟩:=h.pruned.form
 have hx0:=(Ext.refl w).alloc (.cells #[.slice A1 sa.length n1,.slice A2 se.length n2,.slice A3 sp.length n3] 30)
 have H1:=Lib.hid (zjk k (h.entries.ext (by decide) hx0))
 have HSM:=Lib.hid sm
 have HAT:=Lib.hid (show atE se k=(zax se k).getD { zad with key:=k } from rfl)
 clear h sm
 go_enter Tryz.func39,Tryz.ntmps39
 go_wp2_with fail
 generalize w.alloc (.cells #[.slice A1 sa.length n1,.slice A2 se.length n2,.slice A3 sp.length n3] 30)=W0 at *
 refine H1.out.mono ?_
 rintro r W1 ⟨v1,v2,v3,rfl,hA,hx1⟩
 simp only at hA HSM HAT ⊢
 cases hf:zax se k with
 | none =>
  have HAT2:=Lib.hid (show atE se k = { zad with key:=k } by rw [HAT.out,hf];rfl)
  rw [hf] at hA
  simp only [Option.getD_none,Option.isSome_none] at hA ⊢
  have hA2:EntAt W1 S { zad with key:=k } (.slice none 0 0) (.slice none 0 0) (.slice none 0 0):=⟨Sl.nil _ _ (by decide),Sl.nil _ _ (by decide),Sl.nil _ _ (by decide)⟩
  obtain⟨C1,c1,rfl,-,-⟩:=hA.seen.form
  obtain⟨C2,c2,rfl,-,-⟩:=hA.counts.form
  obtain⟨C3,c3,rfl,-,-⟩:=hA.items.form
  have hxb:=(Ext.refl W1).alloc (.cells #[St k,.slice none 0 0,.slice none 0 0,.slice none 0 0,.int .u64 0,St [],.bool false] 37)
  have HV:=Lib.hid (zj6 (hA2.ext hxb) (show (zaw ([]:List Item)).length≤_ by decide))
  have HX:=Lib.hid (hx0.trans (hx1.trans hxb))
  clear hA hA2 hx0 hx1 hf HAT H1 hxb
  go_wp2_with fail
  refine HV.out.mono ?_
  rintro r W2 ⟨v,rfl,hv,hx2⟩
  have hs:=HX.out.size
  have HVV:=Lib.hid hv
  have HX2:=Lib.hid hx2
  clear hv hx2
  go_wp2_with fail
  go_ret
  exact⟨_,rfl,by rw [HAT2.out];exact HVV.out.lower hs,HX.out.trans HX2.out⟩
 | some e =>
  have HAT2:=Lib.hid (show atE se k=e by rw [HAT.out,hf];rfl)
  have hse:SmallE e:=HSM.out e (zie hf)
  rw [hf] at hA
  simp only [Option.getD_some,Option.isSome_some] at hA ⊢
  obtain⟨C1,c1,rfl,-,-⟩:=hA.seen.form
  obtain⟨C2,c2,rfl,-,-⟩:=hA.counts.form
  obtain⟨C3,c3,rfl,-,-⟩:=hA.items.form
  have hxb:=(Ext.refl W1).alloc (.cells #[St e.key,.slice C1 e.seen.length c1,.slice C2 e.counts.length c2,.slice C3 e.items.length c3,U e.cell.1,St e.cell.2.1,.bool e.cell.2.2] 37)
  have HV:=Lib.hid (zj6 (hA.ext hxb) (Nat.le_trans hse.places (by decide)))
  have HX:=Lib.hid (hx0.trans (hx1.trans hxb))
  clear hA hx0 hx1 hf HAT H1 hxb
  go_wp2_with fail
  refine HV.out.mono ?_
  rintro r W2 ⟨v,rfl,hv,hx2⟩
  have hs:=HX.out.size
  have HVV:=Lib.hid hv
  have HX2:=Lib.hid hx2
  clear hv hx2
  go_wp2_with fail
  go_ret
  exact⟨_,rfl,by rw [HAT2.out];exact HVV.out.lower hs,HX.out.trans HX2.out⟩
end
section
open Go.RowKit Go.Shelf
def Did (W w':World) (E pr:Nat) (S:Nat→Prop) (e':Entry) (v1:Value):Prop :=
 ∃ u2 u3,RowIs w' E 37 (entL e' v1 u2 u3) []∧EntAt w' (fun b=>S b ∨ W.heap.size≤b) e' v1 u2 u3∧Kept2 W w' E pr
def MvE (E:Nat) (w w':World):Prop:=w.heap.size≤w'.heap.size∧∀ b,b < w.heap.size→b ≠ E→w'.heap[b]? = w.heap[b]?
theorem MvE.refl (E:Nat) (w:World):MvE E w w:=⟨Nat.le_refl _,fun _ _ _=>rfl⟩
theorem Ext.mvE {E:Nat} {w w':World} (h:Ext w w'):MvE E w w':=⟨h.size,fun b hb _=>h.block b hb⟩
theorem MvE.set (E j:Nat) (w:World) (v:Value):MvE E w (w.setCell ⟨E,j,none⟩ v):=⟨by rw [World.size_setCell];exact Nat.le_refl _,fun b _ hb=>Below.heap_setCell _ _ _ _ hb⟩
theorem Own.mvE {w w':World} {base T k n E:Nat} {v:Value} {xs:List Value} (h:Own w base T k v n xs) (m:MvE E w w') (hE:E < base):Own w' base T k v n xs :=
 h.keep fun b hb hlt=>m.2 b hlt (by have:=(h.base_le hb).1;omega)
theorem OwnL.mvE {α:Type} {T:Shape α} {tid:Nat} {w w':World} {base E:Nat} {v:Value} {l:List α} (h:OwnL T tid w base (fun b=>base≤b) v l) (m:MvE E w w') (hE:E < base):OwnL T tid w' base (fun b=>base≤b) v l :=
 h.keep (fun b hb hlt=>m.2 b hlt (by omega)) fun b hb hlt=>m.2 b hlt (by have:=(h.base_le hb).1;omega)
theorem Kept2.refl (w:World) (p m:Nat):Kept2 w w p m:=⟨rfl,rfl,rfl,Nat.le_refl _,fun _ _ _ _=>rfl⟩
theorem Kept2.ext {W w w':World} {p m:Nat} (k:Kept2 W w p m) (h:Ext w w'):Kept2 W w' p m :=
 ⟨h.os.trans k.os,h.tape.trans k.tape,h.output.trans k.output,Nat.le_trans k.size h.size,fun j hj h1 h2=>(h.block j (Nat.lt_of_lt_of_le hj k.size)).trans (k.other j hj h1 h2)⟩
theorem Kept2.set1 {W w:World} {p m j:Nat} (k:Kept2 W w p m) (v:Value):Kept2 W (w.setCell ⟨p,j,none⟩ v) p m :=
 ⟨k.os,k.tape,k.output,by rw [World.size_setCell];exact k.size,fun b hb h1 h2=>(Below.heap_setCell _ _ _ _ h1).trans (k.other b hb h1 h2)⟩
theorem Kept2.set2 {W w:World} {p m j:Nat} (k:Kept2 W w p m) (v:Value):Kept2 W (w.setCell ⟨m,j,none⟩ v) p m :=
 ⟨k.os,k.tape,k.output,by rw [World.size_setCell];exact k.size,fun b hb h1 h2=>(Below.heap_setCell _ _ _ _ h2).trans (k.other b hb h1 h2)⟩
theorem Ext.kept {W w:World} (h:Ext W w) (p m:Nat):Kept2 W w p m:=⟨h.os,h.tape,h.output,h.size,fun j hj _ _=>h.block j hj⟩
theorem EntAt.kept {W w:World} {S:Nat→Prop} {e:Entry} {v1 v2 v3:Value} {p m:Nat} (h:EntAt W S e v1 v2 v3) (k:Kept2 W w p m) (hS:∀ b,S b→b ≠ p∧b ≠ m):EntAt w S e v1 v2 v3 :=
 ⟨h.seen.keep (by decide) fun b hb hlt=>k.other b hlt (hS b hb).1 (hS b hb).2,h.counts.keep (by decide) fun b hb hlt=>k.other b hlt (hS b hb).1 (hS b hb).2,h.items.keep (by decide) fun b hb hlt=>k.other b hlt (hS b hb).1 (hS b hb).2⟩
theorem zmk {S:Nat→Prop} {W:World} {pe pr E:Nat} {e:Entry} {v1 v2 v3 z:Value} {pd:Nat} {d1:Str} (n:Int) (hn1:-9223372036854775808≤n) (hn2:n≤9223372036854775807) (hd:W.cell? ⟨pd,0,none⟩=some (St d1)) (hl:e.counts.length < 1099511627776)
  (hpe:W.cell? ⟨pe,0,none⟩=some (.pointer (some ⟨E,0,none⟩))) (hr:RowIs W pr 38 [z] []) (hE:RowIs W E 37 (entL e v1 v2 v3) []) (hA:EntAt W S e v1 v2 v3) (hS:∀ b,S b→b ≠ E∧b ≠ pr) (hpr:pr ≠ E) :
  Calls Tryz.prog 155 #[I n,.pointer (some ⟨pe,0,none⟩),.pointer (some ⟨pd,0,none⟩),.pointer (some ⟨pr,0,none⟩)] W fun r w'=>r = .returned (I (addC e.counts d1 n).2)∧Did W w' E pr S { e with counts:=(addC e.counts d1 n).1 } v1:=by
 obtain⟨A1,n1,rfl,-,-⟩:=hA.seen.form
 obtain⟨A2,n2,rfl,-,-⟩:=hA.counts.form
 obtain⟨A3,n3,rfl,-,-⟩:=hA.items.form
 have HA:=Lib.hid hA
 have HS:=Lib.hid hS
 clear hA hS
 have hEl:=hE.lt
 let J1:World→Prop:=fun w=>∃ u,Own w W.heap.size 93 3 u (addC e.counts d1 n).1.length ((addC e.counts d1 n).1.flatMap zbo)∧RowIs w E 37 (entL e (.slice A1 e.seen.length n1) u (.slice A3 e.items.length n3)) []∧RowIs w pr 38 [z] []∧Kept2 W w E pr
 go_enter Tryz.func155,Tryz.ntmps155
 go_wp2_with fail
 refine zeg [.early (fun v _=>v = .pointer (some ⟨E,0,none⟩)),
  .early (fun v _=>v = .pointer (some ⟨E,0,none⟩)),
  .early (fun v _=>v = .pointer (some ⟨E,0,none⟩)),
  .early (fun v _=>v = .pointer (some ⟨E,2,none⟩)),
  .early (fun v _=>v = .slice A2 e.counts.length n2),
  .early (fun v _=>v = .pointer (some ⟨pd,0,none⟩)),
  .early (fun v _=>v=St d1),
  .early (fun v _=>v=I n),
  .early (fun v W2=>∃ v4,v = .tuple #[v4,I (addC e.counts d1 n).2]∧Own W2 W.heap.size 93 3 v4 (addC e.counts d1 n).1.length ((addC e.counts d1 n).1.flatMap zbo)),
  .early (fun v W2=>∃ v4,v = .tuple #[v4,I (addC e.counts d1 n).2]∧Own W2 W.heap.size 93 3 v4 (addC e.counts d1 n).1.length ((addC e.counts d1 n).1.flatMap zbo)),
  .early (fun v W2=>Own W2 W.heap.size 93 3 v (addC e.counts d1 n).1.length ((addC e.counts d1 n).1.flatMap zbo)),
  .late (fun v _=>v=I (addC e.counts d1 n).2),
  .early (fun v _=>v = .pointer (some ⟨E,0,none⟩)),
  .early (fun v _=>v = .pointer (some ⟨E,2,none⟩)),
  .store] 14 (fun w=>Ext W w) J1 (MvE E) rfl (by kernel_rfl) (by kernel_rfl) ?hR ?hJ ?hstep ?hend
 case hR =>
  simp only [List.mem_cons,List.not_mem_nil,or_false,forall_eq_or_imp,forall_eq,HF.fact]
  exact⟨fun v _ _ h _=>h,fun v _ _ h _=>h,fun v _ _ h _=>h,fun v _ _ h _=>h,fun v _ _ h _=>h,fun v _ _ h _=>h,fun v _ _ h _=>h,fun v _ _ h _=>h,fun v _ _ h he=>by obtain⟨u,e1,ho⟩:=h;exact⟨u,e1,ho.mvE he hEl⟩,fun v _ _ h he=>by obtain⟨u,e1,ho⟩:=h;exact⟨u,e1,ho.mvE he hEl⟩,fun v _ _ h he=>h.mvE he hEl,fun v _ _ h _=>h,fun v _ _ h _=>h,fun v _ _ h _=>h,fun v _ _ h _=>h⟩
 case hJ=>exact (Ext.refl W).drew
 case hstep =>
  simp only [List.length_cons,List.length_nil,Nat.reduceAdd,List.take_succ_cons,List.take_zero,zcl,and_true]
  refine ⟨?_,?_,?_,?_,?_,?_,?_,?_,?_,?_,?_,?_,?_,?_,?_⟩
  ·intro x W1 hj f
   have h:x 1 = .pointer (some ⟨pe,0,none⟩):=f.1
   have hc:=hj.cell hpe
   go_wp
   exact zaf rfl ⟨hj,MvE.refl _ _⟩
  ·intro x W1 hj f
   have h:x 1 = .pointer (some ⟨pe,0,none⟩):=f.1
   have hc:=hj.cell hpe
   go_wp
   exact zaf rfl ⟨hj,MvE.refl _ _⟩
  ·intro x W1 hj f
   have h:x 8 = .pointer (some ⟨E,0,none⟩):=f.1
   go_wp
   exact zaf rfl ⟨hj,MvE.refl _ _⟩
  ·intro x W1 hj f
   have h:x 9 = .pointer (some ⟨E,0,none⟩):=f.1
   go_wp
   exact zaf rfl ⟨hj,MvE.refl _ _⟩
  ·intro x W1 hj f
   have h:x 10 = .pointer (some ⟨E,2,none⟩):=f.1
   have hc:=(hE.ext hj).cell (j:=2) rfl
   go_wp
   exact zaf rfl ⟨hj,MvE.refl _ _⟩
  ·intro x W1 hj f
   have h:x 2 = .pointer (some ⟨pd,0,none⟩):=f.1
   go_wp
   exact zaf rfl ⟨hj,MvE.refl _ _⟩
  ·intro x W1 hj f
   have h:x 12 = .pointer (some ⟨pd,0,none⟩):=f.1
   have hc:=hj.cell hd
   go_wp
   exact zaf rfl ⟨hj,MvE.refl _ _⟩
  ·intro x W1 hj f
   have h:x 0=I n:=f.1
   go_wp
   exact zaf rfl ⟨hj,MvE.refl _ _⟩
  ·intro x W1 hj f
   have h1:x 11 = .slice A2 e.counts.length n2:=f.1
   have h2:x 13=St d1:=f.2.1
   have h3:x 14=I n:=f.2.2.1
   have hs:=hj.size
   have HC:=Lib.hid (zsl d1 n hn1 hn2 (HA.out.counts.ext (by decide) hj) hl)
   go_wp
   refine HC.out.mono ?_
   rintro r W2 ⟨v4,rfl,ho,hx2⟩
   dsimp only
   go_wp
   exact zaf (v:=.tuple #[v4,I (addC e.counts d1 n).2]) ⟨v4,rfl,ho.lower hs⟩ ⟨hj.trans hx2,hx2.mvE⟩
  ·intro x W1 hj f
   obtain⟨v4,h,ho⟩:∃ v4,x 15 = .tuple #[v4,I (addC e.counts d1 n).2]∧Own W1 W.heap.size 93 3 v4 (addC e.counts d1 n).1.length ((addC e.counts d1 n).1.flatMap zbo):=f.1
   go_wp
   exact zaf ⟨v4,rfl,ho⟩ ⟨hj,MvE.refl _ _⟩
  ·intro x W1 hj f
   obtain⟨v4,h,ho⟩:∃ v4,x 6 = .tuple #[v4,I (addC e.counts d1 n).2]∧Own W1 W.heap.size 93 3 v4 (addC e.counts d1 n).1.length ((addC e.counts d1 n).1.flatMap zbo):=f.1
   go_wp
   exact zaf ho ⟨hj,MvE.refl _ _⟩
  ·intro x W1 b hj f
   obtain⟨v4,h,ho⟩:∃ v4,x 6 = .tuple #[v4,I (addC e.counts d1 n).2]∧Own W1 W.heap.size 93 3 v4 (addC e.counts d1 n).1.length ((addC e.counts d1 n).1.flatMap zbo):=f.1
   go_wp
   exact zaf rfl ⟨hj,MvE.refl _ _⟩
  ·intro x W1 hj f
   have h:x 7 = .pointer (some ⟨E,0,none⟩):=f.1
   go_wp
   exact zaf rfl ⟨hj,MvE.refl _ _⟩
  ·intro x W1 hj f
   have h:x 18 = .pointer (some ⟨E,0,none⟩):=f.1
   go_wp
   exact zaf rfl ⟨hj,MvE.refl _ _⟩
  ·intro x W1 hj f
   have h:x 19 = .pointer (some ⟨E,2,none⟩):=f.1
   have ho:Own W1 W.heap.size 93 3 (x 16) (addC e.counts d1 n).1.length ((addC e.counts d1 n).1.flatMap zbo):=f.2.1
   obtain⟨A,c,hA,-,-⟩:=ho.form
   have hEW:=hE.ext hj
   have hc:=hEW.cell (j:=2) rfl
   have hf:=hEW.frozen 2
   rw [hA] at ho
   have hp:J1 (W1.setCell ⟨E,2,none⟩ (.slice A (addC e.counts d1 n).1.length c)):=⟨_,ho.mvE (MvE.set _ _ _ _) hEl,hEW.set (j:=2) (by simp) _,(hr.ext hj).other hpr.symm _,(hj.kept E pr).set1 _⟩
   have hm:=MvE.set E 2 W1 (.slice A (addC e.counts d1 n).1.length c)
   generalize hW2:W1.setCell ⟨E,2,none⟩ (.slice A (addC e.counts d1 n).1.length c)=W2 at *
   clear hj ho hEW
   go_wp
   exact zaf (v:=undef) trivial ⟨hp,hm⟩
 case hend =>
  intro x W1 hj f
  obtain⟨u,ho,hE1,hr1,hk⟩:=hj
  have h17:x 17=I (addC e.counts d1 n).2:=f.2.2.2.2.2.2.2.2.2.2.2.1
  simp only [List.length_cons,List.length_nil,Nat.reduceAdd,List.take_succ_cons,List.take_zero,List.filterMap_cons,List.filterMap_nil,List.drop_succ_cons,List.drop_zero,zaz,Act.put,List.setIfInBounds_toArray,List.set_cons_succ,List.set_cons_zero,h17]
  have hrf:=hr1.frozen 0
  have hrc:=hr1.cell (j:=0) rfl
  clear f
  have HK:=Lib.hid (hk.set2 (j:=0) (I (addC e.counts d1 n).2))
  have HE:=Lib.hid (hE1.other (p:=⟨pr,0,none⟩) hpr (I (addC e.counts d1 n).2))
  have HO:=Lib.hid (ho.keep (w':=W1.setCell ⟨pr,0,none⟩ (I (addC e.counts d1 n).2)) fun b hb _=>Below.heap_setCell _ _ _ _ (fun e2=>by have:=(ho.base_le hb).1;have:=hr.lt;have e3:b=pr:=e2;omega))
  have hcs:=(hr1.set (j:=0) (by simp) (I (addC e.counts d1 n).2)).cell (j:=0) rfl
  obtain⟨w9,hw9⟩:∃ w9,W1.setCell ⟨pr,0,none⟩ (I (addC e.counts d1 n).2)=w9:=⟨_,rfl⟩
  rw [hw9] at HK HE HO hcs
  obtain⟨err,herr⟩:∃ err:Nat,(addC e.counts d1 n).2=err:=⟨_,rfl⟩
  rw [herr] at hw9 hcs ⊢
  clear hr1 ho hE1 hk
  go_wp
  go_wp2_with fail
  go_ret
  have hA9:=HA.out.kept HK.out HS.out
  exact⟨by rw [herr];rfl,u,_,HE.out,⟨hA9.seen.mono (by decide) fun b _ h=>.inl h,(OwnL.flat_iff (S:=fun b=>S b ∨ W.heap.size≤b).2 HO.out).sl (by decide) (fun _ _ h=>h) (fun b h _=>.inr h),hA9.items.mono (by decide) fun b _ h=>.inl h⟩,HK.out⟩
theorem zml {S:Nat→Prop} {W:World} {pe pr E:Nat} {e:Entry} {v1 v2 v3 z:Value} (line:Str) (gone:Bool)
  (hpe:W.cell? ⟨pe,0,none⟩=some (.pointer (some ⟨E,0,none⟩))) (hr:RowIs W pr 38 [z] []) (hE:RowIs W E 37 (entL e v1 v2 v3) []) (hA:EntAt W S e v1 v2 v3) (hS:∀ b,S b→b ≠ E∧b ≠ pr) (hpr:pr ≠ E) :
  Calls Tryz.prog 157 #[St line,.bool gone,.pointer (some ⟨pe,0,none⟩),.pointer (some ⟨pr,0,none⟩)] W fun r w'=>r = .returned (I (zap e.cell line gone).2)∧Did W w' E pr S { e with cell:=(zap e.cell line gone).1 } v1:=by
 obtain⟨A1,n1,rfl,-,-⟩:=hA.seen.form
 obtain⟨A2,n2,rfl,-,-⟩:=hA.counts.form
 obtain⟨A3,n3,rfl,-,-⟩:=hA.items.form
 have HA:=Lib.hid hA
 have HS:=Lib.hid hS
 clear hA hS
 have hEl:=hE.lt
 let J1:World→Prop:=fun w=>RowIs w E 37 (entL { e with cell:=(zap e.cell line gone).1 } (.slice A1 e.seen.length n1) (.slice A2 e.counts.length n2) (.slice A3 e.items.length n3)) []∧RowIs w pr 38 [z] []∧Kept2 W w E pr
 go_enter Tryz.func157,Tryz.ntmps157
 go_wp2_with fail
 refine zeg [.early (fun v _=>v = .pointer (some ⟨E,0,none⟩)),
  .early (fun v _=>v = .pointer (some ⟨E,0,none⟩)),
  .early (fun v _=>v = .pointer (some ⟨E,0,none⟩)),
  .early (fun v _=>v = .pointer (some ⟨E,4,none⟩)),
  .early (fun v _=>v=zbh e.cell),
  .early (fun v _=>v=St line),
  .early (fun v _=>v = .bool gone),
  .early (fun v _=>v = .tuple #[zbh (zap e.cell line gone).1,I (zap e.cell line gone).2]),
  .early (fun v _=>v = .tuple #[zbh (zap e.cell line gone).1,I (zap e.cell line gone).2]),
  .early (fun v _=>v=zbh (zap e.cell line gone).1),
  .late (fun v _=>v=I (zap e.cell line gone).2),
  .early (fun v _=>v = .pointer (some ⟨E,0,none⟩)),
  .early (fun v _=>v = .pointer (some ⟨E,4,none⟩)),
  .store] 13 (fun w=>Ext W w) J1 (MvE E) rfl (by kernel_rfl) (by kernel_rfl) ?hR ?hJ ?hstep ?hend
 case hR =>
  simp only [List.mem_cons,List.not_mem_nil,or_false,forall_eq_or_imp,forall_eq,HF.fact]
  exact⟨fun v _ _ h _=>h,fun v _ _ h _=>h,fun v _ _ h _=>h,fun v _ _ h _=>h,fun v _ _ h _=>h,fun v _ _ h _=>h,fun v _ _ h _=>h,fun v _ _ h _=>h,fun v _ _ h _=>h,fun v _ _ h _=>h,fun v _ _ h _=>h,fun v _ _ h _=>h,fun v _ _ h _=>h,fun v _ _ h _=>h⟩
 case hJ=>exact (Ext.refl W).drew
 case hstep =>
  simp only [List.length_cons,List.length_nil,Nat.reduceAdd,List.take_succ_cons,List.take_zero,zcl,and_true]
  refine ⟨?_,?_,?_,?_,?_,?_,?_,?_,?_,?_,?_,?_,?_,?_⟩
  ·intro x W1 hj f
   have h:x 2 = .pointer (some ⟨pe,0,none⟩):=f.1
   have hc:=hj.cell hpe
   go_wp
   exact zaf rfl ⟨hj,MvE.refl _ _⟩
  ·intro x W1 hj f
   have h:x 2 = .pointer (some ⟨pe,0,none⟩):=f.1
   have hc:=hj.cell hpe
   go_wp
   exact zaf rfl ⟨hj,MvE.refl _ _⟩
  ·intro x W1 hj f
   have h:x 9 = .pointer (some ⟨E,0,none⟩):=f.1
   go_wp
   exact zaf rfl ⟨hj,MvE.refl _ _⟩
  ·intro x W1 hj f
   have h:x 10 = .pointer (some ⟨E,0,none⟩):=f.1
   go_wp
   exact zaf rfl ⟨hj,MvE.refl _ _⟩
  ·intro x W1 hj f
   have h:x 11 = .pointer (some ⟨E,4,none⟩):=f.1
   have hc4:=(hE.ext hj).cell (j:=4) rfl
   have hc5:=(hE.ext hj).cell (j:=5) rfl
   have hc6:=(hE.ext hj).cell (j:=6) rfl
   go_wp
   exact zaf rfl ⟨hj,MvE.refl _ _⟩
  ·intro x W1 hj f
   have h:x 0=St line:=f.1
   go_wp
   exact zaf rfl ⟨hj,MvE.refl _ _⟩
  ·intro x W1 hj f
   have h:x 1 = .bool gone:=f.1
   go_wp
   exact zaf rfl ⟨hj,MvE.refl _ _⟩
  ·intro x W1 hj f
   have h1:x 12=zbh e.cell:=f.1
   have h2:x 13=St line:=f.2.1
   have h3:x 14 = .bool gone:=f.2.2.1
   have HC:=Lib.hid (zox e.cell line gone W1)
   go_wp
   refine HC.out.mono ?_
   rintro r W2 ⟨rfl,hx2⟩
   dsimp only
   go_wp
   exact zaf rfl ⟨hj.trans hx2,hx2.mvE⟩
  ·intro x W1 hj f
   have h:x 15 = .tuple #[zbh (zap e.cell line gone).1,I (zap e.cell line gone).2]:=f.1
   go_wp
   exact zaf rfl ⟨hj,MvE.refl _ _⟩
  ·intro x W1 hj f
   have h:x 7 = .tuple #[zbh (zap e.cell line gone).1,I (zap e.cell line gone).2]:=f.1
   go_wp
   exact zaf rfl ⟨hj,MvE.refl _ _⟩
  ·intro x W1 b hj f
   have h:x 7 = .tuple #[zbh (zap e.cell line gone).1,I (zap e.cell line gone).2]:=f.1
   go_wp
   exact zaf rfl ⟨hj,MvE.refl _ _⟩
  ·intro x W1 hj f
   have h:x 8 = .pointer (some ⟨E,0,none⟩):=f.1
   go_wp
   exact zaf rfl ⟨hj,MvE.refl _ _⟩
  ·intro x W1 hj f
   have h:x 18 = .pointer (some ⟨E,0,none⟩):=f.1
   go_wp
   exact zaf rfl ⟨hj,MvE.refl _ _⟩
  ·intro x W1 hj f
   have h:x 19 = .pointer (some ⟨E,4,none⟩):=f.1
   have h2:x 16=zbh (zap e.cell line gone).1:=f.2.1
   have hEW:=hE.ext hj
   have hc4:=hEW.cell (j:=4) rfl
   have hc5:=hEW.cell (j:=5) rfl
   have hc6:=hEW.cell (j:=6) rfl
   have hf4:=hEW.frozen 4
   have hf5:=hEW.frozen 5
   have hf6:=hEW.frozen 6
   have hE4:=hEW.set (j:=4) (by simp) (U (zap e.cell line gone).1.1)
   have hE5:=hE4.set (j:=5) (by simp) (St (zap e.cell line gone).1.2.1)
   have hE6:=hE5.set (j:=6) (by simp) (.bool (zap e.cell line gone).1.2.2)
   have hp:J1 (((W1.setCell ⟨E,4,none⟩ (U (zap e.cell line gone).1.1)).setCell ⟨E,5,none⟩ (St (zap e.cell line gone).1.2.1)).setCell ⟨E,6,none⟩ (.bool (zap e.cell line gone).1.2.2)):=⟨hE6,(((hr.ext hj).other hpr.symm _).other hpr.symm _).other hpr.symm _,(((hj.kept E pr).set1 _).set1 _).set1 _⟩
   have hm:MvE E W1 (((W1.setCell ⟨E,4,none⟩ (U (zap e.cell line gone).1.1)).setCell ⟨E,5,none⟩ (St (zap e.cell line gone).1.2.1)).setCell ⟨E,6,none⟩ (.bool (zap e.cell line gone).1.2.2)):=⟨by simp only [World.size_setCell];exact Nat.le_refl _,fun b _ hb=>((Below.heap_setCell _ _ _ _ hb).trans (Below.heap_setCell _ _ _ _ hb)).trans (Below.heap_setCell _ _ _ _ hb)⟩
   clear hE4 hE5 hE6 hEW hj
   go_wp
   exact zaf (v:=undef) trivial ⟨hp,hm⟩
 case hend =>
  intro x W1 hj f
  obtain⟨hE1,hr1,hk⟩:=hj
  have h17:x 17=I (zap e.cell line gone).2:=f.2.2.2.2.2.2.2.2.2.2.1
  simp only [List.length_cons,List.length_nil,Nat.reduceAdd,List.take_succ_cons,List.take_zero,List.filterMap_cons,List.filterMap_nil,List.drop_succ_cons,List.drop_zero,zaz,Act.put,List.setIfInBounds_toArray,List.set_cons_succ,List.set_cons_zero,h17]
  have hrf:=hr1.frozen 0
  have hrc:=hr1.cell (j:=0) rfl
  clear f
  have HK:=Lib.hid (hk.set2 (j:=0) (I (zap e.cell line gone).2))
  have HE:=Lib.hid (hE1.other (p:=⟨pr,0,none⟩) hpr (I (zap e.cell line gone).2))
  have hcs:=(hr1.set (j:=0) (by simp) (I (zap e.cell line gone).2)).cell (j:=0) rfl
  obtain⟨w9,hw9⟩:∃ w9,W1.setCell ⟨pr,0,none⟩ (I (zap e.cell line gone).2)=w9:=⟨_,rfl⟩
  rw [hw9] at HK HE hcs
  obtain⟨err,herr⟩:∃ err:Nat,(zap e.cell line gone).2=err:=⟨_,rfl⟩
  rw [herr] at hw9 hcs ⊢
  clear hr1 hE1 hk
  go_wp
  go_wp2_with fail
  go_ret
  have hA9:=HA.out.kept HK.out HS.out
  exact⟨by rw [herr];rfl,_,_,HE.out,⟨hA9.seen.mono (by decide) fun b _ h=>.inl h,hA9.counts.mono (by decide) fun b _ h=>.inl h,hA9.items.mono (by decide) fun b _ h=>.inl h⟩,HK.out⟩
theorem zsw {S:Nat→Prop} {W:World} {pe pr E:Nat} {e:Entry} {v1 v2 v3 z:Value} {po pd:Nat} {tx:Str} {d1:Dot} (ho3:W.cell? ⟨po,3,none⟩=some (St tx)) (hd:W.cell? ⟨pd,0,none⟩=some (St d1.1)) (hd1:W.cell? ⟨pd,1,none⟩=some (U d1.2)) (hl:(zaw e.items).length < 1099511627776)
  (hpe:W.cell? ⟨pe,0,none⟩=some (.pointer (some ⟨E,0,none⟩))) (hr:RowIs W pr 38 [z] []) (hE:RowIs W E 37 (entL e v1 v2 v3) []) (hA:EntAt W S e v1 v2 v3) (hS:∀ b,S b→b ≠ E∧b ≠ pr) (hpr:pr ≠ E) :
  Calls Tryz.prog 161 #[.pointer (some ⟨pe,0,none⟩),.pointer (some ⟨po,0,none⟩),.pointer (some ⟨pd,0,none⟩),.pointer (some ⟨pr,0,none⟩)] W fun r w'=>r = .returned (I (putB e.items tx d1).2)∧Did W w' E pr S { e with items:=(putB e.items tx d1).1 } v1:=by
 obtain⟨A1,n1,rfl,-,-⟩:=hA.seen.form
 obtain⟨A2,n2,rfl,-,-⟩:=hA.counts.form
 obtain⟨A3,n3,rfl,-,-⟩:=hA.items.form
 have HA:=Lib.hid hA
 have HS:=Lib.hid hS
 clear hA hS
 have hEl:=hE.lt
 let J1:World→Prop:=fun w=>∃ u,OwnL itemT 96 w W.heap.size (fun b=>W.heap.size≤b) u (putB e.items tx d1).1∧RowIs w E 37 (entL e (.slice A1 e.seen.length n1) (.slice A2 e.counts.length n2) u) []∧RowIs w pr 38 [z] []∧Kept2 W w E pr
 go_enter Tryz.func161,Tryz.ntmps161
 go_wp2_with fail
 refine zeg [.early (fun v _=>v = .pointer (some ⟨E,0,none⟩)),
  .early (fun v _=>v = .pointer (some ⟨E,0,none⟩)),
  .early (fun v _=>v = .pointer (some ⟨E,0,none⟩)),
  .early (fun v _=>v = .pointer (some ⟨E,3,none⟩)),
  .early (fun v _=>v = .slice A3 e.items.length n3),
  .early (fun v _=>v = .pointer (some ⟨po,3,none⟩)),
  .early (fun v _=>v=St tx),
  .early (fun v _=>v=dotV d1),
  .early (fun v W2=>∃ v4,v = .tuple #[v4,I (putB e.items tx d1).2]∧OwnL itemT 96 W2 W.heap.size (fun b=>W.heap.size≤b) v4 (putB e.items tx d1).1),
  .early (fun v W2=>∃ v4,v = .tuple #[v4,I (putB e.items tx d1).2]∧OwnL itemT 96 W2 W.heap.size (fun b=>W.heap.size≤b) v4 (putB e.items tx d1).1),
  .early (fun v W2=>OwnL itemT 96 W2 W.heap.size (fun b=>W.heap.size≤b) v (putB e.items tx d1).1),
  .late (fun v _=>v=I (putB e.items tx d1).2),
  .early (fun v _=>v = .pointer (some ⟨E,0,none⟩)),
  .early (fun v _=>v = .pointer (some ⟨E,3,none⟩)),
  .store] 14 (fun w=>Ext W w) J1 (MvE E) rfl (by kernel_rfl) (by kernel_rfl) ?hR ?hJ ?hstep ?hend
 case hR =>
  simp only [List.mem_cons,List.not_mem_nil,or_false,forall_eq_or_imp,forall_eq,HF.fact]
  exact⟨fun v _ _ h _=>h,fun v _ _ h _=>h,fun v _ _ h _=>h,fun v _ _ h _=>h,fun v _ _ h _=>h,fun v _ _ h _=>h,fun v _ _ h _=>h,fun v _ _ h _=>h,fun v _ _ h he=>by obtain⟨u,e1,ho⟩:=h;exact⟨u,e1,ho.mvE he hEl⟩,fun v _ _ h he=>by obtain⟨u,e1,ho⟩:=h;exact⟨u,e1,ho.mvE he hEl⟩,fun v _ _ h he=>h.mvE he hEl,fun v _ _ h _=>h,fun v _ _ h _=>h,fun v _ _ h _=>h,fun v _ _ h _=>h⟩
 case hJ=>exact (Ext.refl W).drew
 case hstep =>
  simp only [List.length_cons,List.length_nil,Nat.reduceAdd,List.take_succ_cons,List.take_zero,zcl,and_true]
  refine ⟨?_,?_,?_,?_,?_,?_,?_,?_,?_,?_,?_,?_,?_,?_,?_⟩
  ·intro x W1 hj f
   have h:x 0 = .pointer (some ⟨pe,0,none⟩):=f.1
   have hc:=hj.cell hpe
   go_wp
   exact zaf rfl ⟨hj,MvE.refl _ _⟩
  ·intro x W1 hj f
   have h:x 0 = .pointer (some ⟨pe,0,none⟩):=f.1
   have hc:=hj.cell hpe
   go_wp
   exact zaf rfl ⟨hj,MvE.refl _ _⟩
  ·intro x W1 hj f
   have h:x 7 = .pointer (some ⟨E,0,none⟩):=f.1
   go_wp
   exact zaf rfl ⟨hj,MvE.refl _ _⟩
  ·intro x W1 hj f
   have h:x 8 = .pointer (some ⟨E,0,none⟩):=f.1
   go_wp
   exact zaf rfl ⟨hj,MvE.refl _ _⟩
  ·intro x W1 hj f
   have h:x 9 = .pointer (some ⟨E,3,none⟩):=f.1
   have hc:=(hE.ext hj).cell (j:=3) rfl
   go_wp
   exact zaf rfl ⟨hj,MvE.refl _ _⟩
  ·intro x W1 hj f
   have h:x 1 = .pointer (some ⟨po,0,none⟩):=f.1
   go_wp
   exact zaf rfl ⟨hj,MvE.refl _ _⟩
  ·intro x W1 hj f
   have h:x 11 = .pointer (some ⟨po,3,none⟩):=f.1
   have hc:=hj.cell ho3
   go_wp
   exact zaf rfl ⟨hj,MvE.refl _ _⟩
  ·intro x W1 hj f
   have h:x 2 = .pointer (some ⟨pd,0,none⟩):=f.1
   have hc:=hj.cell hd
   have hc1:=hj.cell hd1
   go_wp
   exact zaf rfl ⟨hj,MvE.refl _ _⟩
  ·intro x W1 hj f
   have h1:x 10 = .slice A3 e.items.length n3:=f.1
   have h2:x 12=St tx:=f.2.1
   have h3:x 13=dotV d1:=f.2.2.1
   have hs:=hj.size
   have HC:=Lib.hid (zsh tx d1 (HA.out.items.ext (by decide) hj) hl)
   go_wp
   refine HC.out.mono ?_
   rintro r W2 ⟨v4,rfl,ho,hx2⟩
   dsimp only
   go_wp
   exact zaf (v:=.tuple #[v4,I (putB e.items tx d1).2]) ⟨v4,rfl,(ho.lower hs).mono fun b _ h=>Nat.le_trans hs h⟩ ⟨hj.trans hx2,hx2.mvE⟩
  ·intro x W1 hj f
   obtain⟨v4,h,ho⟩:∃ v4,x 14 = .tuple #[v4,I (putB e.items tx d1).2]∧OwnL itemT 96 W1 W.heap.size (fun b=>W.heap.size≤b) v4 (putB e.items tx d1).1:=f.1
   go_wp
   exact zaf ⟨v4,rfl,ho⟩ ⟨hj,MvE.refl _ _⟩
  ·intro x W1 hj f
   obtain⟨v4,h,ho⟩:∃ v4,x 5 = .tuple #[v4,I (putB e.items tx d1).2]∧OwnL itemT 96 W1 W.heap.size (fun b=>W.heap.size≤b) v4 (putB e.items tx d1).1:=f.1
   go_wp
   exact zaf ho ⟨hj,MvE.refl _ _⟩
  ·intro x W1 b hj f
   obtain⟨v4,h,ho⟩:∃ v4,x 5 = .tuple #[v4,I (putB e.items tx d1).2]∧OwnL itemT 96 W1 W.heap.size (fun b=>W.heap.size≤b) v4 (putB e.items tx d1).1:=f.1
   go_wp
   exact zaf rfl ⟨hj,MvE.refl _ _⟩
  ·intro x W1 hj f
   have h:x 6 = .pointer (some ⟨E,0,none⟩):=f.1
   go_wp
   exact zaf rfl ⟨hj,MvE.refl _ _⟩
  ·intro x W1 hj f
   have h:x 17 = .pointer (some ⟨E,0,none⟩):=f.1
   go_wp
   exact zaf rfl ⟨hj,MvE.refl _ _⟩
  ·intro x W1 hj f
   have h:x 18 = .pointer (some ⟨E,3,none⟩):=f.1
   have ho:OwnL itemT 96 W1 W.heap.size (fun b=>W.heap.size≤b) (x 15) (putB e.items tx d1).1:=f.2.1
   obtain⟨A,c,hA,-,-⟩:=ho.form
   have hEW:=hE.ext hj
   have hc:=hEW.cell (j:=3) rfl
   have hf:=hEW.frozen 3
   rw [hA] at ho
   have hp:J1 (W1.setCell ⟨E,3,none⟩ (.slice A (putB e.items tx d1).1.length c)):=⟨_,ho.mvE (MvE.set _ _ _ _) hEl,hEW.set (j:=3) (by simp) _,(hr.ext hj).other hpr.symm _,(hj.kept E pr).set1 _⟩
   have hm:=MvE.set E 3 W1 (.slice A (putB e.items tx d1).1.length c)
   generalize hW2:W1.setCell ⟨E,3,none⟩ (.slice A (putB e.items tx d1).1.length c)=W2 at *
   clear hj ho hEW
   go_wp
   exact zaf (v:=undef) trivial ⟨hp,hm⟩
 case hend =>
  intro x W1 hj f
  obtain⟨u,ho,hE1,hr1,hk⟩:=hj
  have h17:x 16=I (putB e.items tx d1).2:=f.2.2.2.2.2.2.2.2.2.2.2.1
  simp only [List.length_cons,List.length_nil,Nat.reduceAdd,List.take_succ_cons,List.take_zero,List.filterMap_cons,List.filterMap_nil,List.drop_succ_cons,List.drop_zero,zaz,Act.put,List.setIfInBounds_toArray,List.set_cons_succ,List.set_cons_zero,h17]
  have hrf:=hr1.frozen 0
  have hrc:=hr1.cell (j:=0) rfl
  clear f
  have HK:=Lib.hid (hk.set2 (j:=0) (I (putB e.items tx d1).2))
  have HE:=Lib.hid (hE1.other (p:=⟨pr,0,none⟩) hpr (I (putB e.items tx d1).2))
  have HO:=Lib.hid ((ho.mono (S':=fun b=>W.heap.size≤b∧b ≠ pr) (fun b _ h=>⟨h,by have:=hr.lt;omega⟩)).keep (w':=W1.setCell ⟨pr,0,none⟩ (I (putB e.items tx d1).2)) (fun b hb _=>Below.heap_setCell _ _ _ _ (fun e2=>hb.2 e2)) fun b hb _=>Below.heap_setCell _ _ _ _ (fun e2=>by have:=(ho.base_le hb).1;have:=hr.lt;have e3:b=pr:=e2;omega))
  clear ho
  have hcs:=(hr1.set (j:=0) (by simp) (I (putB e.items tx d1).2)).cell (j:=0) rfl
  obtain⟨w9,hw9⟩:∃ w9,W1.setCell ⟨pr,0,none⟩ (I (putB e.items tx d1).2)=w9:=⟨_,rfl⟩
  rw [hw9] at HK HE HO hcs
  obtain⟨err,herr⟩:∃ err:Nat,(putB e.items tx d1).2=err:=⟨_,rfl⟩
  rw [herr] at hw9 hcs ⊢
  clear hr1 hE1 hk
  go_wp
  go_wp2_with fail
  go_ret
  have hA9:=HA.out.kept HK.out HS.out
  exact⟨by rw [herr];rfl,_,u,HE.out,⟨hA9.seen.mono (by decide) fun b _ h=>.inl h,hA9.counts.mono (by decide) fun b _ h=>.inl h,HO.out.sl (by decide) (fun _ _ h=>.inr h.1) (fun b h _=>.inr h)⟩,HK.out⟩
end
section
open Go.RowKit Go.Shelf
theorem Did.mono {W W1 w':World} {E pr:Nat} {S:Nat→Prop} {e':Entry} {v1:Value} (h:Did W1 w' E pr S e' v1) (he:Ext W W1):Did W w' E pr S e' v1:=by
 obtain⟨u2,u3,h1,h2,h3⟩:=h
 exact⟨u2,u3,h1,h2.mono (fun b _ hb=>hb.elim .inl fun h=>.inr (Nat.le_trans he.size h)),⟨h3.os.trans he.os,h3.tape.trans he.tape,h3.output.trans he.output,Nat.le_trans he.size h3.size,fun j hj a b=>(h3.other j (Nat.lt_of_lt_of_le hj he.size) a b).trans (he.block j hj)⟩⟩
theorem zsx {S:Nat→Prop} {W:World} {pa po pe pd pr E:Nat} {e:Entry} {v1 v2 v3 z:Value} {d1:Str} (n:Int) (hn1:-9223372036854775808≤n) (hn2:n≤9223372036854775807)
  (hpa:W.cell? ⟨pa,0,none⟩=some (.func (.func 155) #[] #[.pointer (some ⟨pe,0,none⟩),.pointer (some ⟨pd,0,none⟩),.pointer (some ⟨pr,0,none⟩)])) (hpo:W.cell? ⟨po,2,none⟩=some (I n))
  (hd:W.cell? ⟨pd,0,none⟩=some (St d1)) (hl:e.counts.length < 1099511627776)
  (hpe:W.cell? ⟨pe,0,none⟩=some (.pointer (some ⟨E,0,none⟩))) (hr:RowIs W pr 38 [z] []) (hE:RowIs W E 37 (entL e v1 v2 v3) []) (hA:EntAt W S e v1 v2 v3) (hS:∀ b,S b→b ≠ E∧b ≠ pr) (hpr:pr ≠ E) :
  Calls Tryz.prog 159 #[.pointer (some ⟨pa,0,none⟩),.pointer (some ⟨po,0,none⟩)] W fun r w'=>r = .returned (I (addC e.counts d1 n).2)∧Did W w' E pr S { e with counts:=(addC e.counts d1 n).1 } v1:=by
 have eg:∀ args w,(callFunc 155 args).run Tryz.prog w = .ok (.enter 155 args) w:=enters_of Tryz.func155 (by kernel_rfl) rfl
 have HC:=Lib.hid (zmk n hn1 hn2 hd hl hpe hr hE hA hS hpr)
 clear hd hl hpe hr hE hA hS hpr hn1 hn2
 go_enter Tryz.func159,Tryz.ntmps159
 go_wp2_with fail
 refine HC.out.mono ?_
 rintro r W1 ⟨rfl,hD⟩
 go_wp2_with fail
 go_ret
 exact⟨rfl,hD⟩
theorem eqI {a b:Int} (h:a=b):(a == b)=true:=by simpa using h
theorem neI {a b:Int} (h:a ≠ b):(a == b)=false:=by simpa using h
def delC (l:List zal) (s:Str):List zal × Nat:=if zcq l = -9223372036854775808 then (l,9) else addC l s (-zcq l)
theorem zsy {S:Nat→Prop} {W:World} {pa pe pd pr E:Nat} {e:Entry} {v1 v2 v3 z:Value} {d1:Str}
  (hpa:W.cell? ⟨pa,0,none⟩=some (.func (.func 155) #[] #[.pointer (some ⟨pe,0,none⟩),.pointer (some ⟨pd,0,none⟩),.pointer (some ⟨pr,0,none⟩)]))
  (hd:W.cell? ⟨pd,0,none⟩=some (St d1)) (hl:e.counts.length < 1099511627776)
  (hpe:W.cell? ⟨pe,0,none⟩=some (.pointer (some ⟨E,0,none⟩))) (hr:RowIs W pr 38 [z] []) (hE:RowIs W E 37 (entL e v1 v2 v3) []) (hA:EntAt W S e v1 v2 v3) (hS:∀ b,S b→b ≠ E∧b ≠ pr) (hpr:pr ≠ E) :
  Calls Tryz.prog 160 #[.pointer (some ⟨pe,0,none⟩),.pointer (some ⟨pa,0,none⟩)] W fun r w'=>r = .returned (I (delC e.counts d1).2)∧Did W w' E pr S { e with counts:=(delC e.counts d1).1 } v1:=by
 have eg:∀ args w,(callFunc 155 args).run Tryz.prog w = .ok (.enter 155 args) w:=enters_of Tryz.func155 (by kernel_rfl) rfl
 have hV:=zk8 (sumL (zbj e.counts) (zbn e.counts))
 have HC:=Lib.hid (zgd hA.counts)
 have k2:=hE.cell (j:=2) rfl
 obtain⟨A2,n2,rfl,-,-⟩:=hA.counts.form
 have HD:=Lib.hid (show delC e.counts d1=if zcq e.counts = -9223372036854775808 then (e.counts,9) else addC e.counts d1 (-zcq e.counts) from rfl)
 have HADD:=Lib.hid (fun (W1:World) (n:Int) (a:-9223372036854775808≤n) (b:n≤9223372036854775807) (hx:Ext W W1)=>zmk n a b (hx.cell hd) hl (hx.cell hpe) (hr.ext hx) (hE.ext hx) (hA.ext hx) hS hpr)
 have HE:=Lib.hid hE
 have HA:=Lib.hid hA
 change -9223372036854775808≤zcq e.counts∧zcq e.counts≤9223372036854775807 at hV
 clear hd hl hr hE hA hS hpr
 go_enter Tryz.func160,Tryz.ntmps160
 go_wp2_with fail
 refine HC.out.mono ?_
 rintro r W1 ⟨rfl,hx1⟩
 obtain⟨v,hv⟩:∃ v,zcq e.counts=v:=⟨_,rfl⟩
 rw [hv] at hV HD
 rw [hv]
 have hpa1:=hx1.cell hpa
 by_cases h:v = -9223372036854775808
 ·have HD2:=Lib.hid (show delC e.counts d1=(e.counts,9) by rw [HD.out,if_pos h])
  have hk:=eqI h
  clear h
  go_wp2_with fail
  go_ret
  exact⟨by rw [HD2.out];rfl,by rw [HD2.out];exact⟨_,_,HE.out.ext hx1,(HA.out.ext hx1).mono fun b _ h=>.inl h,hx1.kept _ _⟩⟩
 ·have HD2:=Lib.hid (show delC e.counts d1=addC e.counts d1 (-v) by rw [HD.out,if_neg h])
  have hk:=neI h
  have hw:IntKind.i64.wrap (-v) = -v:=by rw [IntKind.wrap_i64];omega
  have HC2:=Lib.hid (HADD.out W1 (-v) (by omega) (by omega) hx1)
  have HX1:=Lib.hid hx1
  clear h HADD hx1
  go_wp2_with fail
  refine HC2.out.mono ?_
  rintro r W2 ⟨rfl,hD⟩
  go_wp2_with fail
  go_ret
  exact⟨by rw [HD2.out];rfl,by rw [HD2.out];exact hD.mono HX1.out⟩
theorem zsz {S:Nat→Prop} {W:World} {pe pr E:Nat} {e:Entry} {v1 v2 v3:Value}
  (hpe:W.cell? ⟨pe,0,none⟩=some (.pointer (some ⟨E,0,none⟩))) (hE:RowIs W E 37 (entL e v1 v2 v3) []) (hA:EntAt W S e v1 v2 v3) (hS:∀ b,S b→b ≠ E∧b ≠ pr) :
  Calls Tryz.prog 165 #[.pointer (some ⟨pe,0,none⟩)] W fun r w'=>r = .returned (I 0)∧Did W w' E pr S { e with items:=[] } v1:=by
 obtain⟨A3,n3,rfl,-,-⟩:=hA.items.form
 have hc:=hE.cell (j:=3) rfl
 have hf:=hE.frozen 3
 have HK:=Lib.hid ((Kept2.refl W E pr).set1 (j:=3) (.slice none 0 0))
 have HE:=Lib.hid (hE.set (j:=3) (by simp) (.slice none 0 0))
 have HA:=Lib.hid (hA.kept HK.out hS)
 clear hE hA hS
 go_enter Tryz.func165,Tryz.ntmps165
 go_wp2_with fail
 go_ret
 exact⟨rfl,_,_,HE.out,⟨HA.out.seen.mono (by decide) fun b _ h=>.inl h,HA.out.counts.mono (by decide) fun b _ h=>.inl h,Sl.nil _ _ (by decide)⟩,HK.out⟩
theorem zs0 {S:Nat→Prop} {W:World} {pa po pe pr E:Nat} {e:Entry} {v1 v2 v3 z:Value} {tx:Str}
  (hpa:W.cell? ⟨pa,0,none⟩=some (.func (.func 157) #[] #[.pointer (some ⟨pe,0,none⟩),.pointer (some ⟨pr,0,none⟩)])) (hpo:W.cell? ⟨po,3,none⟩=some (St tx))
  (hpe:W.cell? ⟨pe,0,none⟩=some (.pointer (some ⟨E,0,none⟩))) (hr:RowIs W pr 38 [z] []) (hE:RowIs W E 37 (entL e v1 v2 v3) []) (hA:EntAt W S e v1 v2 v3) (hS:∀ b,S b→b ≠ E∧b ≠ pr) (hpr:pr ≠ E) :
  Calls Tryz.prog 166 #[.pointer (some ⟨pa,0,none⟩),.pointer (some ⟨po,0,none⟩)] W fun r w'=>r = .returned (I (zap e.cell tx false).2)∧Did W w' E pr S { e with cell:=(zap e.cell tx false).1 } v1:=by
 have eg:∀ args w,(callFunc 157 args).run Tryz.prog w = .ok (.enter 157 args) w:=enters_of Tryz.func157 (by kernel_rfl) rfl
 have HC:=Lib.hid (zml tx false hpe hr hE hA hS hpr)
 clear hpe hr hE hA hS hpr
 go_enter Tryz.func166,Tryz.ntmps166
 go_wp2_with fail
 refine HC.out.mono ?_
 rintro r W1 ⟨rfl,hD⟩
 go_wp2_with fail
 go_ret
 exact⟨rfl,hD⟩
theorem zs1 {S:Nat→Prop} {W:World} {pa pe pr E:Nat} {e:Entry} {v1 v2 v3 z:Value}
  (hpa:W.cell? ⟨pa,0,none⟩=some (.func (.func 157) #[] #[.pointer (some ⟨pe,0,none⟩),.pointer (some ⟨pr,0,none⟩)]))
  (hpe:W.cell? ⟨pe,0,none⟩=some (.pointer (some ⟨E,0,none⟩))) (hr:RowIs W pr 38 [z] []) (hE:RowIs W E 37 (entL e v1 v2 v3) []) (hA:EntAt W S e v1 v2 v3) (hS:∀ b,S b→b ≠ E∧b ≠ pr) (hpr:pr ≠ E) :
  Calls Tryz.prog 167 #[.pointer (some ⟨pa,0,none⟩)] W fun r w'=>r = .returned (I (zap e.cell [] true).2)∧Did W w' E pr S { e with cell:=(zap e.cell [] true).1 } v1:=by
 have eg:∀ args w,(callFunc 157 args).run Tryz.prog w = .ok (.enter 157 args) w:=enters_of Tryz.func157 (by kernel_rfl) rfl
 have HC:=Lib.hid (zml [] true hpe hr hE hA hS hpr)
 clear hpe hr hE hA hS hpr
 go_enter Tryz.func167,Tryz.ntmps167
 go_wp2_with fail
 refine HC.out.mono ?_
 rintro r W1 ⟨rfl,hD⟩
 go_wp2_with fail
 go_ret
 exact⟨rfl,hD⟩
theorem zs2 {S:Nat→Prop} {W:World} {po pe pr E:Nat} {e:Entry} {v1 v2 v3:Value} {tx:Str} (ho3:W.cell? ⟨po,3,none⟩=some (St tx)) (hl:(zaw e.items).length≤1099511627776)
  (hpe:W.cell? ⟨pe,0,none⟩=some (.pointer (some ⟨E,0,none⟩))) (hE:RowIs W E 37 (entL e v1 v2 v3) []) (hA:EntAt W S e v1 v2 v3) (hS:∀ b,S b→b ≠ E∧b ≠ pr) :
  Calls Tryz.prog 163 #[.pointer (some ⟨pe,0,none⟩),.pointer (some ⟨po,0,none⟩)] W fun r w'=>r = .returned (I 0)∧Did W w' E pr S { e with items:=zfr e.items tx } v1:=by
 obtain⟨A1,n1,rfl,-,-⟩:=hA.seen.form
 obtain⟨A2,n2,rfl,-,-⟩:=hA.counts.form
 obtain⟨A3,n3,rfl,-,-⟩:=hA.items.form
 have HA:=Lib.hid hA
 have HS:=Lib.hid hS
 have hEl:=hE.lt
 clear hA hS
 go_enter Tryz.func163,Tryz.ntmps163
 go_wp2_with fail
 refine za9 [fun v _=>v = .pointer (some ⟨E,0,none⟩),fun v _=>v = .pointer (some ⟨E,0,none⟩),fun v _=>v = .pointer (some ⟨E,0,none⟩),fun v _=>v = .pointer (some ⟨E,3,none⟩),fun v _=>v = .slice A3 e.items.length n3,fun v _=>v = .pointer (some ⟨po,3,none⟩),fun v _=>v=St tx,
  fun v W2=>OwnL itemT 96 W2 W.heap.size (fun b=>W.heap.size≤b) v (zfr e.items tx),fun v _=>v = .pointer (some ⟨E,0,none⟩),fun v _=>v = .pointer (some ⟨E,3,none⟩)] rfl (by kernel_rfl) ?hR ?hstep ?hend
 case hR =>
  simp only [List.mem_cons,List.not_mem_nil,or_false,forall_eq_or_imp,forall_eq]
  exact⟨fun v _ _ h _=>h,fun v _ _ h _=>h,fun v _ _ h _=>h,fun v _ _ h _=>h,fun v _ _ h _=>h,fun v _ _ h _=>h,fun v _ _ h _=>h,fun v _ _ h he=>h.ext he,fun v _ _ h _=>h,fun v _ _ h _=>h⟩
 case hstep =>
  simp only [List.length_cons,List.length_nil,Nat.reduceAdd,List.take_succ_cons,List.take_zero,zb1,and_true]
  refine ⟨?_,?_,?_,?_,?_,?_,?_,?_,?_,?_⟩
  ·intro x W1 he f
   have h:x 0 = .pointer (some ⟨pe,0,none⟩):=f.1
   have hc:=he.cell hpe
   go_wp
   exact zaa rfl (Ext.refl _)
  ·intro x W1 he f
   have h:x 0 = .pointer (some ⟨pe,0,none⟩):=f.1
   have hc:=he.cell hpe
   go_wp
   exact zaa rfl (Ext.refl _)
  ·intro x W1 he f
   have h:x 4 = .pointer (some ⟨E,0,none⟩):=f.1
   go_wp
   exact zaa rfl (Ext.refl _)
  ·intro x W1 he f
   have h:x 5 = .pointer (some ⟨E,0,none⟩):=f.1
   go_wp
   exact zaa rfl (Ext.refl _)
  ·intro x W1 he f
   have h:x 6 = .pointer (some ⟨E,3,none⟩):=f.1
   have hc:=(hE.ext he).cell (j:=3) rfl
   go_wp
   exact zaa rfl (Ext.refl _)
  ·intro x W1 he f
   have h:x 1 = .pointer (some ⟨po,0,none⟩):=f.1
   go_wp
   exact zaa rfl (Ext.refl _)
  ·intro x W1 he f
   have h:x 8 = .pointer (some ⟨po,3,none⟩):=f.1
   have hc:=he.cell ho3
   go_wp
   exact zaa rfl (Ext.refl _)
  ·intro x W1 he f
   have h1:x 7 = .slice A3 e.items.length n3:=f.1
   have h2:x 9=St tx:=f.2.1
   have hs:=he.size
   have HC:=Lib.hid (zsg tx (HA.out.items.ext (by decide) he) hl)
   go_wp
   refine HC.out.mono ?_
   rintro r W2 ⟨v4,rfl,ho,hx2⟩
   dsimp only
   go_wp
   exact zaa (v:=v4) ((ho.lower hs).mono fun b _ h=>Nat.le_trans hs h) hx2
  ·intro x W1 he f
   have h:x 3 = .pointer (some ⟨E,0,none⟩):=f.1
   go_wp
   exact zaa rfl (Ext.refl _)
  ·intro x W1 he f
   have h:x 11 = .pointer (some ⟨E,0,none⟩):=f.1
   go_wp
   exact zaa rfl (Ext.refl _)
 case hend =>
  intro x W1 he f
  have h12:x 12 = .pointer (some ⟨E,3,none⟩):=f.2.2.2.2.2.2.2.2.2.1
  have ho:OwnL itemT 96 W1 W.heap.size (fun b=>W.heap.size≤b) (x 10) (zfr e.items tx):=f.2.2.2.2.2.2.2.1
  obtain⟨A,c,hA,-,-⟩:=ho.form
  simp only [List.length_cons,List.length_nil,Nat.reduceAdd,List.take_succ_cons,List.take_zero,List.filterMap_cons,List.filterMap_nil,List.drop_succ_cons,List.drop_zero,zaz,Act.put,List.setIfInBounds_toArray,List.set_cons_succ,List.set_cons_zero,h12,hA]
  rw [hA] at ho
  have hEW:=hE.ext he
  have hc:=hEW.cell (j:=3) rfl
  have hf:=hEW.frozen 3
  have HE:=Lib.hid (hEW.set (j:=3) (by simp) (.slice A (zfr e.items tx).length c))
  have HK:=Lib.hid ((he.kept E pr).set1 (j:=3) (.slice A (zfr e.items tx).length c))
  have HO:=Lib.hid (ho.mvE (MvE.set E 3 W1 (.slice A (zfr e.items tx).length c)) hEl)
  clear f ho hEW
  go_wp
  go_wp2_with fail
  go_ret
  have hA9:=HA.out.kept HK.out HS.out
  exact⟨rfl,_,_,HE.out,⟨hA9.seen.mono (by decide) fun b _ h=>.inl h,hA9.counts.mono (by decide) fun b _ h=>.inl h,HO.out.sl (by decide) (fun b _ h=>.inr h) (fun b h _=>.inr h)⟩,HK.out⟩
end
section
open Go.RowKit Go.Shelf
theorem zlb {P:Program} (w:World) (T:TypeId) (u v:Value) (h:v.oneCell'=true) (a:Nat) (ha:a=w.heap.size):(store ⟨a,0,none⟩ v).run P (w.alloc (.cells #[u] T)) = .ok () (w.alloc (.cells #[v] T)):=by
 subst ha
 have hc:(w.alloc (.cells #[u] T)).cell? ⟨w.heap.size,0,none⟩=some u:=(zfz w u T).1
 have hf:=(zfz w u T).2
 rw [run_store P _ _ v _ h,hc]
 simp only [hf,World.setCell_alloc_new]
 rfl
def clo (f:Nat) (l:List Nat):Value:=.func (.func f) #[] (l.map fun b=>Value.pointer (some ⟨b,0,none⟩)).toArray
abbrev M8 (o:Option Nat):Value:=.map o
abbrev V8 (v:Value):Value:=v
structure UpdAt (w:World) (B E:Nat) (n:Int) (tx:Str) (d:Dot) (m:Nat):Prop where
 pe:w.cell? ⟨B,0,none⟩=some (.pointer (some ⟨E,0,none⟩))
 po2:w.cell? ⟨B+1,2,none⟩=some (I n)
 po3:w.cell? ⟨B+1,3,none⟩=some (St tx)
 d0:w.cell? ⟨B+2,0,none⟩=some (St d.1)
 d1:w.cell? ⟨B+2,1,none⟩=some (U d.2)
 err:RowIs w (B+3) 38 [I 0] []
 c1:w.cell? ⟨B+4,0,none⟩=some (clo 155 [B,B+2,B+3])
 c2:w.cell? ⟨B+5,0,none⟩=some (clo 157 [B,B+3])
 maps:∃ m1 m2 m3,MapIs K8 M8 w m [(1,some m1),(2,some m2),(3,some m3)] ∧
  MapIs K8 V8 w m1 [(1,clo 159 [B+4,B+1]),(5,clo 160 [B,B+4])] ∧
  MapIs K8 V8 w m2 [(2,clo 161 [B,B+1,B+2,B+3]),(3,clo 163 [B,B+1]),(5,clo 165 [B])] ∧
  MapIs K8 V8 w m3 [(4,clo 166 [B+5,B+1]),(5,clo 167 [B+5])]
theorem zi8 {W:World} {E:Nat} (k:Str) (dO:Nat) (n:Int) (tx:Str) (d:Dot) :
  Calls Tryz.prog 94 #[.pointer (some ⟨E,0,none⟩),.agg #[K8 dO,St k,I n,St tx],dotV d] W fun r w'=>∃ m,r = .returned (.map (some m))∧UpdAt w' W.heap.size E n tx d m∧W.heap.size+6≤w'.heap.size∧Ext W w':=by
 have hmm:=@run_makeMap Tryz.prog
 obtain⟨B,hB⟩:∃ B,B=W.heap.size:=⟨_,rfl⟩
 have hs1:=zlb (P:=Tryz.prog) ((((W.alloc (.cells #[.pointer (some ⟨E,0,none⟩)] 143)).alloc (.cells #[K8 dO,St k,I n,St tx] 42)).alloc (.cells #[St d.1,U d.2] 97)).alloc (.cells #[I 0] 38)) 203 .nilFunc (.func (.func 155) #[] #[.pointer (some ⟨W.heap.size,0,none⟩),.pointer (some ⟨W.heap.size+1+1,0,none⟩),.pointer (some ⟨W.heap.size+1+1+1,0,none⟩)]) rfl (W.heap.size+1+1+1+1) (by simp)
 have hs2:=zlb (P:=Tryz.prog) (((((W.alloc (.cells #[.pointer (some ⟨E,0,none⟩)] 143)).alloc (.cells #[K8 dO,St k,I n,St tx] 42)).alloc (.cells #[St d.1,U d.2] 97)).alloc (.cells #[I 0] 38)).alloc (.cells #[(.func (.func 155) #[] #[.pointer (some ⟨W.heap.size,0,none⟩),.pointer (some ⟨W.heap.size+1+1,0,none⟩),.pointer (some ⟨W.heap.size+1+1+1,0,none⟩)])] 203)) 206 .nilFunc (.func (.func 157) #[] #[.pointer (some ⟨W.heap.size,0,none⟩),.pointer (some ⟨W.heap.size+1+1+1,0,none⟩)]) rfl (W.heap.size+1+1+1+1+1) (by simp)
 obtain⟨W5,hW5⟩:∃ W5,W5=(((((W.alloc (.cells #[.pointer (some ⟨E,0,none⟩)] 143)).alloc (.cells #[K8 dO,St k,I n,St tx] 42)).alloc (.cells #[St d.1,U d.2] 97)).alloc (.cells #[I 0] 38)).alloc (.cells #[(.func (.func 155) #[] #[.pointer (some ⟨W.heap.size,0,none⟩),.pointer (some ⟨W.heap.size+1+1,0,none⟩),.pointer (some ⟨W.heap.size+1+1+1,0,none⟩)])] 203)).alloc (.cells #[.func (.func 157) #[] #[.pointer (some ⟨W.heap.size,0,none⟩),.pointer (some ⟨W.heap.size+1+1+1,0,none⟩)]] 206):=⟨_,rfl⟩
 have hz5:W5.heap.size=W.heap.size+1+1+1+1+1+1:=by rw [hW5];simp
 have hx5:Ext W W5:=by rw [hW5];exact ((((((Ext.refl W).alloc _).alloc _).alloc _).alloc _).alloc _).alloc _
 have HU:Hid (∀ w,Ext W5 w→∀ m,(∃ m1 m2 m3,MapIs K8 M8 w m [(1,some m1),(2,some m2),(3,some m3)] ∧
   MapIs K8 V8 w m1 [(1,clo 159 [B+4,B+1]),(5,clo 160 [B,B+4])] ∧
   MapIs K8 V8 w m2 [(2,clo 161 [B,B+1,B+2,B+3]),(3,clo 163 [B,B+1]),(5,clo 165 [B])] ∧
   MapIs K8 V8 w m3 [(4,clo 166 [B+5,B+1]),(5,clo 167 [B+5])])→UpdAt w W.heap.size E n tx d m):=Lib.hid fun w hx m hmaps=>by
  subst hB
  refine ⟨hx.cell ?_,hx.cell ?_,hx.cell ?_,hx.cell ?_,hx.cell ?_,RowIs.ext ?_ hx,hx.cell ?_,hx.cell ?_,hmaps⟩
  ·rw [hW5];simp [go_sem]
  ·rw [hW5];simp [go_sem]
  ·rw [hW5];simp [go_sem]
  ·rw [hW5];simp [go_sem]
  ·rw [hW5];simp [go_sem]
  ·rw [hW5]
   have h:=zac (((W.alloc (.cells #[.pointer (some ⟨E,0,none⟩)] 143)).alloc (.cells #[K8 dO,St k,I n,St tx] 42)).alloc (.cells #[St d.1,U d.2] 97)) 38 [I 0]
   simp only [World.size_alloc] at h
   exact (h.alloc _).alloc _
  ·rw [hW5];simp [go_sem,clo]
  ·rw [hW5];simp [go_sem,clo]
 obtain⟨z,hz⟩:∃ z,z=W5.heap.size:=⟨_,rfl⟩
 obtain⟨Y1,hY1⟩:∃ Y1,Y1=(W5.alloc (.map #[] 0)).alloc (.map #[] 0):=⟨_,rfl⟩
 have hM:MapIs K8 M8 Y1 z []:=by rw [hY1,hz];exact (MapIs.new W5).ext ((Ext.refl _).alloc _)
 have hM1:MapIs K8 V8 Y1 (z+1) []:=by have:=MapIs.new (K:=K8) (V:=V8) (W5.alloc (.map #[] 0));rw [World.size_alloc] at this;rw [hY1,hz];exact this
 have hx1:Ext W5 Y1:=by rw [hY1];exact ((Ext.refl _).alloc _).alloc _
 have hzY:Y1.heap.size=z+1+1:=by rw [hY1,hz];simp
 obtain⟨Xa,ua,ma,ta⟩:=zao (P:=Tryz.prog) (t:=158) Tryz.underlying158 keyOk8 hM1 1 (clo 159 [B+4,B+1])
 obtain⟨Xb,ub,mb,tb⟩:=zao (P:=Tryz.prog) (t:=158) Tryz.underlying158 keyOk8 ma 5 (clo 160 [B,B+4])
 obtain⟨Xc,uc,mc,tc⟩:=zao (P:=Tryz.prog) (t:=159) Tryz.underlying159 keyOk8 ((hM.turned ta (by omega)).turned tb (by omega)) 1 (some (z+1))
 have hx2:=((hx1.turned ta (by omega)).turned tb (by omega)).turned tc (by omega)
 have mb2:=mb.turned tc (by omega)
 have hzc:Xc.heap.size=z+1+1:=by rw [tc.size,tb.size,ta.size,hzY]
 have hM2:=MapIs.new (K:=K8) (V:=V8) Xc
 have hy2:=(Ext.refl Xc).alloc (.map #[] 0)
 obtain⟨Xd,ud,md,td⟩:=zao (P:=Tryz.prog) (t:=158) Tryz.underlying158 keyOk8 hM2 2 (clo 161 [B,B+1,B+2,B+3])
 obtain⟨Xe,ue,me,te⟩:=zao (P:=Tryz.prog) (t:=158) Tryz.underlying158 keyOk8 md 3 (clo 163 [B,B+1])
 obtain⟨Xf,uf,mf,tf⟩:=zao (P:=Tryz.prog) (t:=158) Tryz.underlying158 keyOk8 me 5 (clo 165 [B])
 obtain⟨Xg,ug,mg,tg⟩:=zao (P:=Tryz.prog) (t:=159) Tryz.underlying159 keyOk8 ((((mc.ext hy2).turned td (by omega)).turned te (by omega)).turned tf (by omega)) 2 (some Xc.heap.size)
 have hx3:=((((hx2.trans hy2).turned td (by omega)).turned te (by omega)).turned tf (by omega)).turned tg (by omega)
 have mb3:=((((mb2.ext hy2).turned td (by omega)).turned te (by omega)).turned tf (by omega)).turned tg (by omega)
 have mf2:=mf.turned tg (by omega)
 have hzg:Xg.heap.size=z+1+1+1:=by rw [tg.size,tf.size,te.size,td.size,World.size_alloc,hzc]
 have hM3:=MapIs.new (K:=K8) (V:=V8) Xg
 have hy3:=(Ext.refl Xg).alloc (.map #[] 0)
 obtain⟨Xh,uh,mh,th⟩:=zao (P:=Tryz.prog) (t:=158) Tryz.underlying158 keyOk8 hM3 4 (clo 166 [B+5,B+1])
 obtain⟨Xi,ui,mi,ti⟩:=zao (P:=Tryz.prog) (t:=158) Tryz.underlying158 keyOk8 mh 5 (clo 167 [B+5])
 obtain⟨Xj,uj,mj,tj⟩:=zao (P:=Tryz.prog) (t:=159) Tryz.underlying159 keyOk8 (((mg.ext hy3).turned th (by omega)).turned ti (by omega)) 3 (some Xg.heap.size)
 have hx4:=(((hx3.trans hy3).turned th (by omega)).turned ti (by omega)).turned tj (by omega)
 have mb4:=(((mb3.ext hy3).turned th (by omega)).turned ti (by omega)).turned tj (by omega)
 have mf3:=(((mf2.ext hy3).turned th (by omega)).turned ti (by omega)).turned tj (by omega)
 have mi2:=mi.turned tj (by omega)
 have HR:=Lib.hid (HU.out Xj hx4 z ⟨z+1,Xc.heap.size,Xg.heap.size,mj,mb4,mf3,mi2⟩)
 have HX:=Lib.hid (hx5.trans hx4)
 have HZ:=Lib.hid (show W.heap.size+6≤Xj.heap.size by have:=hx4.size;omega)
 subst hB
 have ua':(Instr.mapUpdate 158 (.map (some (z+1))) (.int .u8 1) (.func (.func 159) #[] #[.pointer (some ⟨W.heap.size+1+1+1+1,0,none⟩),.pointer (some ⟨W.heap.size+1,0,none⟩)])).run Tryz.prog Y1 = .ok () Xa:=ua
 have ub':(Instr.mapUpdate 158 (.map (some (z+1))) (.int .u8 5) (.func (.func 160) #[] #[.pointer (some ⟨W.heap.size,0,none⟩),.pointer (some ⟨W.heap.size+1+1+1+1,0,none⟩)])).run Tryz.prog Xa = .ok () Xb:=ub
 have uc':(Instr.mapUpdate 159 (.map (some z)) (.int .u8 1) (.map (some (z+1)))).run Tryz.prog Xb = .ok () Xc:=uc
 have ud':(Instr.mapUpdate 158 (.map (some Xc.heap.size)) (.int .u8 2) (.func (.func 161) #[] #[.pointer (some ⟨W.heap.size,0,none⟩),.pointer (some ⟨W.heap.size+1,0,none⟩),.pointer (some ⟨W.heap.size+1+1,0,none⟩),.pointer (some ⟨W.heap.size+1+1+1,0,none⟩)])).run Tryz.prog (Xc.alloc (.map #[] 0)) = .ok () Xd:=ud
 have ue':(Instr.mapUpdate 158 (.map (some Xc.heap.size)) (.int .u8 3) (.func (.func 163) #[] #[.pointer (some ⟨W.heap.size,0,none⟩),.pointer (some ⟨W.heap.size+1,0,none⟩)])).run Tryz.prog Xd = .ok () Xe:=ue
 have uf':(Instr.mapUpdate 158 (.map (some Xc.heap.size)) (.int .u8 5) (.func (.func 165) #[] #[.pointer (some ⟨W.heap.size,0,none⟩)])).run Tryz.prog Xe = .ok () Xf:=uf
 have ug':(Instr.mapUpdate 159 (.map (some z)) (.int .u8 2) (.map (some Xc.heap.size))).run Tryz.prog Xf = .ok () Xg:=ug
 have uh':(Instr.mapUpdate 158 (.map (some Xg.heap.size)) (.int .u8 4) (.func (.func 166) #[] #[.pointer (some ⟨W.heap.size+1+1+1+1+1,0,none⟩),.pointer (some ⟨W.heap.size+1,0,none⟩)])).run Tryz.prog (Xg.alloc (.map #[] 0)) = .ok () Xh:=uh
 have ui':(Instr.mapUpdate 158 (.map (some Xg.heap.size)) (.int .u8 5) (.func (.func 167) #[] #[.pointer (some ⟨W.heap.size+1+1+1+1+1,0,none⟩)])).run Tryz.prog Xh = .ok () Xi:=ui
 have uj':(Instr.mapUpdate 159 (.map (some z)) (.int .u8 3) (.map (some Xg.heap.size))).run Tryz.prog Xi = .ok () Xj:=uj
 clear ua ub uc ud ue uf ug uh ui uj ma mb mc md me mf mg mh mi mj mb2 mb3 mb4 mf2 mf3 mi2 ta tb tc td te tf tg th ti tj hx1 hx2 hx3 hx4 hy2 hy3 hM hM1 hM2 hM3 hzc hzg hzY hx5 HU
 rw [hz,hz5] at *
 rw [hY1,hW5] at ua'
 clear hY1 hW5
 go_enter Tryz.func94,Tryz.ntmps94
 go_wp2_with fail
 go_ret
 exact⟨_,rfl,HR.out,HZ.out,HX.out⟩
end
section
open Go.RowKit Go.Shelf
abbrev OpD:=Nat × Str × Int × Str
abbrev opV (o:OpD):Value:=.agg #[K8 o.1,St o.2.1,I o.2.2.1,St o.2.2.2]
def za2 (B kk dO:Nat):Option Value :=
 if kk=1 then (if dO=1 then some (clo 159 [B+4,B+1]) else if dO=5 then some (clo 160 [B,B+4]) else none)
 else if kk=2 then (if dO=2 then some (clo 161 [B,B+1,B+2,B+3]) else if dO=3 then some (clo 163 [B,B+1]) else if dO=5 then some (clo 165 [B]) else none)
 else if kk=3 then (if dO=4 then some (clo 166 [B+5,B+1]) else if dO=5 then some (clo 167 [B+5]) else none)
 else none
def doE (kk:Nat) (e:Entry) (o:OpD) (d:Dot):Option (Entry × Nat) :=
 if kk=1 then (if o.1=1 then some ({ e with counts:=(addC e.counts d.1 o.2.2.1).1 },(addC e.counts d.1 o.2.2.1).2) else if o.1=5 then some ({ e with counts:=(delC e.counts d.1).1 },(delC e.counts d.1).2) else none)
 else if kk=2 then (if o.1=2 then some ({ e with items:=(putB e.items o.2.2.2 d).1 },(putB e.items o.2.2.2 d).2) else if o.1=3 then some ({ e with items:=zfr e.items o.2.2.2 },0) else if o.1=5 then some ({ e with items:=[] },0) else none)
 else if kk=3 then (if o.1=4 then some ({ e with cell:=(zap e.cell o.2.2.2 false).1 },(zap e.cell o.2.2.2 false).2) else if o.1=5 then some ({ e with cell:=(zap e.cell [] true).1 },(zap e.cell [] true).2) else none)
 else none
theorem UpdAt.ext {w w':World} {B E:Nat} {n:Int} {tx:Str} {d:Dot} {m:Nat} (h:UpdAt w B E n tx d m) (he:Ext w w'):UpdAt w' B E n tx d m:=by
 obtain⟨h1,h2,h3,h4,h5,h6,h7,h8,m1,m2,m3,h9,h10,h11,h12⟩:=h
 exact⟨he.cell h1,he.cell h2,he.cell h3,he.cell h4,he.cell h5,h6.ext he,he.cell h7,he.cell h8,m1,m2,m3,h9.ext he,h10.ext he,h11.ext he,h12.ext he⟩
theorem zuh (w:World):(zeroValue 158).run Tryz.prog w = .ok (M8 none) w:=Tryz.zeroValue158 w
theorem zrg (w:World):(zeroValue 156).run Tryz.prog w = .ok (V8 .nilFunc) w:=Tryz.zeroValue156 w
theorem zs3 (k:Nat) (w:World):(Instr.lookup 158 (.map none) (K8 k) true).run Tryz.prog w = .ok (.tuple #[.nilFunc,.bool false]) w:=by
 have hz:=zrg w
 have hc:=keyOk8.check true k w
 have hf:=MapIs.find (V:=V8) keyOk8 (es:=#[]) (L:=[]) rfl k w
 simp at hf
 simp [Instr.lookup,run_underlying Tryz.underlying158,hz,hc,hf]
def InnerIs (W:World) (B kk:Nat) (v:Value):Prop:=∀ W3,Ext W W3→∀ dO,(Instr.lookup 158 v (K8 dO) true).run Tryz.prog W3 = .ok (.tuple #[(za2 B kk dO).getD .nilFunc,.bool (za2 B kk dO).isSome]) W3
theorem InnerIs.ext {W W':World} {B kk:Nat} {v:Value} (h:InnerIs W B kk v) (he:Ext W W'):InnerIs W' B kk v:=fun W3 h3=>h W3 (he.trans h3)
theorem zjl {W:World} {B kk b:Nat} {L:List (Nat × Value)} (h:MapIs K8 V8 W b L) (hc:∀ dO,za2 B kk dO=zb5 L dO):InnerIs W B kk (.map (some b)):=fun W3 h3 dO=>by
 have:=(za3 (P:=Tryz.prog) (z:=Value.nilFunc) Tryz.underlying158 keyOk8 zrg (h.ext h3) dO).2
 rw [zem,show getL Value.nilFunc L dO=(zb5 L dO).getD .nilFunc from rfl,← hc] at this
 exact this
theorem zmm {w:World} {B E:Nat} {n:Int} {tx:Str} {d:Dot} {m:Nat} (h:UpdAt w B E n tx d m) (kk:Nat) :
  ∃ u,(∀ W3,Ext w W3→(Instr.lookup 159 (.map (some m)) (K8 kk) false).run Tryz.prog W3 = .ok u W3)∧InnerIs w B kk u:=by
 obtain⟨m1,m2,m3,h9,h10,h11,h12⟩:=h.maps
 refine ⟨M8 (getL none [(1,some m1),(2,some m2),(3,some m3)] kk),fun W3 h3=>(za3 (P:=Tryz.prog) (z:=none) Tryz.underlying159 keyOk8 zuh (h9.ext h3) kk).1,?_⟩
 rw [show getL none [(1,some m1),(2,some m2),(3,some m3)] kk=(zb5 [(1,some m1),(2,some m2),(3,some m3)] kk).getD none from rfl]
 simp only [zdf]
 by_cases k1:kk=1
 ·subst k1
  simp only [if_true,Option.getD_some]
  exact zjl h10 fun dO=>by simp only [zdf,za2,if_true];rfl
 ·by_cases k2:kk=2
  ·subst k2
   simp only [if_true,if_neg k1,Option.getD_some]
   exact zjl h11 fun dO=>by simp only [zdf,za2,if_true,if_neg k1];rfl
  ·by_cases k3:kk=3
   ·subst k3
    simp only [if_true,if_neg k1,if_neg k2,Option.getD_some]
    exact zjl h12 fun dO=>by simp only [zdf,za2,if_true,if_neg k1,if_neg k2];rfl
   ·simp only [if_neg k1,if_neg k2,if_neg k3]
    intro W3 h3 dO
    rw [show za2 B kk dO=none by simp only [za2,if_neg k1,if_neg k2,if_neg k3]]
    exact zs3 dO W3
theorem zrh {S:Nat→Prop} {W:World} {B E m:Nat} {kk:Nat} {o:OpD} {d:Dot} {e:Entry} {v1 v2 v3:Value} (hU:UpdAt W B E o.2.2.1 o.2.2.2 d m) (hn1:-9223372036854775808≤o.2.2.1) (hn2:o.2.2.1≤9223372036854775807)
  (hl1:e.counts.length < 1099511627776) (hl2:(zaw e.items).length < 1099511627776) (hE:RowIs W E 37 (entL e v1 v2 v3) []) (hA:EntAt W S e v1 v2 v3) (hS:∀ b,S b→b ≠ E∧b ≠ B+3) (hpr:B+3 ≠ E) :
  match za2 B kk o.1,doE kk e o d with
  | none,none=>True
  | some c,some (e',err)=>∃ f args,c = .func (.func f) #[] args∧(∀ xs w,(callFunc f xs).run Tryz.prog w = .ok (.enter f xs) w)∧Calls Tryz.prog f args W fun r w'=>r = .returned (I err)∧Did W w' E (B+3) S e' v1
  | _,_=>False:=by
 obtain⟨pe,po2,po3,d0,d1,err,c1,c2,-⟩:=hU
 unfold za2 doE
 by_cases k1:kk=1
 ·simp only [k1,if_true]
  by_cases q1:o.1=1
  ·simp only [q1,if_true]
   exact⟨_,_,rfl,enters_of Tryz.func159 (by kernel_rfl) rfl,zsx o.2.2.1 hn1 hn2 c1 po2 d0 hl1 pe err hE hA hS hpr⟩
  ·simp only [if_neg q1]
   by_cases q5:o.1=5
   ·simp only [q5,if_true]
    exact⟨_,_,rfl,enters_of Tryz.func160 (by kernel_rfl) rfl,zsy c1 d0 hl1 pe err hE hA hS hpr⟩
   ·simp only [if_neg q5]
 ·by_cases k2:kk=2
  ·simp only [k2,if_true,if_neg (by decide:¬ (2:Nat)=1)]
   by_cases q2:o.1=2
   ·simp only [q2,if_true]
    exact⟨_,_,rfl,enters_of Tryz.func161 (by kernel_rfl) rfl,zsw po3 d0 d1 hl2 pe err hE hA hS hpr⟩
   ·simp only [if_neg q2]
    by_cases q3:o.1=3
    ·simp only [q3,if_true]
     exact⟨_,_,rfl,enters_of Tryz.func163 (by kernel_rfl) rfl,zs2 po3 (by omega) pe hE hA hS⟩
    ·simp only [if_neg q3]
     by_cases q5:o.1=5
     ·simp only [q5,if_true]
      exact⟨_,_,rfl,enters_of Tryz.func165 (by kernel_rfl) rfl,zsz pe hE hA hS⟩
     ·simp only [if_neg q5]
  ·by_cases k3:kk=3
   ·simp only [k3,if_true,if_neg (by decide:¬ (3:Nat)=1),if_neg (by decide:¬ (3:Nat)=2)]
    by_cases q4:o.1=4
    ·simp only [q4,if_true]
     exact⟨_,_,rfl,enters_of Tryz.func166 (by kernel_rfl) rfl,zs0 c2 po3 pe err hE hA hS hpr⟩
    ·simp only [if_neg q4]
     by_cases q5:o.1=5
     ·simp only [q5,if_true]
      exact⟨_,_,rfl,enters_of Tryz.func167 (by kernel_rfl) rfl,zs1 c2 pe err hE hA hS hpr⟩
     ·simp only [if_neg q5]
   ·simp only [if_neg k1,if_neg k2,if_neg k3]
end
section
open Go.RowKit Go.Shelf
def zdg (e:Entry) (o:OpD) (d:Dot):Entry × Nat :=
 match doE (zaj o.2.1) e o d with
 | none=>(zad,150)
 | some p=>if p.2=0 then ({ p.1 with seen:=setM p.1.seen d.1 d.2 },0) else (zad,p.2)
def updE (e:Entry) (o:OpD) (d:Dot):Entry × Nat :=
 if keyS o.2.1=false then (zad,10) else if e.key ≠ o.2.1∧zau e zad=false then (zad,2) else if d.1 = [] ∨ d.2 < 1 ∨ 281474976710656 < d.2 ∨ hasM e.seen d=true then (zad,2) else zdg { e with key:=o.2.1 } o d
theorem zdy (w:World) (q:Nat) (e:Entry) (v1 v2 v3:Value) (b:Nat) (hb:b ≠ q):(put7 w q e v1 v2 v3).heap[b]? = w.heap[b]? :=
 ((((((Below.heap_setCell _ _ _ b hb).trans (Below.heap_setCell _ _ _ b hb)).trans (Below.heap_setCell _ _ _ b hb)).trans (Below.heap_setCell _ _ _ b hb)).trans (Below.heap_setCell _ _ _ b hb)).trans (Below.heap_setCell _ _ _ b hb)).trans (Below.heap_setCell _ _ _ b hb)
theorem zj8 (B kk:Nat) (e:Entry) (o:OpD) (d:Dot):(za2 B kk o.1).isSome=(doE kk e o d).isSome:=by
 unfold za2 doE
 repeat' split
 all_goals first | rfl | (exfalso;omega)
theorem EntAt.keep {W w:World} {S:Nat→Prop} {e:Entry} {v1 v2 v3:Value} (h:EntAt W S e v1 v2 v3) (hs:∀ b,S b→b < W.heap.size→w.heap[b]? = W.heap[b]?):EntAt w S e v1 v2 v3 :=
 ⟨h.seen.keep (by decide) hs,h.counts.keep (by decide) hs,h.items.keep (by decide) hs⟩
theorem zri {e':Entry} {c:Nat} {e:Entry} {p:Entry × Nat} (h1:e'.seen=e.seen) (h2:e'.key=e.key) (h:some (e',c)=some p):p.1.seen=e.seen∧p.1.key=e.key:=by
 have:=Option.some.inj h
 rw [← this]
 exact⟨h1,h2⟩
theorem zmn {kk:Nat} {e:Entry} {o:OpD} {d:Dot} {p:Entry × Nat} (h:doE kk e o d=some p):p.1.seen=e.seen∧p.1.key=e.key:=by
 unfold doE at h
 repeat' split at h
 all_goals first | (refine zri (e:=e) ?_ ?_ h <;> rfl) | cases h
theorem zo9 {S:Nat→Prop} {ek:Str} {es:List Mark} {ec:List zal} {ei:List Item} {x1:Nat} {x2:Str} {x3:Bool} {A1 A2 A3:Option Addr} {n1 n2 n3:Nat} {w:World} (dO:Nat) (k:Str) (n:Int) (tx:Str) (d1:Str) (dn:Nat) (h:EntAt w S ⟨ek,es,ec,ei,(x1,x2,x3)⟩ (.slice A1 es.length n1) (.slice A2 ec.length n2) (.slice A3 ei.length n3)) (hk:keyS k=false) :
  Calls Tryz.prog 42 #[.agg #[St ek,.slice A1 es.length n1,.slice A2 ec.length n2,.slice A3 ei.length n3,U x1,St x2,.bool x3],.agg #[K8 dO,St k,I n,St tx],.agg #[St d1,U dn]] w fun r w'=>r = .returned (.tuple #[entV zad (.slice none 0 0) (.slice none 0 0) (.slice none 0 0),I 10])∧Ext w w':=by
 obtain⟨W0,hW0⟩:∃ W0,W0=(((w.alloc (.cells #[St ek,.slice A1 es.length n1,.slice A2 ec.length n2,.slice A3 ei.length n3,U x1,St x2,.bool x3] 37)).alloc (.cells #[K8 dO,St k,I n,St tx] 42)).alloc (.cells #[St d1,U dn] 97)).alloc (.cells #[St [],.slice none 0 0,.slice none 0 0,.slice none 0 0,.int .u64 0,St [],.bool false] 37):=⟨_,rfl⟩
 have hx0:Ext w W0:=by rw [hW0];exact ((((Ext.refl w).alloc _).alloc _).alloc _).alloc _
 have hz0:W0.heap.size=w.heap.size+1+1+1+1:=by rw [hW0];simp
 have rE0:RowIs W0 w.heap.size 37 [St ek,.slice A1 es.length n1,.slice A2 ec.length n2,.slice A3 ei.length n3,U x1,St x2,.bool x3] []:=by rw [hW0];exact (((zac w _ _).alloc _).alloc _).alloc _
 have rO0:RowIs W0 (w.heap.size+1) 42 [K8 dO,St k,I n,St tx] []:=by rw [hW0];have h:=zac (w.alloc (.cells #[St ek,.slice A1 es.length n1,.slice A2 ec.length n2,.slice A3 ei.length n3,U x1,St x2,.bool x3] 37)) 42 [K8 dO,St k,I n,St tx];simp only [World.size_alloc] at h;exact (h.alloc _).alloc _
 have rD0:RowIs W0 (w.heap.size+1+1) 97 [St d1,U dn] []:=by rw [hW0];have h:=zac ((w.alloc (.cells #[St ek,.slice A1 es.length n1,.slice A2 ec.length n2,.slice A3 ei.length n3,U x1,St x2,.bool x3] 37)).alloc (.cells #[K8 dO,St k,I n,St tx] 42)) 97 [St d1,U dn];simp only [World.size_alloc] at h;exact h.alloc _
 have rR0:RowIs W0 (w.heap.size+1+1+1) 37 [St [],.slice none 0 0,.slice none 0 0,.slice none 0 0,.int .u64 0,St [],.bool false] []:=by rw [hW0];have h:=zac (((w.alloc (.cells #[St ek,.slice A1 es.length n1,.slice A2 ec.length n2,.slice A3 ei.length n3,U x1,St x2,.bool x3] 37)).alloc (.cells #[K8 dO,St k,I n,St tx] 42)).alloc (.cells #[St d1,U dn] 97)) 37 [St [],.slice none 0 0,.slice none 0 0,.slice none 0 0,.int .u64 0,St [],.bool false];simp only [World.size_alloc] at h;exact h
 have H1:=Lib.hid (zcv k W0)
 have HE:=Lib.hid h
 rw [hW0] at H1
 clear h
 go_enter Tryz.func42,Tryz.ntmps42
 go_wp2_with fail
 refine H1.out.mono ?_
 rintro r V ⟨rfl,hx1⟩
 obtain⟨hx1,hzz,rE,rO,rD,rR⟩:Ext w V∧w.heap.size+4≤V.heap.size∧RowIs V w.heap.size 37 [St ek,.slice A1 es.length n1,.slice A2 ec.length n2,.slice A3 ei.length n3,U x1,St x2,.bool x3] []∧RowIs V (w.heap.size+1) 42 [K8 dO,St k,I n,St tx] []∧RowIs V (w.heap.size+1+1) 97 [St d1,U dn] []∧RowIs V (w.heap.size+1+1+1) 37 [St [],.slice none 0 0,.slice none 0 0,.slice none 0 0,.int .u64 0,St [],.bool false] []:=by
  have H0:Ext W0 V:=by rw [hW0];exact hx1
  exact⟨hx0.trans H0,by have:=H0.size;omega,rE0.ext H0,rO0.ext H0,rD0.ext H0,rR0.ext H0⟩
 clear hx0 hz0 rE0 rO0 rD0 rR0 H1 hW0
 rw [hk]
 have r0:=rR.cell (j:=0) rfl
 have r1:=rR.cell (j:=1) rfl
 have r2:=rR.cell (j:=2) rfl
 have r3:=rR.cell (j:=3) rfl
 have r4:=rR.cell (j:=4) rfl
 have r5:=rR.cell (j:=5) rfl
 have r6:=rR.cell (j:=6) rfl
 have f0:=rR.frozen 0
 have f1:=rR.frozen 1
 have f2:=rR.frozen 2
 have f3:=rR.frozen 3
 have f4:=rR.frozen 4
 have f5:=rR.frozen 5
 have f6:=rR.frozen 6
 have HX:=Lib.hid hx1
 clear hx1 rR
 go_wp2_with fail
 (try simp only [Exit.inBlock,Exit.then])
 refine bodyPost_ret (v:=.tuple #[entV zad (.slice none 0 0) (.slice none 0 0) (.slice none 0 0),I 10]) (by simp [results,Tryz.f42,go_sem,entV,entC,zad,r0,r1,r2,r3,r4,r5,r6]) rfl ?_
 have hp:=za7 (q:=w.heap.size+1+1+1) HX.out (by omega) zad (.slice none 0 0) (.slice none 0 0) (.slice none 0 0)
 exact⟨rfl,hp⟩
theorem zrj {S:Nat→Prop} {ek:Str} {es:List Mark} {ec:List zal} {ei:List Item} {x1:Nat} {x2:Str} {x3:Bool} {A1 A2 A3:Option Addr} {n1 n2 n3:Nat} {w:World} (dO:Nat) (k:Str) (n:Int) (tx:Str) (d1:Str) (dn:Nat) (h:EntAt w S ⟨ek,es,ec,ei,(x1,x2,x3)⟩ (.slice A1 es.length n1) (.slice A2 ec.length n2) (.slice A3 ei.length n3)) (hk:keyS k=true) (hne:(ek == k)=false) (hs:zau ⟨ek,es,ec,ei,(x1,x2,x3)⟩ zad=false) :
  Calls Tryz.prog 42 #[.agg #[St ek,.slice A1 es.length n1,.slice A2 ec.length n2,.slice A3 ei.length n3,U x1,St x2,.bool x3],.agg #[K8 dO,St k,I n,St tx],.agg #[St d1,U dn]] w fun r w'=>r = .returned (.tuple #[entV zad (.slice none 0 0) (.slice none 0 0) (.slice none 0 0),I 2])∧Ext w w':=by
 obtain⟨W0,hW0⟩:∃ W0,W0=(((w.alloc (.cells #[St ek,.slice A1 es.length n1,.slice A2 ec.length n2,.slice A3 ei.length n3,U x1,St x2,.bool x3] 37)).alloc (.cells #[K8 dO,St k,I n,St tx] 42)).alloc (.cells #[St d1,U dn] 97)).alloc (.cells #[St [],.slice none 0 0,.slice none 0 0,.slice none 0 0,.int .u64 0,St [],.bool false] 37):=⟨_,rfl⟩
 have hx0:Ext w W0:=by rw [hW0];exact ((((Ext.refl w).alloc _).alloc _).alloc _).alloc _
 have hz0:W0.heap.size=w.heap.size+1+1+1+1:=by rw [hW0];simp
 have rE0:RowIs W0 w.heap.size 37 [St ek,.slice A1 es.length n1,.slice A2 ec.length n2,.slice A3 ei.length n3,U x1,St x2,.bool x3] []:=by rw [hW0];exact (((zac w _ _).alloc _).alloc _).alloc _
 have rO0:RowIs W0 (w.heap.size+1) 42 [K8 dO,St k,I n,St tx] []:=by rw [hW0];have h:=zac (w.alloc (.cells #[St ek,.slice A1 es.length n1,.slice A2 ec.length n2,.slice A3 ei.length n3,U x1,St x2,.bool x3] 37)) 42 [K8 dO,St k,I n,St tx];simp only [World.size_alloc] at h;exact (h.alloc _).alloc _
 have rD0:RowIs W0 (w.heap.size+1+1) 97 [St d1,U dn] []:=by rw [hW0];have h:=zac ((w.alloc (.cells #[St ek,.slice A1 es.length n1,.slice A2 ec.length n2,.slice A3 ei.length n3,U x1,St x2,.bool x3] 37)).alloc (.cells #[K8 dO,St k,I n,St tx] 42)) 97 [St d1,U dn];simp only [World.size_alloc] at h;exact h.alloc _
 have rR0:RowIs W0 (w.heap.size+1+1+1) 37 [St [],.slice none 0 0,.slice none 0 0,.slice none 0 0,.int .u64 0,St [],.bool false] []:=by rw [hW0];have h:=zac (((w.alloc (.cells #[St ek,.slice A1 es.length n1,.slice A2 ec.length n2,.slice A3 ei.length n3,U x1,St x2,.bool x3] 37)).alloc (.cells #[K8 dO,St k,I n,St tx] 42)).alloc (.cells #[St d1,U dn] 97)) 37 [St [],.slice none 0 0,.slice none 0 0,.slice none 0 0,.int .u64 0,St [],.bool false];simp only [World.size_alloc] at h;exact h
 have H1:=Lib.hid (zcv k W0)
 have HE:=Lib.hid h
 rw [hW0] at H1
 clear h
 go_enter Tryz.func42,Tryz.ntmps42
 go_wp2_with fail
 refine H1.out.mono ?_
 rintro r V ⟨rfl,hx1⟩
 obtain⟨hx1,hzz,rE,rO,rD,rR⟩:Ext w V∧w.heap.size+4≤V.heap.size∧RowIs V w.heap.size 37 [St ek,.slice A1 es.length n1,.slice A2 ec.length n2,.slice A3 ei.length n3,U x1,St x2,.bool x3] []∧RowIs V (w.heap.size+1) 42 [K8 dO,St k,I n,St tx] []∧RowIs V (w.heap.size+1+1) 97 [St d1,U dn] []∧RowIs V (w.heap.size+1+1+1) 37 [St [],.slice none 0 0,.slice none 0 0,.slice none 0 0,.int .u64 0,St [],.bool false] []:=by
  have H0:Ext W0 V:=by rw [hW0];exact hx1
  exact⟨hx0.trans H0,by have:=H0.size;omega,rE0.ext H0,rO0.ext H0,rD0.ext H0,rR0.ext H0⟩
 clear hx0 hz0 rE0 rO0 rD0 rR0 H1 hW0
 rw [hk]
 have HN:=Lib.hid (zdw (HE.out.ext hx1))
 have e0:=rE.cell (j:=0) rfl
 have e1:=rE.cell (j:=1) rfl
 have e2:=rE.cell (j:=2) rfl
 have e3:=rE.cell (j:=3) rfl
 have e4:=rE.cell (j:=4) rfl
 have e5:=rE.cell (j:=5) rfl
 have e6:=rE.cell (j:=6) rfl
 have o0:=rO.cell (j:=0) rfl
 have o1:=rO.cell (j:=1) rfl
 have o2:=rO.cell (j:=2) rfl
 have o3:=rO.cell (j:=3) rfl
 go_wp2_with fail
 refine HN.out.mono ?_
 rintro r V2 ⟨rfl,hx2⟩
 rw [hs]
 obtain⟨hx1,hzz,rE,rO,rD,rR⟩:Ext w V2∧w.heap.size+4≤V2.heap.size∧RowIs V2 w.heap.size 37 [St ek,.slice A1 es.length n1,.slice A2 ec.length n2,.slice A3 ei.length n3,U x1,St x2,.bool x3] []∧RowIs V2 (w.heap.size+1) 42 [K8 dO,St k,I n,St tx] []∧RowIs V2 (w.heap.size+1+1) 97 [St d1,U dn] []∧RowIs V2 (w.heap.size+1+1+1) 37 [St [],.slice none 0 0,.slice none 0 0,.slice none 0 0,.int .u64 0,St [],.bool false] []:=⟨hx1.trans hx2,by have:=hx2.size;omega,rE.ext hx2,rO.ext hx2,rD.ext hx2,rR.ext hx2⟩
 clear hx2 e0 e1 e2 e3 e4 e5 e6 o0 o1 o2 o3 HN
 have r0:=rR.cell (j:=0) rfl
 have r1:=rR.cell (j:=1) rfl
 have r2:=rR.cell (j:=2) rfl
 have r3:=rR.cell (j:=3) rfl
 have r4:=rR.cell (j:=4) rfl
 have r5:=rR.cell (j:=5) rfl
 have r6:=rR.cell (j:=6) rfl
 have f0:=rR.frozen 0
 have f1:=rR.frozen 1
 have f2:=rR.frozen 2
 have f3:=rR.frozen 3
 have f4:=rR.frozen 4
 have f5:=rR.frozen 5
 have f6:=rR.frozen 6
 have HX:=Lib.hid hx1
 clear hx1 rR
 go_wp2_with fail
 (try simp only [Exit.inBlock,Exit.then])
 refine bodyPost_ret (v:=.tuple #[entV zad (.slice none 0 0) (.slice none 0 0) (.slice none 0 0),I 2]) (by simp [results,Tryz.f42,go_sem,entV,entC,zad,r0,r1,r2,r3,r4,r5,r6]) rfl ?_
 have hp:=za7 (q:=w.heap.size+1+1+1) HX.out (by omega) zad (.slice none 0 0) (.slice none 0 0) (.slice none 0 0)
 exact⟨rfl,hp⟩
theorem znk {S:Nat→Prop} {ek:Str} {es:List Mark} {ec:List zal} {ei:List Item} {x1:Nat} {x2:Str} {x3:Bool} {A1 A2 A3:Option Addr} {n1 n2 n3:Nat} {w:World} (dO:Nat) (k:Str) (n:Int) (tx:Str) (d1:Str) (dn:Nat) (h:EntAt w S ⟨ek,es,ec,ei,(x1,x2,x3)⟩ (.slice A1 es.length n1) (.slice A2 ec.length n2) (.slice A3 ei.length n3)) (hk:keyS k=true) (he:ek=k) (hd:d1 = []) :
  Calls Tryz.prog 42 #[.agg #[St ek,.slice A1 es.length n1,.slice A2 ec.length n2,.slice A3 ei.length n3,U x1,St x2,.bool x3],.agg #[K8 dO,St k,I n,St tx],.agg #[St d1,U dn]] w fun r w'=>r = .returned (.tuple #[entV zad (.slice none 0 0) (.slice none 0 0) (.slice none 0 0),I 2])∧Ext w w':=by
 subst he
 subst hd
 obtain⟨W0,hW0⟩:∃ W0,W0=(((w.alloc (.cells #[St ek,.slice A1 es.length n1,.slice A2 ec.length n2,.slice A3 ei.length n3,U x1,St x2,.bool x3] 37)).alloc (.cells #[K8 dO,St ek,I n,St tx] 42)).alloc (.cells #[St [],U dn] 97)).alloc (.cells #[St [],.slice none 0 0,.slice none 0 0,.slice none 0 0,.int .u64 0,St [],.bool false] 37):=⟨_,rfl⟩
 have hx0:Ext w W0:=by rw [hW0];exact ((((Ext.refl w).alloc _).alloc _).alloc _).alloc _
 have hz0:W0.heap.size=w.heap.size+1+1+1+1:=by rw [hW0];simp
 have rE0:RowIs W0 w.heap.size 37 [St ek,.slice A1 es.length n1,.slice A2 ec.length n2,.slice A3 ei.length n3,U x1,St x2,.bool x3] []:=by rw [hW0];exact (((zac w _ _).alloc _).alloc _).alloc _
 have rO0:RowIs W0 (w.heap.size+1) 42 [K8 dO,St ek,I n,St tx] []:=by rw [hW0];have h:=zac (w.alloc (.cells #[St ek,.slice A1 es.length n1,.slice A2 ec.length n2,.slice A3 ei.length n3,U x1,St x2,.bool x3] 37)) 42 [K8 dO,St ek,I n,St tx];simp only [World.size_alloc] at h;exact (h.alloc _).alloc _
 have rD0:RowIs W0 (w.heap.size+1+1) 97 [St [],U dn] []:=by rw [hW0];have h:=zac ((w.alloc (.cells #[St ek,.slice A1 es.length n1,.slice A2 ec.length n2,.slice A3 ei.length n3,U x1,St x2,.bool x3] 37)).alloc (.cells #[K8 dO,St ek,I n,St tx] 42)) 97 [St [],U dn];simp only [World.size_alloc] at h;exact h.alloc _
 have rR0:RowIs W0 (w.heap.size+1+1+1) 37 [St [],.slice none 0 0,.slice none 0 0,.slice none 0 0,.int .u64 0,St [],.bool false] []:=by rw [hW0];have h:=zac (((w.alloc (.cells #[St ek,.slice A1 es.length n1,.slice A2 ec.length n2,.slice A3 ei.length n3,U x1,St x2,.bool x3] 37)).alloc (.cells #[K8 dO,St ek,I n,St tx] 42)).alloc (.cells #[St [],U dn] 97)) 37 [St [],.slice none 0 0,.slice none 0 0,.slice none 0 0,.int .u64 0,St [],.bool false];simp only [World.size_alloc] at h;exact h
 have H1:=Lib.hid (zcv ek W0)
 have HE:=Lib.hid h
 rw [hW0] at H1
 clear h
 go_enter Tryz.func42,Tryz.ntmps42
 go_wp2_with fail
 refine H1.out.mono ?_
 rintro r V ⟨rfl,hx1⟩
 obtain⟨hx1,hzz,rE,rO,rD,rR⟩:Ext w V∧w.heap.size+4≤V.heap.size∧RowIs V w.heap.size 37 [St ek,.slice A1 es.length n1,.slice A2 ec.length n2,.slice A3 ei.length n3,U x1,St x2,.bool x3] []∧RowIs V (w.heap.size+1) 42 [K8 dO,St ek,I n,St tx] []∧RowIs V (w.heap.size+1+1) 97 [St [],U dn] []∧RowIs V (w.heap.size+1+1+1) 37 [St [],.slice none 0 0,.slice none 0 0,.slice none 0 0,.int .u64 0,St [],.bool false] []:=by
  have H0:Ext W0 V:=by rw [hW0];exact hx1
  exact⟨hx0.trans H0,by have:=H0.size;omega,rE0.ext H0,rO0.ext H0,rD0.ext H0,rR0.ext H0⟩
 clear hx0 hz0 rE0 rO0 rD0 rR0 H1 hW0
 rw [hk]
 have e0:=rE.cell (j:=0) rfl
 have e1:=rE.cell (j:=1) rfl
 have e2:=rE.cell (j:=2) rfl
 have e3:=rE.cell (j:=3) rfl
 have e4:=rE.cell (j:=4) rfl
 have e5:=rE.cell (j:=5) rfl
 have e6:=rE.cell (j:=6) rfl
 have o0:=rO.cell (j:=0) rfl
 have o1:=rO.cell (j:=1) rfl
 have o2:=rO.cell (j:=2) rfl
 have o3:=rO.cell (j:=3) rfl
 have dc0:=rD.cell (j:=0) rfl
 have dc1:=rD.cell (j:=1) rfl
 have r0:=rR.cell (j:=0) rfl
 have r1:=rR.cell (j:=1) rfl
 have r2:=rR.cell (j:=2) rfl
 have r3:=rR.cell (j:=3) rfl
 have r4:=rR.cell (j:=4) rfl
 have r5:=rR.cell (j:=5) rfl
 have r6:=rR.cell (j:=6) rfl
 have f0:=rR.frozen 0
 have f1:=rR.frozen 1
 have f2:=rR.frozen 2
 have f3:=rR.frozen 3
 have f4:=rR.frozen 4
 have f5:=rR.frozen 5
 have f6:=rR.frozen 6
 have HX:=Lib.hid hx1
 clear hx1 rR
 go_wp2_with fail
 (try simp only [Exit.inBlock,Exit.then])
 refine bodyPost_ret (v:=.tuple #[entV zad (.slice none 0 0) (.slice none 0 0) (.slice none 0 0),I 2]) (by simp [results,Tryz.f42,go_sem,entV,entC,zad,r0,r1,r2,r3,r4,r5,r6]) rfl ?_
 have hp:=za7 (q:=w.heap.size+1+1+1) HX.out (by omega) zad (.slice none 0 0) (.slice none 0 0) (.slice none 0 0)
 exact⟨rfl,hp⟩
theorem zlq {S:Nat→Prop} {ek:Str} {es:List Mark} {ec:List zal} {ei:List Item} {x1:Nat} {x2:Str} {x3:Bool} {A1 A2 A3:Option Addr} {n1 n2 n3:Nat} {w:World} (dO:Nat) (k:Str) (n:Int) (tx:Str) (d1:Str) (dn:Nat) (h:EntAt w S ⟨ek,es,ec,ei,(x1,x2,x3)⟩ (.slice A1 es.length n1) (.slice A2 ec.length n2) (.slice A3 ei.length n3)) (hk:keyS k=true) (hne:(ek == k)=false) (hs:zau ⟨ek,es,ec,ei,(x1,x2,x3)⟩ zad=true) (hd:d1 = []) :
  Calls Tryz.prog 42 #[.agg #[St ek,.slice A1 es.length n1,.slice A2 ec.length n2,.slice A3 ei.length n3,U x1,St x2,.bool x3],.agg #[K8 dO,St k,I n,St tx],.agg #[St d1,U dn]] w fun r w'=>r = .returned (.tuple #[entV zad (.slice none 0 0) (.slice none 0 0) (.slice none 0 0),I 2])∧Ext w w':=by
 subst hd
 obtain⟨W0,hW0⟩:∃ W0,W0=(((w.alloc (.cells #[St ek,.slice A1 es.length n1,.slice A2 ec.length n2,.slice A3 ei.length n3,U x1,St x2,.bool x3] 37)).alloc (.cells #[K8 dO,St k,I n,St tx] 42)).alloc (.cells #[St [],U dn] 97)).alloc (.cells #[St [],.slice none 0 0,.slice none 0 0,.slice none 0 0,.int .u64 0,St [],.bool false] 37):=⟨_,rfl⟩
 have hx0:Ext w W0:=by rw [hW0];exact ((((Ext.refl w).alloc _).alloc _).alloc _).alloc _
 have hz0:W0.heap.size=w.heap.size+1+1+1+1:=by rw [hW0];simp
 have rE0:RowIs W0 w.heap.size 37 [St ek,.slice A1 es.length n1,.slice A2 ec.length n2,.slice A3 ei.length n3,U x1,St x2,.bool x3] []:=by rw [hW0];exact (((zac w _ _).alloc _).alloc _).alloc _
 have rO0:RowIs W0 (w.heap.size+1) 42 [K8 dO,St k,I n,St tx] []:=by rw [hW0];have h:=zac (w.alloc (.cells #[St ek,.slice A1 es.length n1,.slice A2 ec.length n2,.slice A3 ei.length n3,U x1,St x2,.bool x3] 37)) 42 [K8 dO,St k,I n,St tx];simp only [World.size_alloc] at h;exact (h.alloc _).alloc _
 have rD0:RowIs W0 (w.heap.size+1+1) 97 [St [],U dn] []:=by rw [hW0];have h:=zac ((w.alloc (.cells #[St ek,.slice A1 es.length n1,.slice A2 ec.length n2,.slice A3 ei.length n3,U x1,St x2,.bool x3] 37)).alloc (.cells #[K8 dO,St k,I n,St tx] 42)) 97 [St [],U dn];simp only [World.size_alloc] at h;exact h.alloc _
 have rR0:RowIs W0 (w.heap.size+1+1+1) 37 [St [],.slice none 0 0,.slice none 0 0,.slice none 0 0,.int .u64 0,St [],.bool false] []:=by rw [hW0];have h:=zac (((w.alloc (.cells #[St ek,.slice A1 es.length n1,.slice A2 ec.length n2,.slice A3 ei.length n3,U x1,St x2,.bool x3] 37)).alloc (.cells #[K8 dO,St k,I n,St tx] 42)).alloc (.cells #[St [],U dn] 97)) 37 [St [],.slice none 0 0,.slice none 0 0,.slice none 0 0,.int .u64 0,St [],.bool false];simp only [World.size_alloc] at h;exact h
 have H1:=Lib.hid (zcv k W0)
 have HE:=Lib.hid h
 rw [hW0] at H1
 clear h
 go_enter Tryz.func42,Tryz.ntmps42
 go_wp2_with fail
 refine H1.out.mono ?_
 rintro r V ⟨rfl,hx1⟩
 obtain⟨hx1,hzz,rE,rO,rD,rR⟩:Ext w V∧w.heap.size+4≤V.heap.size∧RowIs V w.heap.size 37 [St ek,.slice A1 es.length n1,.slice A2 ec.length n2,.slice A3 ei.length n3,U x1,St x2,.bool x3] []∧RowIs V (w.heap.size+1) 42 [K8 dO,St k,I n,St tx] []∧RowIs V (w.heap.size+1+1) 97 [St [],U dn] []∧RowIs V (w.heap.size+1+1+1) 37 [St [],.slice none 0 0,.slice none 0 0,.slice none 0 0,.int .u64 0,St [],.bool false] []:=by
  have H0:Ext W0 V:=by rw [hW0];exact hx1
  exact⟨hx0.trans H0,by have:=H0.size;omega,rE0.ext H0,rO0.ext H0,rD0.ext H0,rR0.ext H0⟩
 clear hx0 hz0 rE0 rO0 rD0 rR0 H1 hW0
 rw [hk]
 have HN:=Lib.hid (zdw (HE.out.ext hx1))
 have e0:=rE.cell (j:=0) rfl
 have e1:=rE.cell (j:=1) rfl
 have e2:=rE.cell (j:=2) rfl
 have e3:=rE.cell (j:=3) rfl
 have e4:=rE.cell (j:=4) rfl
 have e5:=rE.cell (j:=5) rfl
 have e6:=rE.cell (j:=6) rfl
 have o0:=rO.cell (j:=0) rfl
 have o1:=rO.cell (j:=1) rfl
 have o2:=rO.cell (j:=2) rfl
 have o3:=rO.cell (j:=3) rfl
 go_wp2_with fail
 refine HN.out.mono ?_
 rintro r V2 ⟨rfl,hx2⟩
 rw [hs]
 obtain⟨hx1,hzz,rE,rO,rD,rR⟩:Ext w V2∧w.heap.size+4≤V2.heap.size∧RowIs V2 w.heap.size 37 [St ek,.slice A1 es.length n1,.slice A2 ec.length n2,.slice A3 ei.length n3,U x1,St x2,.bool x3] []∧RowIs V2 (w.heap.size+1) 42 [K8 dO,St k,I n,St tx] []∧RowIs V2 (w.heap.size+1+1) 97 [St [],U dn] []∧RowIs V2 (w.heap.size+1+1+1) 37 [St [],.slice none 0 0,.slice none 0 0,.slice none 0 0,.int .u64 0,St [],.bool false] []:=⟨hx1.trans hx2,by have:=hx2.size;omega,rE.ext hx2,rO.ext hx2,rD.ext hx2,rR.ext hx2⟩
 clear hx2 e0 e1 e2 e3 e4 e5 e6 o0 o1 o2 o3 HN
 have o0:=rO.cell (j:=0) rfl
 have o1:=rO.cell (j:=1) rfl
 have o2:=rO.cell (j:=2) rfl
 have o3:=rO.cell (j:=3) rfl
 have dc0:=rD.cell (j:=0) rfl
 have dc1:=rD.cell (j:=1) rfl
 have r0:=rR.cell (j:=0) rfl
 have r1:=rR.cell (j:=1) rfl
 have r2:=rR.cell (j:=2) rfl
 have r3:=rR.cell (j:=3) rfl
 have r4:=rR.cell (j:=4) rfl
 have r5:=rR.cell (j:=5) rfl
 have r6:=rR.cell (j:=6) rfl
 have f0:=rR.frozen 0
 have f1:=rR.frozen 1
 have f2:=rR.frozen 2
 have f3:=rR.frozen 3
 have f4:=rR.frozen 4
 have f5:=rR.frozen 5
 have f6:=rR.frozen 6
 have HX:=Lib.hid hx1
 clear hx1 rR
 go_wp2_with fail
 (try simp only [Exit.inBlock,Exit.then])
 refine bodyPost_ret (v:=.tuple #[entV zad (.slice none 0 0) (.slice none 0 0) (.slice none 0 0),I 2]) (by simp [results,Tryz.f42,go_sem,entV,entC,zad,r0,r1,r2,r3,r4,r5,r6]) rfl ?_
 have hp:=za7 (q:=w.heap.size+1+1+1) HX.out (by omega) zad (.slice none 0 0) (.slice none 0 0) (.slice none 0 0)
 exact⟨rfl,hp⟩
theorem znl {S:Nat→Prop} {ek:Str} {es:List Mark} {ec:List zal} {ei:List Item} {x1:Nat} {x2:Str} {x3:Bool} {A1 A2 A3:Option Addr} {n1 n2 n3:Nat} {w:World} (dO:Nat) (k:Str) (n:Int) (tx:Str) (d1:Str) (dn:Nat) (h:EntAt w S ⟨ek,es,ec,ei,(x1,x2,x3)⟩ (.slice A1 es.length n1) (.slice A2 ec.length n2) (.slice A3 ei.length n3)) (hk:keyS k=true) (he:ek=k) (hd:(d1 == [])=false) (h2:(dn:Int) < 1) :
  Calls Tryz.prog 42 #[.agg #[St ek,.slice A1 es.length n1,.slice A2 ec.length n2,.slice A3 ei.length n3,U x1,St x2,.bool x3],.agg #[K8 dO,St k,I n,St tx],.agg #[St d1,U dn]] w fun r w'=>r = .returned (.tuple #[entV zad (.slice none 0 0) (.slice none 0 0) (.slice none 0 0),I 2])∧Ext w w':=by
 subst he
 obtain⟨W0,hW0⟩:∃ W0,W0=(((w.alloc (.cells #[St ek,.slice A1 es.length n1,.slice A2 ec.length n2,.slice A3 ei.length n3,U x1,St x2,.bool x3] 37)).alloc (.cells #[K8 dO,St ek,I n,St tx] 42)).alloc (.cells #[St d1,U dn] 97)).alloc (.cells #[St [],.slice none 0 0,.slice none 0 0,.slice none 0 0,.int .u64 0,St [],.bool false] 37):=⟨_,rfl⟩
 have hx0:Ext w W0:=by rw [hW0];exact ((((Ext.refl w).alloc _).alloc _).alloc _).alloc _
 have hz0:W0.heap.size=w.heap.size+1+1+1+1:=by rw [hW0];simp
 have rE0:RowIs W0 w.heap.size 37 [St ek,.slice A1 es.length n1,.slice A2 ec.length n2,.slice A3 ei.length n3,U x1,St x2,.bool x3] []:=by rw [hW0];exact (((zac w _ _).alloc _).alloc _).alloc _
 have rO0:RowIs W0 (w.heap.size+1) 42 [K8 dO,St ek,I n,St tx] []:=by rw [hW0];have h:=zac (w.alloc (.cells #[St ek,.slice A1 es.length n1,.slice A2 ec.length n2,.slice A3 ei.length n3,U x1,St x2,.bool x3] 37)) 42 [K8 dO,St ek,I n,St tx];simp only [World.size_alloc] at h;exact (h.alloc _).alloc _
 have rD0:RowIs W0 (w.heap.size+1+1) 97 [St d1,U dn] []:=by rw [hW0];have h:=zac ((w.alloc (.cells #[St ek,.slice A1 es.length n1,.slice A2 ec.length n2,.slice A3 ei.length n3,U x1,St x2,.bool x3] 37)).alloc (.cells #[K8 dO,St ek,I n,St tx] 42)) 97 [St d1,U dn];simp only [World.size_alloc] at h;exact h.alloc _
 have rR0:RowIs W0 (w.heap.size+1+1+1) 37 [St [],.slice none 0 0,.slice none 0 0,.slice none 0 0,.int .u64 0,St [],.bool false] []:=by rw [hW0];have h:=zac (((w.alloc (.cells #[St ek,.slice A1 es.length n1,.slice A2 ec.length n2,.slice A3 ei.length n3,U x1,St x2,.bool x3] 37)).alloc (.cells #[K8 dO,St ek,I n,St tx] 42)).alloc (.cells #[St d1,U dn] 97)) 37 [St [],.slice none 0 0,.slice none 0 0,.slice none 0 0,.int .u64 0,St [],.bool false];simp only [World.size_alloc] at h;exact h
 have H1:=Lib.hid (zcv ek W0)
 have HE:=Lib.hid h
 rw [hW0] at H1
 clear h
 go_enter Tryz.func42,Tryz.ntmps42
 go_wp2_with fail
 refine H1.out.mono ?_
 rintro r V ⟨rfl,hx1⟩
 obtain⟨hx1,hzz,rE,rO,rD,rR⟩:Ext w V∧w.heap.size+4≤V.heap.size∧RowIs V w.heap.size 37 [St ek,.slice A1 es.length n1,.slice A2 ec.length n2,.slice A3 ei.length n3,U x1,St x2,.bool x3] []∧RowIs V (w.heap.size+1) 42 [K8 dO,St ek,I n,St tx] []∧RowIs V (w.heap.size+1+1) 97 [St d1,U dn] []∧RowIs V (w.heap.size+1+1+1) 37 [St [],.slice none 0 0,.slice none 0 0,.slice none 0 0,.int .u64 0,St [],.bool false] []:=by
  have H0:Ext W0 V:=by rw [hW0];exact hx1
  exact⟨hx0.trans H0,by have:=H0.size;omega,rE0.ext H0,rO0.ext H0,rD0.ext H0,rR0.ext H0⟩
 clear hx0 hz0 rE0 rO0 rD0 rR0 H1 hW0
 rw [hk]
 have e0:=rE.cell (j:=0) rfl
 have e1:=rE.cell (j:=1) rfl
 have e2:=rE.cell (j:=2) rfl
 have e3:=rE.cell (j:=3) rfl
 have e4:=rE.cell (j:=4) rfl
 have e5:=rE.cell (j:=5) rfl
 have e6:=rE.cell (j:=6) rfl
 have o0:=rO.cell (j:=0) rfl
 have o1:=rO.cell (j:=1) rfl
 have o2:=rO.cell (j:=2) rfl
 have o3:=rO.cell (j:=3) rfl
 have dc0:=rD.cell (j:=0) rfl
 have dc1:=rD.cell (j:=1) rfl
 have r0:=rR.cell (j:=0) rfl
 have r1:=rR.cell (j:=1) rfl
 have r2:=rR.cell (j:=2) rfl
 have r3:=rR.cell (j:=3) rfl
 have r4:=rR.cell (j:=4) rfl
 have r5:=rR.cell (j:=5) rfl
 have r6:=rR.cell (j:=6) rfl
 have f0:=rR.frozen 0
 have f1:=rR.frozen 1
 have f2:=rR.frozen 2
 have f3:=rR.frozen 3
 have f4:=rR.frozen 4
 have f5:=rR.frozen 5
 have f6:=rR.frozen 6
 have HX:=Lib.hid hx1
 clear hx1 rR
 go_wp2_with fail
 (try simp only [Exit.inBlock,Exit.then])
 refine bodyPost_ret (v:=.tuple #[entV zad (.slice none 0 0) (.slice none 0 0) (.slice none 0 0),I 2]) (by simp [results,Tryz.f42,go_sem,entV,entC,zad,r0,r1,r2,r3,r4,r5,r6]) rfl ?_
 have hp:=za7 (q:=w.heap.size+1+1+1) HX.out (by omega) zad (.slice none 0 0) (.slice none 0 0) (.slice none 0 0)
 exact⟨rfl,hp⟩
theorem zlr {S:Nat→Prop} {ek:Str} {es:List Mark} {ec:List zal} {ei:List Item} {x1:Nat} {x2:Str} {x3:Bool} {A1 A2 A3:Option Addr} {n1 n2 n3:Nat} {w:World} (dO:Nat) (k:Str) (n:Int) (tx:Str) (d1:Str) (dn:Nat) (h:EntAt w S ⟨ek,es,ec,ei,(x1,x2,x3)⟩ (.slice A1 es.length n1) (.slice A2 ec.length n2) (.slice A3 ei.length n3)) (hk:keyS k=true) (hne:(ek == k)=false) (hs:zau ⟨ek,es,ec,ei,(x1,x2,x3)⟩ zad=true) (hd:(d1 == [])=false) (h2:(dn:Int) < 1) :
  Calls Tryz.prog 42 #[.agg #[St ek,.slice A1 es.length n1,.slice A2 ec.length n2,.slice A3 ei.length n3,U x1,St x2,.bool x3],.agg #[K8 dO,St k,I n,St tx],.agg #[St d1,U dn]] w fun r w'=>r = .returned (.tuple #[entV zad (.slice none 0 0) (.slice none 0 0) (.slice none 0 0),I 2])∧Ext w w':=by
 obtain⟨W0,hW0⟩:∃ W0,W0=(((w.alloc (.cells #[St ek,.slice A1 es.length n1,.slice A2 ec.length n2,.slice A3 ei.length n3,U x1,St x2,.bool x3] 37)).alloc (.cells #[K8 dO,St k,I n,St tx] 42)).alloc (.cells #[St d1,U dn] 97)).alloc (.cells #[St [],.slice none 0 0,.slice none 0 0,.slice none 0 0,.int .u64 0,St [],.bool false] 37):=⟨_,rfl⟩
 have hx0:Ext w W0:=by rw [hW0];exact ((((Ext.refl w).alloc _).alloc _).alloc _).alloc _
 have hz0:W0.heap.size=w.heap.size+1+1+1+1:=by rw [hW0];simp
 have rE0:RowIs W0 w.heap.size 37 [St ek,.slice A1 es.length n1,.slice A2 ec.length n2,.slice A3 ei.length n3,U x1,St x2,.bool x3] []:=by rw [hW0];exact (((zac w _ _).alloc _).alloc _).alloc _
 have rO0:RowIs W0 (w.heap.size+1) 42 [K8 dO,St k,I n,St tx] []:=by rw [hW0];have h:=zac (w.alloc (.cells #[St ek,.slice A1 es.length n1,.slice A2 ec.length n2,.slice A3 ei.length n3,U x1,St x2,.bool x3] 37)) 42 [K8 dO,St k,I n,St tx];simp only [World.size_alloc] at h;exact (h.alloc _).alloc _
 have rD0:RowIs W0 (w.heap.size+1+1) 97 [St d1,U dn] []:=by rw [hW0];have h:=zac ((w.alloc (.cells #[St ek,.slice A1 es.length n1,.slice A2 ec.length n2,.slice A3 ei.length n3,U x1,St x2,.bool x3] 37)).alloc (.cells #[K8 dO,St k,I n,St tx] 42)) 97 [St d1,U dn];simp only [World.size_alloc] at h;exact h.alloc _
 have rR0:RowIs W0 (w.heap.size+1+1+1) 37 [St [],.slice none 0 0,.slice none 0 0,.slice none 0 0,.int .u64 0,St [],.bool false] []:=by rw [hW0];have h:=zac (((w.alloc (.cells #[St ek,.slice A1 es.length n1,.slice A2 ec.length n2,.slice A3 ei.length n3,U x1,St x2,.bool x3] 37)).alloc (.cells #[K8 dO,St k,I n,St tx] 42)).alloc (.cells #[St d1,U dn] 97)) 37 [St [],.slice none 0 0,.slice none 0 0,.slice none 0 0,.int .u64 0,St [],.bool false];simp only [World.size_alloc] at h;exact h
 have H1:=Lib.hid (zcv k W0)
 have HE:=Lib.hid h
 rw [hW0] at H1
 clear h
 go_enter Tryz.func42,Tryz.ntmps42
 go_wp2_with fail
 refine H1.out.mono ?_
 rintro r V ⟨rfl,hx1⟩
 obtain⟨hx1,hzz,rE,rO,rD,rR⟩:Ext w V∧w.heap.size+4≤V.heap.size∧RowIs V w.heap.size 37 [St ek,.slice A1 es.length n1,.slice A2 ec.length n2,.slice A3 ei.length n3,U x1,St x2,.bool x3] []∧RowIs V (w.heap.size+1) 42 [K8 dO,St k,I n,St tx] []∧RowIs V (w.heap.size+1+1) 97 [St d1,U dn] []∧RowIs V (w.heap.size+1+1+1) 37 [St [],.slice none 0 0,.slice none 0 0,.slice none 0 0,.int .u64 0,St [],.bool false] []:=by
  have H0:Ext W0 V:=by rw [hW0];exact hx1
  exact⟨hx0.trans H0,by have:=H0.size;omega,rE0.ext H0,rO0.ext H0,rD0.ext H0,rR0.ext H0⟩
 clear hx0 hz0 rE0 rO0 rD0 rR0 H1 hW0
 rw [hk]
 have HN:=Lib.hid (zdw (HE.out.ext hx1))
 have e0:=rE.cell (j:=0) rfl
 have e1:=rE.cell (j:=1) rfl
 have e2:=rE.cell (j:=2) rfl
 have e3:=rE.cell (j:=3) rfl
 have e4:=rE.cell (j:=4) rfl
 have e5:=rE.cell (j:=5) rfl
 have e6:=rE.cell (j:=6) rfl
 have o0:=rO.cell (j:=0) rfl
 have o1:=rO.cell (j:=1) rfl
 have o2:=rO.cell (j:=2) rfl
 have o3:=rO.cell (j:=3) rfl
 go_wp2_with fail
 refine HN.out.mono ?_
 rintro r V2 ⟨rfl,hx2⟩
 rw [hs]
 obtain⟨hx1,hzz,rE,rO,rD,rR⟩:Ext w V2∧w.heap.size+4≤V2.heap.size∧RowIs V2 w.heap.size 37 [St ek,.slice A1 es.length n1,.slice A2 ec.length n2,.slice A3 ei.length n3,U x1,St x2,.bool x3] []∧RowIs V2 (w.heap.size+1) 42 [K8 dO,St k,I n,St tx] []∧RowIs V2 (w.heap.size+1+1) 97 [St d1,U dn] []∧RowIs V2 (w.heap.size+1+1+1) 37 [St [],.slice none 0 0,.slice none 0 0,.slice none 0 0,.int .u64 0,St [],.bool false] []:=⟨hx1.trans hx2,by have:=hx2.size;omega,rE.ext hx2,rO.ext hx2,rD.ext hx2,rR.ext hx2⟩
 clear hx2 e0 e1 e2 e3 e4 e5 e6 o0 o1 o2 o3 HN
 have o0:=rO.cell (j:=0) rfl
 have o1:=rO.cell (j:=1) rfl
 have o2:=rO.cell (j:=2) rfl
 have o3:=rO.cell (j:=3) rfl
 have dc0:=rD.cell (j:=0) rfl
 have dc1:=rD.cell (j:=1) rfl
 have r0:=rR.cell (j:=0) rfl
 have r1:=rR.cell (j:=1) rfl
 have r2:=rR.cell (j:=2) rfl
 have r3:=rR.cell (j:=3) rfl
 have r4:=rR.cell (j:=4) rfl
 have r5:=rR.cell (j:=5) rfl
 have r6:=rR.cell (j:=6) rfl
 have f0:=rR.frozen 0
 have f1:=rR.frozen 1
 have f2:=rR.frozen 2
 have f3:=rR.frozen 3
 have f4:=rR.frozen 4
 have f5:=rR.frozen 5
 have f6:=rR.frozen 6
 have HX:=Lib.hid hx1
 clear hx1 rR
 go_wp2_with fail
 (try simp only [Exit.inBlock,Exit.then])
 refine bodyPost_ret (v:=.tuple #[entV zad (.slice none 0 0) (.slice none 0 0) (.slice none 0 0),I 2]) (by simp [results,Tryz.f42,go_sem,entV,entC,zad,r0,r1,r2,r3,r4,r5,r6]) rfl ?_
 have hp:=za7 (q:=w.heap.size+1+1+1) HX.out (by omega) zad (.slice none 0 0) (.slice none 0 0) (.slice none 0 0)
 exact⟨rfl,hp⟩
theorem znm {S:Nat→Prop} {ek:Str} {es:List Mark} {ec:List zal} {ei:List Item} {x1:Nat} {x2:Str} {x3:Bool} {A1 A2 A3:Option Addr} {n1 n2 n3:Nat} {w:World} (dO:Nat) (k:Str) (n:Int) (tx:Str) (d1:Str) (dn:Nat) (h:EntAt w S ⟨ek,es,ec,ei,(x1,x2,x3)⟩ (.slice A1 es.length n1) (.slice A2 ec.length n2) (.slice A3 ei.length n3)) (hk:keyS k=true) (he:ek=k) (hd:(d1 == [])=false) (h2:¬ (dn:Int) < 1) (h3:(dn:Int) > 281474976710656) :
  Calls Tryz.prog 42 #[.agg #[St ek,.slice A1 es.length n1,.slice A2 ec.length n2,.slice A3 ei.length n3,U x1,St x2,.bool x3],.agg #[K8 dO,St k,I n,St tx],.agg #[St d1,U dn]] w fun r w'=>r = .returned (.tuple #[entV zad (.slice none 0 0) (.slice none 0 0) (.slice none 0 0),I 2])∧Ext w w':=by
 subst he
 obtain⟨W0,hW0⟩:∃ W0,W0=(((w.alloc (.cells #[St ek,.slice A1 es.length n1,.slice A2 ec.length n2,.slice A3 ei.length n3,U x1,St x2,.bool x3] 37)).alloc (.cells #[K8 dO,St ek,I n,St tx] 42)).alloc (.cells #[St d1,U dn] 97)).alloc (.cells #[St [],.slice none 0 0,.slice none 0 0,.slice none 0 0,.int .u64 0,St [],.bool false] 37):=⟨_,rfl⟩
 have hx0:Ext w W0:=by rw [hW0];exact ((((Ext.refl w).alloc _).alloc _).alloc _).alloc _
 have hz0:W0.heap.size=w.heap.size+1+1+1+1:=by rw [hW0];simp
 have rE0:RowIs W0 w.heap.size 37 [St ek,.slice A1 es.length n1,.slice A2 ec.length n2,.slice A3 ei.length n3,U x1,St x2,.bool x3] []:=by rw [hW0];exact (((zac w _ _).alloc _).alloc _).alloc _
 have rO0:RowIs W0 (w.heap.size+1) 42 [K8 dO,St ek,I n,St tx] []:=by rw [hW0];have h:=zac (w.alloc (.cells #[St ek,.slice A1 es.length n1,.slice A2 ec.length n2,.slice A3 ei.length n3,U x1,St x2,.bool x3] 37)) 42 [K8 dO,St ek,I n,St tx];simp only [World.size_alloc] at h;exact (h.alloc _).alloc _
 have rD0:RowIs W0 (w.heap.size+1+1) 97 [St d1,U dn] []:=by rw [hW0];have h:=zac ((w.alloc (.cells #[St ek,.slice A1 es.length n1,.slice A2 ec.length n2,.slice A3 ei.length n3,U x1,St x2,.bool x3] 37)).alloc (.cells #[K8 dO,St ek,I n,St tx] 42)) 97 [St d1,U dn];simp only [World.size_alloc] at h;exact h.alloc _
 have rR0:RowIs W0 (w.heap.size+1+1+1) 37 [St [],.slice none 0 0,.slice none 0 0,.slice none 0 0,.int .u64 0,St [],.bool false] []:=by rw [hW0];have h:=zac (((w.alloc (.cells #[St ek,.slice A1 es.length n1,.slice A2 ec.length n2,.slice A3 ei.length n3,U x1,St x2,.bool x3] 37)).alloc (.cells #[K8 dO,St ek,I n,St tx] 42)).alloc (.cells #[St d1,U dn] 97)) 37 [St [],.slice none 0 0,.slice none 0 0,.slice none 0 0,.int .u64 0,St [],.bool false];simp only [World.size_alloc] at h;exact h
 have H1:=Lib.hid (zcv ek W0)
 have HE:=Lib.hid h
 rw [hW0] at H1
 clear h
 go_enter Tryz.func42,Tryz.ntmps42
 go_wp2_with fail
 refine H1.out.mono ?_
 rintro r V ⟨rfl,hx1⟩
 obtain⟨hx1,hzz,rE,rO,rD,rR⟩:Ext w V∧w.heap.size+4≤V.heap.size∧RowIs V w.heap.size 37 [St ek,.slice A1 es.length n1,.slice A2 ec.length n2,.slice A3 ei.length n3,U x1,St x2,.bool x3] []∧RowIs V (w.heap.size+1) 42 [K8 dO,St ek,I n,St tx] []∧RowIs V (w.heap.size+1+1) 97 [St d1,U dn] []∧RowIs V (w.heap.size+1+1+1) 37 [St [],.slice none 0 0,.slice none 0 0,.slice none 0 0,.int .u64 0,St [],.bool false] []:=by
  have H0:Ext W0 V:=by rw [hW0];exact hx1
  exact⟨hx0.trans H0,by have:=H0.size;omega,rE0.ext H0,rO0.ext H0,rD0.ext H0,rR0.ext H0⟩
 clear hx0 hz0 rE0 rO0 rD0 rR0 H1 hW0
 rw [hk]
 have e0:=rE.cell (j:=0) rfl
 have e1:=rE.cell (j:=1) rfl
 have e2:=rE.cell (j:=2) rfl
 have e3:=rE.cell (j:=3) rfl
 have e4:=rE.cell (j:=4) rfl
 have e5:=rE.cell (j:=5) rfl
 have e6:=rE.cell (j:=6) rfl
 have o0:=rO.cell (j:=0) rfl
 have o1:=rO.cell (j:=1) rfl
 have o2:=rO.cell (j:=2) rfl
 have o3:=rO.cell (j:=3) rfl
 have dc0:=rD.cell (j:=0) rfl
 have dc1:=rD.cell (j:=1) rfl
 have r0:=rR.cell (j:=0) rfl
 have r1:=rR.cell (j:=1) rfl
 have r2:=rR.cell (j:=2) rfl
 have r3:=rR.cell (j:=3) rfl
 have r4:=rR.cell (j:=4) rfl
 have r5:=rR.cell (j:=5) rfl
 have r6:=rR.cell (j:=6) rfl
 have f0:=rR.frozen 0
 have f1:=rR.frozen 1
 have f2:=rR.frozen 2
 have f3:=rR.frozen 3
 have f4:=rR.frozen 4
 have f5:=rR.frozen 5
 have f6:=rR.frozen 6
 have HX:=Lib.hid hx1
 clear hx1 rR
 go_wp2_with fail
 (try simp only [Exit.inBlock,Exit.then])
 refine bodyPost_ret (v:=.tuple #[entV zad (.slice none 0 0) (.slice none 0 0) (.slice none 0 0),I 2]) (by simp [results,Tryz.f42,go_sem,entV,entC,zad,r0,r1,r2,r3,r4,r5,r6]) rfl ?_
 have hp:=za7 (q:=w.heap.size+1+1+1) HX.out (by omega) zad (.slice none 0 0) (.slice none 0 0) (.slice none 0 0)
 exact⟨rfl,hp⟩
theorem zls {S:Nat→Prop} {ek:Str} {es:List Mark} {ec:List zal} {ei:List Item} {x1:Nat} {x2:Str} {x3:Bool} {A1 A2 A3:Option Addr} {n1 n2 n3:Nat} {w:World} (dO:Nat) (k:Str) (n:Int) (tx:Str) (d1:Str) (dn:Nat) (h:EntAt w S ⟨ek,es,ec,ei,(x1,x2,x3)⟩ (.slice A1 es.length n1) (.slice A2 ec.length n2) (.slice A3 ei.length n3)) (hk:keyS k=true) (hne:(ek == k)=false) (hs:zau ⟨ek,es,ec,ei,(x1,x2,x3)⟩ zad=true) (hd:(d1 == [])=false) (h2:¬ (dn:Int) < 1) (h3:(dn:Int) > 281474976710656) :
  Calls Tryz.prog 42 #[.agg #[St ek,.slice A1 es.length n1,.slice A2 ec.length n2,.slice A3 ei.length n3,U x1,St x2,.bool x3],.agg #[K8 dO,St k,I n,St tx],.agg #[St d1,U dn]] w fun r w'=>r = .returned (.tuple #[entV zad (.slice none 0 0) (.slice none 0 0) (.slice none 0 0),I 2])∧Ext w w':=by
 obtain⟨W0,hW0⟩:∃ W0,W0=(((w.alloc (.cells #[St ek,.slice A1 es.length n1,.slice A2 ec.length n2,.slice A3 ei.length n3,U x1,St x2,.bool x3] 37)).alloc (.cells #[K8 dO,St k,I n,St tx] 42)).alloc (.cells #[St d1,U dn] 97)).alloc (.cells #[St [],.slice none 0 0,.slice none 0 0,.slice none 0 0,.int .u64 0,St [],.bool false] 37):=⟨_,rfl⟩
 have hx0:Ext w W0:=by rw [hW0];exact ((((Ext.refl w).alloc _).alloc _).alloc _).alloc _
 have hz0:W0.heap.size=w.heap.size+1+1+1+1:=by rw [hW0];simp
 have rE0:RowIs W0 w.heap.size 37 [St ek,.slice A1 es.length n1,.slice A2 ec.length n2,.slice A3 ei.length n3,U x1,St x2,.bool x3] []:=by rw [hW0];exact (((zac w _ _).alloc _).alloc _).alloc _
 have rO0:RowIs W0 (w.heap.size+1) 42 [K8 dO,St k,I n,St tx] []:=by rw [hW0];have h:=zac (w.alloc (.cells #[St ek,.slice A1 es.length n1,.slice A2 ec.length n2,.slice A3 ei.length n3,U x1,St x2,.bool x3] 37)) 42 [K8 dO,St k,I n,St tx];simp only [World.size_alloc] at h;exact (h.alloc _).alloc _
 have rD0:RowIs W0 (w.heap.size+1+1) 97 [St d1,U dn] []:=by rw [hW0];have h:=zac ((w.alloc (.cells #[St ek,.slice A1 es.length n1,.slice A2 ec.length n2,.slice A3 ei.length n3,U x1,St x2,.bool x3] 37)).alloc (.cells #[K8 dO,St k,I n,St tx] 42)) 97 [St d1,U dn];simp only [World.size_alloc] at h;exact h.alloc _
 have rR0:RowIs W0 (w.heap.size+1+1+1) 37 [St [],.slice none 0 0,.slice none 0 0,.slice none 0 0,.int .u64 0,St [],.bool false] []:=by rw [hW0];have h:=zac (((w.alloc (.cells #[St ek,.slice A1 es.length n1,.slice A2 ec.length n2,.slice A3 ei.length n3,U x1,St x2,.bool x3] 37)).alloc (.cells #[K8 dO,St k,I n,St tx] 42)).alloc (.cells #[St d1,U dn] 97)) 37 [St [],.slice none 0 0,.slice none 0 0,.slice none 0 0,.int .u64 0,St [],.bool false];simp only [World.size_alloc] at h;exact h
 have H1:=Lib.hid (zcv k W0)
 have HE:=Lib.hid h
 rw [hW0] at H1
 clear h
 go_enter Tryz.func42,Tryz.ntmps42
 go_wp2_with fail
 refine H1.out.mono ?_
 rintro r V ⟨rfl,hx1⟩
 obtain⟨hx1,hzz,rE,rO,rD,rR⟩:Ext w V∧w.heap.size+4≤V.heap.size∧RowIs V w.heap.size 37 [St ek,.slice A1 es.length n1,.slice A2 ec.length n2,.slice A3 ei.length n3,U x1,St x2,.bool x3] []∧RowIs V (w.heap.size+1) 42 [K8 dO,St k,I n,St tx] []∧RowIs V (w.heap.size+1+1) 97 [St d1,U dn] []∧RowIs V (w.heap.size+1+1+1) 37 [St [],.slice none 0 0,.slice none 0 0,.slice none 0 0,.int .u64 0,St [],.bool false] []:=by
  have H0:Ext W0 V:=by rw [hW0];exact hx1
  exact⟨hx0.trans H0,by have:=H0.size;omega,rE0.ext H0,rO0.ext H0,rD0.ext H0,rR0.ext H0⟩
 clear hx0 hz0 rE0 rO0 rD0 rR0 H1 hW0
 rw [hk]
 have HN:=Lib.hid (zdw (HE.out.ext hx1))
 have e0:=rE.cell (j:=0) rfl
 have e1:=rE.cell (j:=1) rfl
 have e2:=rE.cell (j:=2) rfl
 have e3:=rE.cell (j:=3) rfl
 have e4:=rE.cell (j:=4) rfl
 have e5:=rE.cell (j:=5) rfl
 have e6:=rE.cell (j:=6) rfl
 have o0:=rO.cell (j:=0) rfl
 have o1:=rO.cell (j:=1) rfl
 have o2:=rO.cell (j:=2) rfl
 have o3:=rO.cell (j:=3) rfl
 go_wp2_with fail
 refine HN.out.mono ?_
 rintro r V2 ⟨rfl,hx2⟩
 rw [hs]
 obtain⟨hx1,hzz,rE,rO,rD,rR⟩:Ext w V2∧w.heap.size+4≤V2.heap.size∧RowIs V2 w.heap.size 37 [St ek,.slice A1 es.length n1,.slice A2 ec.length n2,.slice A3 ei.length n3,U x1,St x2,.bool x3] []∧RowIs V2 (w.heap.size+1) 42 [K8 dO,St k,I n,St tx] []∧RowIs V2 (w.heap.size+1+1) 97 [St d1,U dn] []∧RowIs V2 (w.heap.size+1+1+1) 37 [St [],.slice none 0 0,.slice none 0 0,.slice none 0 0,.int .u64 0,St [],.bool false] []:=⟨hx1.trans hx2,by have:=hx2.size;omega,rE.ext hx2,rO.ext hx2,rD.ext hx2,rR.ext hx2⟩
 clear hx2 e0 e1 e2 e3 e4 e5 e6 o0 o1 o2 o3 HN
 have o0:=rO.cell (j:=0) rfl
 have o1:=rO.cell (j:=1) rfl
 have o2:=rO.cell (j:=2) rfl
 have o3:=rO.cell (j:=3) rfl
 have dc0:=rD.cell (j:=0) rfl
 have dc1:=rD.cell (j:=1) rfl
 have r0:=rR.cell (j:=0) rfl
 have r1:=rR.cell (j:=1) rfl
 have r2:=rR.cell (j:=2) rfl
 have r3:=rR.cell (j:=3) rfl
 have r4:=rR.cell (j:=4) rfl
 have r5:=rR.cell (j:=5) rfl
 have r6:=rR.cell (j:=6) rfl
 have f0:=rR.frozen 0
 have f1:=rR.frozen 1
 have f2:=rR.frozen 2
 have f3:=rR.frozen 3
 have f4:=rR.frozen 4
 have f5:=rR.frozen 5
 have f6:=rR.frozen 6
 have HX:=Lib.hid hx1
 clear hx1 rR
 go_wp2_with fail
 (try simp only [Exit.inBlock,Exit.then])
 refine bodyPost_ret (v:=.tuple #[entV zad (.slice none 0 0) (.slice none 0 0) (.slice none 0 0),I 2]) (by simp [results,Tryz.f42,go_sem,entV,entC,zad,r0,r1,r2,r3,r4,r5,r6]) rfl ?_
 have hp:=za7 (q:=w.heap.size+1+1+1) HX.out (by omega) zad (.slice none 0 0) (.slice none 0 0) (.slice none 0 0)
 exact⟨rfl,hp⟩
end
end Go.Proofs.YtdikcgmdmcfpfaaGreat
