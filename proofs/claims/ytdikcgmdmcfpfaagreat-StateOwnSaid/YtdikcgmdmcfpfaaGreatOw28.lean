/- Contracts of the functions that the statement goes through, and plain laws of them. -/
import Derived.Test.YtdikcgmdmcfpfaaGreatOw26
import Derived.Test.YtdikcgmdmcfpfaaGreatOw09
import Derived.Test.YtdikcgmdmcfpfaaGreatOw22
import Derived.Test.YtdikcgmdmcfpfaaGreatOw19
import Derived.Test.YtdikcgmdmcfpfaaGreatOw27
import Derived.Test.YtdikcgmdmcfpfaaGreatOw02
import Derived.Test.YtdikcgmdmcfpfaaGreatOw12
import Derived.Test.YtdikcgmdmcfpfaaGreatOw08
import Derived.Test.YtdikcgmdmcfpfaaGreatOw14
import Derived.Test.YtdikcgmdmcfpfaaGreatOw25
import Derived.Test.YtdikcgmdmcfpfaaGreatOw24
import Derived.Test.YtdikcgmdmcfpfaaGreatOw01
set_option linter.unusedVariables false
set_option linter.unusedSimpArgs false
set_option linter.unusedSectionVars false
set_option maxRecDepth 100000
set_option maxHeartbeats 4000000
namespace Go.Proofs.YtdikcgmdmcfpfaaGreat
section
open Go.RowKit Go.Shelf
def zjx:Cell:=(0,[],false)
def may1 (e:Entry):Bool:=mayL e.counts && (ze3 e && (decide (e.items.length=0) && decide (e.cell=zjx)))
def may2 (e:Entry):Bool:=mayB e.items && (zfx e && (decide (e.counts.length=0) && decide (e.cell=zjx)))
def may3 (e:Entry):Bool:=mayC e.cell && (decide (e.counts.length=0) && decide (e.items.length=0))
def mayE (e:Entry):Bool:=mayM e.seen && (!decide (e.seen.length=0) && (if zaj e.key=1 then may1 e else if zaj e.key=2 then may2 e else if zaj e.key=3 then may3 e else false))
theorem zut {S:Nat→Prop} {e:Entry} {v1 v2 v3:Value} {W:World} {B:Nat} (hb:RowIs W B 37 (entL e v1 v2 v3) []) (h:EntAt W S e v1 v2 v3) :
  Calls Tryz.prog 118 #[.pointer (some ⟨B,0,none⟩)] W fun r w'=>r = .returned (.bool (may1 e))∧Ext W w':=by
 obtain⟨ek,es,ec,ei,x1,x2,x3⟩:=e
 have HM:=Lib.hid (show may1 ⟨ek,es,ec,ei,(x1,x2,x3)⟩=(mayL ec && (ze3 ⟨ek,es,ec,ei,(x1,x2,x3)⟩ && (decide (ei.length=0) && decide ((x1,x2,x3)=zjx)))) from rfl)
 have HC:=Lib.hid (zum h.counts)
 have H:=Lib.hid h
 obtain⟨A1,n1,rfl,-,-⟩:=h.seen.form
 obtain⟨A2,n2,rfl,-,-⟩:=h.counts.form
 obtain⟨A3,n3,rfl,-,-⟩:=h.items.form
 have k2:=hb.cell (j:=2) rfl
 have hq:=fun w=>zku (x1,x2,x3) (0,[],false) w
 simp only at hq
 clear h
 go_enter Tryz.func118,Tryz.ntmps118
 go_wp2_with fail
 refine HC.out.mono ?_
 rintro r W1 ⟨rfl,hx1⟩
 have hb1:=hb.ext hx1
 cases hm:mayL ec with
 | false =>
  have HR:=Lib.hid (show may1 ⟨ek,es,ec,ei,(x1,x2,x3)⟩=false by rw [HM.out,hm];rfl)
  go_wp2_with fail
  go_ret
  exact⟨by rw [HR.out];rfl,hx1⟩
 | true =>
  have c0:=hb1.cell (j:=0) rfl
  have c1:=hb1.cell (j:=1) rfl
  have c2:=hb1.cell (j:=2) rfl
  have c3:=hb1.cell (j:=3) rfl
  have c4:=hb1.cell (j:=4) rfl
  have c5:=hb1.cell (j:=5) rfl
  have c6:=hb1.cell (j:=6) rfl
  have HS:=Lib.hid (zn9 (H.out.ext hx1))
  go_wp2_with fail
  refine HS.out.mono ?_
  rintro r W2 ⟨rfl,hx2⟩
  have hb2:=hb1.ext hx2
  have d2:=hb2.cell (j:=2) rfl
  have d3:=hb2.cell (j:=3) rfl
  have d4:=hb2.cell (j:=4) rfl
  have d5:=hb2.cell (j:=5) rfl
  have d6:=hb2.cell (j:=6) rfl
  have HX:=Lib.hid (hx1.trans hx2)
  cases hs:ze3 ⟨ek,es,ec,ei,(x1,x2,x3)⟩ with
  | false =>
   have HR:=Lib.hid (show may1 ⟨ek,es,ec,ei,(x1,x2,x3)⟩=false by rw [HM.out,hm,hs];rfl)
   go_wp2_with fail
   go_ret
   exact⟨by rw [HR.out];rfl,HX.out⟩
  | true =>
   cases ei with
   | nil =>
    have HR:=Lib.hid (show may1 ⟨ek,es,ec,[],(x1,x2,x3)⟩=decide ((x1,x2,x3)=((0,[],false):Cell)) by rw [HM.out,hm,hs];rfl)
    go_wp2_with fail
    all_goals
     go_ret
     refine ⟨?_,HX.out⟩
     rw [HR.out]
     simp [*]
   | cons it ei =>
    have HR:=Lib.hid (show may1 ⟨ek,es,ec,it :: ei,(x1,x2,x3)⟩=false by rw [HM.out,hm,hs];rfl)
    go_wp2_with fail
    go_ret
    exact⟨by rw [HR.out];rfl,HX.out⟩
theorem zuu {S:Nat→Prop} {e:Entry} {v1 v2 v3:Value} {W:World} {B:Nat} (hl40:e.items.length≤1099511627776) (hb:RowIs W B 37 (entL e v1 v2 v3) []) (h:EntAt W S e v1 v2 v3) :
  Calls Tryz.prog 121 #[.pointer (some ⟨B,0,none⟩)] W fun r w'=>r = .returned (.bool (may2 e))∧Ext W w':=by
 obtain⟨ek,es,ec,ei,x1,x2,x3⟩:=e
 have HM:=Lib.hid (show may2 ⟨ek,es,ec,ei,(x1,x2,x3)⟩=(mayB ei && (zfx ⟨ek,es,ec,ei,(x1,x2,x3)⟩ && (decide (ec.length=0) && decide ((x1,x2,x3)=zjx)))) from rfl)
 have HC:=Lib.hid (zuk h.items hl40)
 have H:=Lib.hid h
 obtain⟨A1,n1,rfl,-,-⟩:=h.seen.form
 obtain⟨A2,n2,rfl,-,-⟩:=h.counts.form
 obtain⟨A3,n3,rfl,-,-⟩:=h.items.form
 have k3:=hb.cell (j:=3) rfl
 have hq:=fun w=>zku (x1,x2,x3) (0,[],false) w
 simp only at hq
 clear h
 go_enter Tryz.func121,Tryz.ntmps121
 go_wp2_with fail
 refine HC.out.mono ?_
 rintro r W1 ⟨rfl,hx1⟩
 have hb1:=hb.ext hx1
 cases hm:mayB ei with
 | false =>
  have HR:=Lib.hid (show may2 ⟨ek,es,ec,ei,(x1,x2,x3)⟩=false by rw [HM.out,hm];rfl)
  go_wp2_with fail
  go_ret
  exact⟨by rw [HR.out];rfl,hx1⟩
 | true =>
  have c0:=hb1.cell (j:=0) rfl
  have c1:=hb1.cell (j:=1) rfl
  have c2:=hb1.cell (j:=2) rfl
  have c3:=hb1.cell (j:=3) rfl
  have c4:=hb1.cell (j:=4) rfl
  have c5:=hb1.cell (j:=5) rfl
  have c6:=hb1.cell (j:=6) rfl
  have HS:=Lib.hid (zpc (H.out.ext hx1))
  go_wp2_with fail
  refine HS.out.mono ?_
  rintro r W2 ⟨rfl,hx2⟩
  have hb2:=hb1.ext hx2
  have d2:=hb2.cell (j:=2) rfl
  have d3:=hb2.cell (j:=3) rfl
  have d4:=hb2.cell (j:=4) rfl
  have d5:=hb2.cell (j:=5) rfl
  have d6:=hb2.cell (j:=6) rfl
  have HX:=Lib.hid (hx1.trans hx2)
  cases hs:zfx ⟨ek,es,ec,ei,(x1,x2,x3)⟩ with
  | false =>
   have HR:=Lib.hid (show may2 ⟨ek,es,ec,ei,(x1,x2,x3)⟩=false by rw [HM.out,hm,hs];rfl)
   go_wp2_with fail
   go_ret
   exact⟨by rw [HR.out];rfl,HX.out⟩
  | true =>
   cases ec with
   | nil =>
    have HR:=Lib.hid (show may2 ⟨ek,es,[],ei,(x1,x2,x3)⟩=decide ((x1,x2,x3)=((0,[],false):Cell)) by rw [HM.out,hm,hs];rfl)
    go_wp2_with fail
    all_goals
     go_ret
     refine ⟨?_,HX.out⟩
     rw [HR.out]
     simp [*]
   | cons it ec =>
    have HR:=Lib.hid (show may2 ⟨ek,es,it :: ec,ei,(x1,x2,x3)⟩=false by rw [HM.out,hm,hs];rfl)
    go_wp2_with fail
    go_ret
    exact⟨by rw [HR.out];rfl,HX.out⟩
theorem zuv {S:Nat→Prop} {e:Entry} {v1 v2 v3:Value} {W:World} {B:Nat} (hb:RowIs W B 37 (entL e v1 v2 v3) []) (h:EntAt W S e v1 v2 v3) :
  Calls Tryz.prog 124 #[.pointer (some ⟨B,0,none⟩)] W fun r w'=>r = .returned (.bool (may3 e))∧Ext W w':=by
 obtain⟨ek,es,ec,ei,x1,x2,x3⟩:=e
 have HM:=Lib.hid (show may3 ⟨ek,es,ec,ei,(x1,x2,x3)⟩=(mayC (x1,x2,x3) && (decide (ec.length=0) && decide (ei.length=0))) from rfl)
 have HC:=Lib.hid (zup (x1,x2,x3) W)
 obtain⟨A1,n1,rfl,-,-⟩:=h.seen.form
 obtain⟨A2,n2,rfl,-,-⟩:=h.counts.form
 obtain⟨A3,n3,rfl,-,-⟩:=h.items.form
 have k4:=hb.cell (j:=4) rfl
 have k5:=hb.cell (j:=5) rfl
 have k6:=hb.cell (j:=6) rfl
 clear h
 go_enter Tryz.func124,Tryz.ntmps124
 go_wp2_with fail
 refine HC.out.mono ?_
 rintro r W1 ⟨rfl,hx1⟩
 have hb1:=hb.ext hx1
 have c2:=hb1.cell (j:=2) rfl
 have c3:=hb1.cell (j:=3) rfl
 cases hm:mayC (x1,x2,x3) with
 | false =>
  have HR:=Lib.hid (show may3 ⟨ek,es,ec,ei,(x1,x2,x3)⟩=false by rw [HM.out,hm];rfl)
  go_wp2_with fail
  go_ret
  exact⟨by rw [HR.out];rfl,hx1⟩
 | true =>
  cases ec with
  | nil =>
   cases ei with
   | nil =>
    have HR:=Lib.hid (show may3 ⟨ek,es,[],[],(x1,x2,x3)⟩=true by rw [HM.out,hm];rfl)
    go_wp2_with fail
    go_ret
    exact⟨by rw [HR.out];rfl,hx1⟩
   | cons it ei =>
    have HR:=Lib.hid (show may3 ⟨ek,es,[],it :: ei,(x1,x2,x3)⟩=false by rw [HM.out,hm];rfl)
    go_wp2_with fail
    go_ret
    exact⟨by rw [HR.out];rfl,hx1⟩
  | cons c ec =>
   have HR:=Lib.hid (show may3 ⟨ek,es,c :: ec,ei,(x1,x2,x3)⟩=false by rw [HM.out,hm];rfl)
   go_wp2_with fail
   go_ret
   exact⟨by rw [HR.out];rfl,hx1⟩
end
section
open Go.RowKit Go.Shelf
def mayV (B:Nat):Option Nat→Value
 | none=>.nilFunc
 | some f=>.func (.func f) #[] #[.pointer (some ⟨B,0,none⟩)]
theorem zw8 (B:Nat) (w:World):(zeroValue 43).run Tryz.prog w = .ok (mayV B none) w:=Tryz.zeroValue43 w
theorem keyOk8:KeyOk Tryz.prog 5 K8:=zur Tryz.underlying5
theorem zio {S:Nat→Prop} {e:Entry} {v1 v2 v3:Value} {w:World} (h:EntAt w S e v1 v2 v3) (hl40:e.items.length≤1099511627776) :
  Calls Tryz.prog 65 #[entV e v1 v2 v3] w fun r w'=>r = .returned (.bool (mayE e))∧Ext w w':=by
 obtain⟨ek,es,ec,ei,x1,x2,x3⟩:=e
 have HM:=Lib.hid (show mayE ⟨ek,es,ec,ei,(x1,x2,x3)⟩=(mayM es && (!decide (es.length=0) && (if zaj ek=1 then may1 ⟨ek,es,ec,ei,(x1,x2,x3)⟩ else if zaj ek=2 then may2 ⟨ek,es,ec,ei,(x1,x2,x3)⟩ else if zaj ek=3 then may3 ⟨ek,es,ec,ei,(x1,x2,x3)⟩ else false))) from rfl)
 generalize mayE ⟨ek,es,ec,ei,(x1,x2,x3)⟩=R at *
 have H:=Lib.hid h
 obtain⟨A1,n1,rfl,-,-⟩:=h.seen.form
 obtain⟨A2,n2,rfl,-,-⟩:=h.counts.form
 obtain⟨A3,n3,rfl,-,-⟩:=h.items.form
 have hx0:=(Ext.refl w).alloc (.cells #[St ek,.slice A1 es.length n1,.slice A2 ec.length n2,.slice A3 ei.length n3,U x1,St x2,.bool x3] 37)
 have hb0:=zab w 37 [St ek,.slice A1 es.length n1,.slice A2 ec.length n2,.slice A3 ei.length n3,U x1,St x2,.bool x3]
 have k1:=hb0.cell (j:=1) rfl
 have HMM:=Lib.hid (zp2 (h.seen.ext (by decide) hx0))
 clear h
 have eg1:∀ args w,(callFunc 118 args).run Tryz.prog w = .ok (.enter 118 args) w:=enters_of Tryz.func118 (by kernel_rfl) rfl
 have eg2:∀ args w,(callFunc 121 args).run Tryz.prog w = .ok (.enter 121 args) w:=enters_of Tryz.func121 (by kernel_rfl) rfl
 have eg3:∀ args w,(callFunc 124 args).run Tryz.prog w = .ok (.enter 124 args) w:=enters_of Tryz.func124 (by kernel_rfl) rfl
 have hmm:=@run_makeMap Tryz.prog
 go_enter Tryz.func65,Tryz.ntmps65
 go_wp2_with fail
 generalize hW0:w.alloc (.cells #[St ek,.slice A1 es.length n1,.slice A2 ec.length n2,.slice A3 ei.length n3,U x1,St x2,.bool x3] 37)=W0 at *
 clear hW0
 refine HMM.out.mono ?_
 rintro r W1 ⟨rfl,hx1⟩
 have hb1:=hb0.ext hx1
 have c0:=hb1.cell (j:=0) rfl
 have c1:=hb1.cell (j:=1) rfl
 have hX1:=hx0.trans hx1
 cases hm:mayM es with
 | false =>
  have HR:=Lib.hid (show R=false by rw [HM.out,hm];rfl)
  go_wp2_with fail
  go_ret
  exact⟨by rw [HR.out];rfl,hX1⟩
 | true =>
  cases es with
  | nil =>
   have HR:=Lib.hid (show R=false by rw [HM.out,hm];rfl)
   go_wp2_with fail
   go_ret
   exact⟨by rw [HR.out];rfl,hX1⟩
  | cons m es =>
   have HR:=Lib.hid (show R=(if zaj ek=1 then may1 ⟨ek,m :: es,ec,ei,(x1,x2,x3)⟩ else if zaj ek=2 then may2 ⟨ek,m :: es,ec,ei,(x1,x2,x3)⟩ else if zaj ek=3 then may3 ⟨ek,m :: es,ec,ei,(x1,x2,x3)⟩ else false) by rw [HM.out,hm];rfl)
   have hz1:=hb1.lt
   obtain⟨Wa,ua,ma,ta⟩:=zaq (P:=Tryz.prog) (t:=186) Tryz.underlying186 keyOk8 (MapIs.new (K:=K8) (V:=mayV w.heap.size) W1) 1 (some 118)
   obtain⟨Wb,ub,mb,tb⟩:=zaq (P:=Tryz.prog) (t:=186) Tryz.underlying186 keyOk8 ma 2 (some 121)
   obtain⟨Wc,uc,mc,tc⟩:=zaq (P:=Tryz.prog) (t:=186) Tryz.underlying186 keyOk8 mb 3 (some 124)
   have hxa:=((Ext.refl W1).alloc (.map #[] 0)).turned ta (Nat.le_refl _)
   have hxb:=hxa.turned tb (Nat.le_refl _)
   have hxc:=hxb.turned tc (Nat.le_refl _)
   have d0:=(hb1.ext hxc).cell (j:=0) rfl
   have HK:=Lib.hid (zhc ek Wc)
   have HC:=Lib.hid mc
   have HXC:=Lib.hid hxc
   clear ta tb tc hxa hxb hxc ma mb mc
   have ua':(Instr.mapUpdate 186 (.map (some W1.heap.size)) (.int .u8 1) (.func (.func 118) #[] #[.pointer (some ⟨w.heap.size,0,none⟩)])).run Tryz.prog (W1.alloc (.map #[] 0)) = .ok () Wa:=ua
   have ub':(Instr.mapUpdate 186 (.map (some W1.heap.size)) (.int .u8 2) (.func (.func 121) #[] #[.pointer (some ⟨w.heap.size,0,none⟩)])).run Tryz.prog Wa = .ok () Wb:=ub
   have uc':(Instr.mapUpdate 186 (.map (some W1.heap.size)) (.int .u8 3) (.func (.func 124) #[] #[.pointer (some ⟨w.heap.size,0,none⟩)])).run Tryz.prog Wb = .ok () Wc:=uc
   clear ua ub uc
   go_wp2_with fail
   refine HK.out.mono ?_
   rintro r W2 ⟨rfl,hx2⟩
   have hL:=(za7 (P:=Tryz.prog) (t:=186) (z:=none) Tryz.underlying186 keyOk8 (zw8 w.heap.size) (HC.out.ext hx2) (zaj ek)).2
   have HB2:=Lib.hid (hb1.ext (HXC.out.trans hx2))
   have HX2:=Lib.hid (hX1.trans (HXC.out.trans hx2))
   generalize hkk:zaj ek=kk at *
   have hL':(Instr.lookup 186 (.map (some W1.heap.size)) (U8 kk) true).run Tryz.prog W2 = .ok (.tuple #[mayV w.heap.size (getL none (putL (putL (putL [] 1 (some 118)) 2 (some 121)) 3 (some 124)) kk),.bool (decide (kk ∈ [1,2,3]))]) W2:=hL
   clear hL
   rcases (show kk=1 ∨ kk=2 ∨ kk=3 ∨ (kk ≠ 1∧kk ≠ 2∧kk ≠ 3) by omega) with h1 | h1 | h1 | ⟨h1,h2,h3⟩
   ·subst h1
    have hl:(Instr.lookup 186 (.map (some W1.heap.size)) (U8 1) true).run Tryz.prog W2 = .ok (.tuple #[.func (.func 118) #[] #[.pointer (some ⟨w.heap.size,0,none⟩)],.bool true]) W2:=hL'
    have HR2:=Lib.hid (show R=may1 ⟨ek,m :: es,ec,ei,(x1,x2,x3)⟩ by rw [HR.out];rfl)
    clear hL' hkk HR
    have HT:=Lib.hid (zut HB2.out (H.out.ext HX2.out))
    go_wp2_with fail
    refine HT.out.mono ?_
    rintro r W3 ⟨rfl,hx3⟩
    have HX3:=Lib.hid (HX2.out.trans hx3)
    clear hx3
    go_wp2_with fail
    go_ret
    exact⟨by rw [HR2.out];rfl,HX3.out⟩
   ·subst h1
    have hl:(Instr.lookup 186 (.map (some W1.heap.size)) (U8 2) true).run Tryz.prog W2 = .ok (.tuple #[.func (.func 121) #[] #[.pointer (some ⟨w.heap.size,0,none⟩)],.bool true]) W2:=hL'
    have HR2:=Lib.hid (show R=may2 ⟨ek,m :: es,ec,ei,(x1,x2,x3)⟩ by rw [HR.out];rfl)
    clear hL' hkk HR
    have HT:=Lib.hid (zuu hl40 HB2.out (H.out.ext HX2.out))
    go_wp2_with fail
    refine HT.out.mono ?_
    rintro r W3 ⟨rfl,hx3⟩
    have HX3:=Lib.hid (HX2.out.trans hx3)
    clear hx3
    go_wp2_with fail
    go_ret
    exact⟨by rw [HR2.out];rfl,HX3.out⟩
   ·subst h1
    have hl:(Instr.lookup 186 (.map (some W1.heap.size)) (U8 3) true).run Tryz.prog W2 = .ok (.tuple #[.func (.func 124) #[] #[.pointer (some ⟨w.heap.size,0,none⟩)],.bool true]) W2:=hL'
    have HR2:=Lib.hid (show R=may3 ⟨ek,m :: es,ec,ei,(x1,x2,x3)⟩ by rw [HR.out];rfl)
    clear hL' hkk HR
    have HT:=Lib.hid (zuv HB2.out (H.out.ext HX2.out))
    go_wp2_with fail
    refine HT.out.mono ?_
    rintro r W3 ⟨rfl,hx3⟩
    have HX3:=Lib.hid (HX2.out.trans hx3)
    clear hx3
    go_wp2_with fail
    go_ret
    exact⟨by rw [HR2.out];rfl,HX3.out⟩
   ·have hl:(Instr.lookup 186 (.map (some W1.heap.size)) (U8 kk) true).run Tryz.prog W2 = .ok (.tuple #[.nilFunc,.bool false]) W2:=by
     rw [hL']
     have e1:(1 == kk)=false:=by simp;omega
     have e2:(kk == 1)=false:=by simp;omega
     have e3:(kk == 2)=false:=by simp;omega
     have e4:(kk == 3)=false:=by simp;omega
     simp [getL,putL,List.lookup,e2,e3,e4,h1,h2,h3,mayV]
    have HR2:=Lib.hid (show R=false by rw [HR.out,if_neg h1,if_neg h2,if_neg h3])
    clear hL' hkk HR
    go_wp2_with fail
    go_ret
    exact⟨by rw [HR2.out];rfl,HX2.out⟩
end
section
open Go.RowKit Go.Shelf
def zc6 (all:List Mark):Option Str→List Entry→Bool
 | _,[]=>true
 | prev,e :: r=>mayE e && ((match prev with | none=>true | some k=>ltS k e.key) && (zba all e.seen && zc6 all (some e.key) r))
def zcq (all:List Mark):Option Str→List Str→Bool
 | _,[]=>true
 | prev,p :: r=>!p.isEmpty && ((match prev with | none=>true | some k=>ltS k p) && (decide (ofM all p=0) && zcq all (some p) r))
def mayS (s:State):Bool:=mayM s.all && (zc6 s.all none s.entries && zcq s.all none s.pruned)
theorem zhd {S:Nat→Prop} {s:State} {v1 v2 v3:Value} {w:World} (h:StAt w S s v1 v2 v3) (sm:SmallS s) :
  Calls Tryz.prog 20 #[stV v1 v2 v3] w fun r w'=>r = .returned (.bool (mayS s))∧Ext w w':=by
 obtain⟨sa,se,sp⟩:=s
 obtain⟨A1,n1,rfl,-,-⟩:=h.all.form
 obtain⟨A2,n2,rfl,-,-⟩:=h.entries.form
 obtain⟨A3,n3,rfl,-,-⟩:=h.pruned.form
 have h':=h.entries
 have h'':=h.pruned
 have HAT:=Lib.hid (fun (pre post:List Entry) (m:Entry) (wr:World) (hx:Ext w wr) (hl:se=pre++m :: post)=>zb1 h' hx hl)
 have HPT:=Lib.hid (fun (pre post:List Str) (m:Str) (wr:World) (hx:Ext w wr) (hl:sp=pre++m :: post)=>zfm h'' hx hl)
 have H:=Lib.hid h
 have SM:=Lib.hid sm
 have hx0:=(Ext.refl w).alloc (.cells #[.slice A1 sa.length n1,.slice A2 se.length n2,.slice A3 sp.length n3] 30)
 have rB0:=zab w 30 [.slice A1 sa.length n1,.slice A2 se.length n2,.slice A3 sp.length n3]
 have H1:=Lib.hid (zp2 (h.all.ext (by decide) hx0))
 have HM:=Lib.hid (show mayS ⟨sa,se,sp⟩=(mayM sa && (zc6 sa none se && zcq sa none sp)) from rfl)
 have hsa:sa.length≤549755813888:=sm.all
 have hse:se.length≤549755813888:=sm.entries
 have hsp:sp.length≤549755813888:=sm.pruned
 clear h h' h'' sm
 go_enter Tryz.func20,Tryz.ntmps20
 go_wp2_with fail
 generalize w.alloc (.cells #[.slice A1 sa.length n1,.slice A2 se.length n2,.slice A3 sp.length n3] 30)=W0 at *
 refine H1.out.mono ?_
 rintro r W1 ⟨rfl,hx1⟩
 have rB:=rB0.ext hx1
 have hxw:=hx0.trans hx1
 have b1:=rB.cell (j:=1) rfl
 have hbl:=rB.lt
 clear rB0 hx0 hx1 H1
 cases hm:mayM sa with
 | false =>
  have HR:=Lib.hid (show mayS ⟨sa,se,sp⟩=false by rw [HM.out,hm];rfl)
  have HX:=Lib.hid hxw
  clear hxw rB HM
  go_wp2_with fail
  go_ret
  exact⟨by rw [HR.out];rfl,HX.out⟩
 | true =>
  have HM2:=Lib.hid (show mayS ⟨sa,se,sp⟩=(zc6 sa none se && zcq sa none sp) by rw [HM.out,hm];rfl)
  have HB1:=Lib.hid rB
  have HX1:=Lib.hid hxw
  clear hm HM rB hxw
  go_wp2_with fail
  go_loopw [14] (fun i wr=>∃ pre post,se=pre++post∧i=I pre.length∧Hid (zc6 sa none se=zc6 sa (pre.getLast?.map (·.key)) post)∧Hid (RowIs wr w.heap.size 30 [.slice A1 sa.length n1,.slice A2 se.length n2,.slice A3 sp.length n3] [])∧Ext w wr) (fun i _=>se.length - (intOf i).toNat)
  case atStart=>exact⟨[],se,rfl,rfl,Lib.hid rfl,HB1,HX1.out⟩
  case round =>
   obtain⟨pre,post,hl,rfl,hme,hrow,hx⟩:=hrel
   cases post with
   | cons m post =>
    obtain⟨b,o,a1,a2,a3,rfl,e0,e1,e2,e3,e4,e5,e6,hEA⟩:=HAT.out pre post m wr hx hl
    obtain⟨C1,c1,rfl,-,-⟩:=hEA.seen.form
    obtain⟨C2,c2,rfl,-,-⟩:=hEA.counts.form
    obtain⟨C3,c3,rfl,-,-⟩:=hEA.items.form
    have hlt:pre.length < se.length:=by rw [hl];simp
    have HL:=Lib.hid hl
    have hsm:SmallE m:=SM.out.each m (by show m ∈ se;rw [hl];simp)
    have hxb:=(Ext.refl wr).alloc (.cells #[St m.key,.slice C1 m.seen.length c1,.slice C2 m.counts.length c2,.slice C3 m.items.length c3,U m.cell.1,St m.cell.2.1,.bool m.cell.2.2] 37)
    have rb:=zab wr 37 [St m.key,.slice C1 m.seen.length c1,.slice C2 m.counts.length c2,.slice C3 m.items.length c3,U m.cell.1,St m.cell.2.1,.bool m.cell.2.2]
    have hprev:(pre.length=0∧pre.getLast?.map (·.key)=none) ∨ (0 < pre.length∧∃ q:Entry,pre.getLast?.map (·.key)=some q.key∧wr.cell? ⟨b,o+(pre.length - 1) * 7,none⟩=some (St q.key)):=by
     rcases Nat.eq_zero_or_pos pre.length with h0 | h0
     ·exact .inl ⟨h0,by rw [List.eq_nil_of_length_eq_zero h0];rfl⟩
     ·obtain⟨p',q,f1,f2,f3⟩:=zgm h0
      obtain⟨b',o',_,_,_,e,q0,-⟩:=HAT.out p' (m :: post) q wr hx (by rw [hl,f1];simp)
      cases e
      rw [f3] at q0
      exact .inr ⟨h0,q,by rw [f2];rfl,q0⟩
    have hEA2:=(hEA.ext hx).ext hxb
    have HB:=Lib.hid (hrow.out.ext hxb)
    have hxwb:=hx.trans hxb
    have HME:=Lib.hid (show zc6 sa none se=(mayE m && ((match pre.getLast?.map (·.key) with | none=>true | some k=>ltS k m.key) && (zba sa m.seen && zc6 sa (some m.key) post))) from hme.out)
    clear hl hEA hme hrow hx
    go_wp2_with fail
    generalize hWb:wr.alloc (.cells #[St m.key,.slice C1 m.seen.length c1,.slice C2 m.counts.length c2,.slice C3 m.items.length c3,U m.cell.1,St m.cell.2.1,.bool m.cell.2.2] 37)=Wb at *
    have hprev2:(pre.length=0∧pre.getLast?.map (·.key)=none) ∨ (0 < pre.length∧∃ q:Entry,pre.getLast?.map (·.key)=some q.key∧Wb.cell? ⟨b,o+(pre.length - 1) * 7,none⟩=some (St q.key)):=by
     rcases hprev with h | ⟨h0,q,h1,h2⟩
     ·exact .inl h
     ·exact .inr ⟨h0,q,h1,hxb.cell h2⟩
    have HSA:=Lib.hid (H.out.all.ext (by decide) hxwb)
    clear hWb hprev hxb e0 e1 e2 e3 e4 e5 e6
    have HXB:=Lib.hid hxwb
    clear hxwb
    cases hb:mayE m with
    | false =>
     have HRF:=Lib.hid (show mayS ⟨sa,se,sp⟩=false by rw [HM2.out,HME.out,hb];rfl)
     refine zaz [fun v _=>v=entV m (.slice C1 m.seen.length c1) (.slice C2 m.counts.length c2) (.slice C3 m.items.length c3),
   fun v _=>v = .bool false,
   fun v _=>v = .bool true,
   fun v _=>v = .bool true,
   fun v _=>v = .tuple #[],
   fun v _=>v = .tuple #[],
   fun v _=>v = .tuple #[],
   fun v _=>v = .tuple #[],
   fun v _=>v = .tuple #[],
   fun v _=>v = .tuple #[],
   fun v _=>v = .tuple #[],
   fun v _=>v = .tuple #[],
   fun v _=>v = .tuple #[],
   fun v _=>v = .tuple #[],
   fun v _=>v = .tuple #[],
   fun v _=>v = .tuple #[],
   fun v _=>v = .tuple #[],
   fun v _=>v = .tuple #[],
   fun v _=>v = .bool true,
   fun v _=>v = .bool true,
   fun v _=>v = .tuple #[],
   fun v _=>v = .tuple #[],
   fun v _=>v = .tuple #[],
   fun v _=>v = .tuple #[],
   fun v _=>v = .tuple #[],
   fun v _=>v = .tuple #[]] rfl (by kernel_rfl) ?hR ?hstep ?hend
     case hR =>
      simp only [List.mem_cons,List.not_mem_nil,or_false,forall_eq_or_imp,forall_eq]
      exact⟨fun v _ _ h _=>h,fun v _ _ h _=>h,fun v _ _ h _=>h,fun v _ _ h _=>h,fun v _ _ h _=>h,fun v _ _ h _=>h,fun v _ _ h _=>h,fun v _ _ h _=>h,fun v _ _ h _=>h,fun v _ _ h _=>h,fun v _ _ h _=>h,fun v _ _ h _=>h,fun v _ _ h _=>h,fun v _ _ h _=>h,fun v _ _ h _=>h,fun v _ _ h _=>h,fun v _ _ h _=>h,fun v _ _ h _=>h,fun v _ _ h _=>h,fun v _ _ h _=>h,fun v _ _ h _=>h,fun v _ _ h _=>h,fun v _ _ h _=>h,fun v _ _ h _=>h,fun v _ _ h _=>h,fun v _ _ h _=>h⟩
     case hstep =>
      simp only [List.length_cons,List.length_nil,Nat.reduceAdd,List.take_succ_cons,List.take_zero,zbn,and_true]
      refine ⟨?_,?_,?_,?_,?_,?_,?_,?_,?_,?_,?_,?_,?_,?_,?_,?_,?_,?_,?_,?_,?_,?_,?_,?_,?_,?_⟩
      ·intro x W he f
       have h0:x 4 = .pointer (some ⟨wr.heap.size,0,none⟩):=f.1
       have q0:=(rb.ext he).cell (j:=0) rfl
       have q1:=(rb.ext he).cell (j:=1) rfl
       have q2:=(rb.ext he).cell (j:=2) rfl
       have q3:=(rb.ext he).cell (j:=3) rfl
       have q4:=(rb.ext he).cell (j:=4) rfl
       have q5:=(rb.ext he).cell (j:=5) rfl
       have q6:=(rb.ext he).cell (j:=6) rfl
       go_wp
       exact zaa rfl (Ext.refl _)
      ·intro x W he f
       have h0:x 19=entV m (.slice C1 m.seen.length c1) (.slice C2 m.counts.length c2) (.slice C3 m.items.length c3):=f.1
       have HC:=Lib.hid (zio (hEA2.ext he) (Nat.le_trans hsm.items (by decide)))
       rw [hb] at HC
       go_wp
       refine HC.out.mono ?_
       rintro r W2 ⟨rfl,hx2⟩
       dsimp only
       go_wp
       exact zaa rfl hx2
      ·intro x W he f
       have h0:x 20 = .bool false:=f.1
       go_wp
       exact zaa rfl (Ext.refl _)
      ·intro x W he f
       have h0:x 21 = .bool true:=f.1
       go_wp
       exact zaa rfl (Ext.refl _)
      ·intro x W he f
       have h0:x 3=I pre.length:=f.1
       have h1:x 22 = .bool true:=f.2.1
       go_wp
       exact zaa rfl (Ext.refl _)
      ·intro x W he f
       have h0:x 23 = .tuple #[]:=f.1
       have h1:x 22 = .bool true:=f.2.1
       go_wp
       exact zaa rfl (Ext.refl _)
      ·intro x W he f
       have h0:x 24 = .tuple #[]:=f.1
       have h1:x 22 = .bool true:=f.2.1
       go_wp
       exact zaa rfl (Ext.refl _)
      ·intro x W he f
       have h0:x 1 = .pointer (some ⟨w.heap.size,0,none⟩):=f.1
       have h1:x 25 = .tuple #[]:=f.2.1
       go_wp
       exact zaa rfl (Ext.refl _)
      ·intro x W he f
       have h0:x 26 = .tuple #[]:=f.1
       have h1:x 25 = .tuple #[]:=f.2.1
       have c1:=(HB.out.ext he).cell (j:=1) rfl
       go_wp
       exact zaa rfl (Ext.refl _)
      ·intro x W he f
       have h0:x 3=I pre.length:=f.1
       have h1:x 25 = .tuple #[]:=f.2.1
       go_wp
       exact zaa rfl (Ext.refl _)
      ·intro x W he f
       have h0:x 28 = .tuple #[]:=f.1
       have h1:x 25 = .tuple #[]:=f.2.1
       go_wp
       exact zaa rfl (Ext.refl _)
      ·intro x W he f
       have h0:x 27 = .tuple #[]:=f.1
       have h1:x 29 = .tuple #[]:=f.2.1
       have h2:x 25 = .tuple #[]:=f.2.2.1
       go_wp
       exact zaa rfl (Ext.refl _)
      ·intro x W he f
       have h0:x 30 = .tuple #[]:=f.1
       have h1:x 25 = .tuple #[]:=f.2.1
       go_wp
       exact zaa rfl (Ext.refl _)
      ·intro x W he f
       have h0:x 31 = .tuple #[]:=f.1
       have h1:x 25 = .tuple #[]:=f.2.1
       go_wp
       exact zaa rfl (Ext.refl _)
      ·intro x W he f
       have h0:x 4 = .pointer (some ⟨wr.heap.size,0,none⟩):=f.1
       have h1:x 25 = .tuple #[]:=f.2.1
       go_wp
       exact zaa rfl (Ext.refl _)
      ·intro x W he f
       have h0:x 33 = .tuple #[]:=f.1
       have h1:x 25 = .tuple #[]:=f.2.1
       have q0:=(rb.ext he).cell (j:=0) rfl
       go_wp
       exact zaa rfl (Ext.refl _)
      ·intro x W he f
       have h0:x 32 = .tuple #[]:=f.1
       have h1:x 34 = .tuple #[]:=f.2.1
       have h2:x 25 = .tuple #[]:=f.2.2.1
       go_wp
       exact zaa rfl (Ext.refl _)
      ·intro x W he f
       have h0:x 25 = .tuple #[]:=f.1
       have h1:x 35 = .tuple #[]:=f.2.1
       have h2:x 22 = .bool true:=f.2.2.1
       go_wp
       exact zaa rfl (Ext.refl _)
      ·intro x W he f
       have h0:x 22 = .bool true:=f.1
       have h1:x 36 = .tuple #[]:=f.2.1
       go_wp
       exact zaa rfl (Ext.refl _)
      ·intro x W he f
       have h0:x 37 = .bool true:=f.1
       go_wp
       exact zaa rfl (Ext.refl _)
      ·intro x W he f
       have h0:x 1 = .pointer (some ⟨w.heap.size,0,none⟩):=f.1
       have h1:x 38 = .bool true:=f.2.1
       go_wp
       exact zaa rfl (Ext.refl _)
      ·intro x W he f
       have h0:x 39 = .tuple #[]:=f.1
       have h1:x 38 = .bool true:=f.2.1
       have c1:=(HB.out.ext he).cell (j:=0) rfl
       go_wp
       exact zaa rfl (Ext.refl _)
      ·intro x W he f
       have h0:x 4 = .pointer (some ⟨wr.heap.size,0,none⟩):=f.1
       have h1:x 38 = .bool true:=f.2.1
       go_wp
       exact zaa rfl (Ext.refl _)
      ·intro x W he f
       have h0:x 41 = .tuple #[]:=f.1
       have h1:x 38 = .bool true:=f.2.1
       have q1:=(rb.ext he).cell (j:=1) rfl
       go_wp
       exact zaa rfl (Ext.refl _)
      ·intro x W he f
       have h0:x 40 = .tuple #[]:=f.1
       have h1:x 42 = .tuple #[]:=f.2.1
       have h2:x 38 = .bool true:=f.2.2.1
       go_wp
       exact zaa rfl (Ext.refl _)
      ·intro x W he f
       have h0:x 43 = .tuple #[]:=f.1
       have h1:x 38 = .bool true:=f.2.1
       go_wp
       exact zaa rfl (Ext.refl _)
     case hend =>
      intro x W he f
      have h38:x 38 = .bool true:=f.2.2.2.2.2.2.2.2.2.2.2.2.2.2.2.2.2.2.2.1
      clear f
      have HX:=Lib.hid (HXB.out.trans he)
      have HBW:=Lib.hid (HB.out.ext he)
      simp only [List.length_cons,List.length_nil,Nat.reduceAdd,List.take_succ_cons,List.take_zero,List.filterMap_cons,List.filterMap_nil,List.drop_succ_cons,List.drop_zero,zau,Act.put,List.setIfInBounds_toArray,List.set_cons_succ,List.set_cons_zero,h38]
      clear he
      go_wp
      go_wp2_with fail
      go_ret
      exact⟨by rw [HRF.out];rfl,HX.out⟩
    | true =>
     rw [hb] at HME
     rcases hprev2 with ⟨h0,hp⟩ | ⟨h0,q,hp,hq0⟩
     ·rw [hp] at HME
      have hz:(pre.length:Int)=0:=by omega
      have hz2:I (pre.length:Int)=I 0:=by rw [hz]
      refine zaz [fun v _=>v=entV m (.slice C1 m.seen.length c1) (.slice C2 m.counts.length c2) (.slice C3 m.items.length c3),
   fun v _=>v = .bool true,
   fun v _=>v = .bool false,
   fun v _=>v = .bool false,
   fun v _=>v=I 0,
   fun v _=>v = .bool false,
   fun v _=>v = .bool false,
   fun v _=>v = .tuple #[],
   fun v _=>v = .tuple #[],
   fun v _=>v = .tuple #[],
   fun v _=>v = .tuple #[],
   fun v _=>v = .tuple #[],
   fun v _=>v = .tuple #[],
   fun v _=>v = .tuple #[],
   fun v _=>v = .tuple #[],
   fun v _=>v = .tuple #[],
   fun v _=>v = .tuple #[],
   fun v _=>v = .bool false,
   fun v _=>v = .bool false,
   fun v _=>v = .bool false,
   fun v _=>v = .pointer (some ⟨w.heap.size,0,none⟩),
   fun v _=>v = .slice A1 sa.length n1,
   fun v _=>v = .pointer (some ⟨wr.heap.size,1,none⟩),
   fun v _=>v = .slice C1 m.seen.length c1,
   fun v _=>v = .bool (zba sa m.seen),
   fun v _=>v = .bool (!zba sa m.seen)] rfl (by kernel_rfl) ?hR ?hstep ?hend
      case hR =>
       simp only [List.mem_cons,List.not_mem_nil,or_false,forall_eq_or_imp,forall_eq]
       exact⟨fun v _ _ h _=>h,fun v _ _ h _=>h,fun v _ _ h _=>h,fun v _ _ h _=>h,fun v _ _ h _=>h,fun v _ _ h _=>h,fun v _ _ h _=>h,fun v _ _ h _=>h,fun v _ _ h _=>h,fun v _ _ h _=>h,fun v _ _ h _=>h,fun v _ _ h _=>h,fun v _ _ h _=>h,fun v _ _ h _=>h,fun v _ _ h _=>h,fun v _ _ h _=>h,fun v _ _ h _=>h,fun v _ _ h _=>h,fun v _ _ h _=>h,fun v _ _ h _=>h,fun v _ _ h _=>h,fun v _ _ h _=>h,fun v _ _ h _=>h,fun v _ _ h _=>h,fun v _ _ h _=>h,fun v _ _ h _=>h⟩
      case hstep =>
       simp only [List.length_cons,List.length_nil,Nat.reduceAdd,List.take_succ_cons,List.take_zero,zbn,and_true]
       refine ⟨?_,?_,?_,?_,?_,?_,?_,?_,?_,?_,?_,?_,?_,?_,?_,?_,?_,?_,?_,?_,?_,?_,?_,?_,?_,?_⟩
       ·intro x W he f
        have h0:x 4 = .pointer (some ⟨wr.heap.size,0,none⟩):=f.1
        have q0:=(rb.ext he).cell (j:=0) rfl
        have q1:=(rb.ext he).cell (j:=1) rfl
        have q2:=(rb.ext he).cell (j:=2) rfl
        have q3:=(rb.ext he).cell (j:=3) rfl
        have q4:=(rb.ext he).cell (j:=4) rfl
        have q5:=(rb.ext he).cell (j:=5) rfl
        have q6:=(rb.ext he).cell (j:=6) rfl
        go_wp
        exact zaa rfl (Ext.refl _)
       ·intro x W he f
        have h0:x 19=entV m (.slice C1 m.seen.length c1) (.slice C2 m.counts.length c2) (.slice C3 m.items.length c3):=f.1
        have HC:=Lib.hid (zio (hEA2.ext he) (Nat.le_trans hsm.items (by decide)))
        rw [hb] at HC
        go_wp
        refine HC.out.mono ?_
        rintro r W2 ⟨rfl,hx2⟩
        dsimp only
        go_wp
        exact zaa rfl hx2
       ·intro x W he f
        have h0:x 20 = .bool true:=f.1
        go_wp
        exact zaa rfl (Ext.refl _)
       ·intro x W he f
        have h0:x 21 = .bool false:=f.1
        go_wp
        exact zaa rfl (Ext.refl _)
       ·intro x W he f
        have h0:x 3=I pre.length:=f.1
        have h1:x 22 = .bool false:=f.2.1
        go_wp
        exact zaa rfl (Ext.refl _)
       ·intro x W he f
        have h0:x 23=I 0:=f.1
        have h1:x 22 = .bool false:=f.2.1
        go_wp
        exact zaa rfl (Ext.refl _)
       ·intro x W he f
        have h0:x 24 = .bool false:=f.1
        have h1:x 22 = .bool false:=f.2.1
        go_wp
        exact zaa rfl (Ext.refl _)
       ·intro x W he f
        have h0:x 1 = .pointer (some ⟨w.heap.size,0,none⟩):=f.1
        have h1:x 25 = .bool false:=f.2.1
        go_wp
        exact zaa rfl (Ext.refl _)
       ·intro x W he f
        have h0:x 26 = .tuple #[]:=f.1
        have h1:x 25 = .bool false:=f.2.1
        have c1:=(HB.out.ext he).cell (j:=1) rfl
        go_wp
        exact zaa rfl (Ext.refl _)
       ·intro x W he f
        have h0:x 3=I pre.length:=f.1
        have h1:x 25 = .bool false:=f.2.1
        go_wp
        exact zaa rfl (Ext.refl _)
       ·intro x W he f
        have h0:x 28 = .tuple #[]:=f.1
        have h1:x 25 = .bool false:=f.2.1
        go_wp
        exact zaa rfl (Ext.refl _)
       ·intro x W he f
        have h0:x 27 = .tuple #[]:=f.1
        have h1:x 29 = .tuple #[]:=f.2.1
        have h2:x 25 = .bool false:=f.2.2.1
        go_wp
        exact zaa rfl (Ext.refl _)
       ·intro x W he f
        have h0:x 30 = .tuple #[]:=f.1
        have h1:x 25 = .bool false:=f.2.1
        go_wp
        exact zaa rfl (Ext.refl _)
       ·intro x W he f
        have h0:x 31 = .tuple #[]:=f.1
        have h1:x 25 = .bool false:=f.2.1
        go_wp
        exact zaa rfl (Ext.refl _)
       ·intro x W he f
        have h0:x 4 = .pointer (some ⟨wr.heap.size,0,none⟩):=f.1
        have h1:x 25 = .bool false:=f.2.1
        go_wp
        exact zaa rfl (Ext.refl _)
       ·intro x W he f
        have h0:x 33 = .tuple #[]:=f.1
        have h1:x 25 = .bool false:=f.2.1
        have q0:=(rb.ext he).cell (j:=0) rfl
        go_wp
        exact zaa rfl (Ext.refl _)
       ·intro x W he f
        have h0:x 32 = .tuple #[]:=f.1
        have h1:x 34 = .tuple #[]:=f.2.1
        have h2:x 25 = .bool false:=f.2.2.1
        go_wp
        exact zaa rfl (Ext.refl _)
       ·intro x W he f
        have h0:x 25 = .bool false:=f.1
        have h1:x 35 = .tuple #[]:=f.2.1
        have h2:x 22 = .bool false:=f.2.2.1
        go_wp
        exact zaa rfl (Ext.refl _)
       ·intro x W he f
        have h0:x 22 = .bool false:=f.1
        have h1:x 36 = .bool false:=f.2.1
        go_wp
        exact zaa rfl (Ext.refl _)
       ·intro x W he f
        have h0:x 37 = .bool false:=f.1
        go_wp
        exact zaa rfl (Ext.refl _)
       ·intro x W he f
        have h0:x 1 = .pointer (some ⟨w.heap.size,0,none⟩):=f.1
        have h1:x 38 = .bool false:=f.2.1
        go_wp
        exact zaa rfl (Ext.refl _)
       ·intro x W he f
        have h0:x 39 = .pointer (some ⟨w.heap.size,0,none⟩):=f.1
        have h1:x 38 = .bool false:=f.2.1
        have c1:=(HB.out.ext he).cell (j:=0) rfl
        go_wp
        exact zaa rfl (Ext.refl _)
       ·intro x W he f
        have h0:x 4 = .pointer (some ⟨wr.heap.size,0,none⟩):=f.1
        have h1:x 38 = .bool false:=f.2.1
        go_wp
        exact zaa rfl (Ext.refl _)
       ·intro x W he f
        have h0:x 41 = .pointer (some ⟨wr.heap.size,1,none⟩):=f.1
        have h1:x 38 = .bool false:=f.2.1
        have q1:=(rb.ext he).cell (j:=1) rfl
        go_wp
        exact zaa rfl (Ext.refl _)
       ·intro x W he f
        have h0:x 40 = .slice A1 sa.length n1:=f.1
        have h1:x 42 = .slice C1 m.seen.length c1:=f.2.1
        have h2:x 38 = .bool false:=f.2.2.1
        have HC:=Lib.hid (zgj (HSA.out.ext (by decide) he) (hEA2.seen.ext (by decide) he) (Nat.le_trans hsa (by decide)) (Nat.le_trans hsm.seen (by decide)))
        go_wp
        refine HC.out.mono ?_
        rintro r W2 ⟨rfl,hx2⟩
        dsimp only
        go_wp
        exact zaa rfl hx2
       ·intro x W he f
        have h0:x 43 = .bool (zba sa m.seen):=f.1
        have h1:x 38 = .bool false:=f.2.1
        go_wp
        exact zaa rfl (Ext.refl _)
      case hend =>
       intro x W he f
       have h38:x 38 = .bool false:=f.2.2.2.2.2.2.2.2.2.2.2.2.2.2.2.2.2.2.2.1
       have h44:x 44 = .bool (!zba sa m.seen):=f.2.2.2.2.2.2.2.2.2.2.2.2.2.2.2.2.2.2.2.2.2.2.2.2.2.1
       clear f
       have HX:=Lib.hid (HXB.out.trans he)
       have HBW:=Lib.hid (HB.out.ext he)
       simp only [List.length_cons,List.length_nil,Nat.reduceAdd,List.take_succ_cons,List.take_zero,List.filterMap_cons,List.filterMap_nil,List.drop_succ_cons,List.drop_zero,zau,Act.put,List.setIfInBounds_toArray,List.set_cons_succ,List.set_cons_zero,h38,h44]
       cases hc:zba sa m.seen with
       | false =>
        have HRF:=Lib.hid (show mayS ⟨sa,se,sp⟩=false by rw [HM2.out,HME.out,hc];rfl)
        clear he
        go_wp
        go_wp2_with fail
        go_ret
        exact⟨by rw [HRF.out];rfl,HX.out⟩
       | true =>
        have HN:=Lib.hid (show zc6 sa none se=zc6 sa ((pre++[m]).getLast?.map (·.key)) post by rw [HME.out,hc];simp)
        clear he
        go_wp
        go_wp2_with fail
        go_roundw
        case rel=>exact⟨pre++[m],post,by rw [HL.out];simp,by simp <;> omega,HN,HBW,HX.out⟩
        case measure=>simp [intOf];omega
     ·rw [hp] at HME
      have k4:=zfl h0 (by omega)
      have k5:((pre.length - 1:Nat):Int) < (se.length:Int):=by omega
      have k6:(0:Int)≤((pre.length - 1:Nat):Int):=by omega
      have k7:(((pre.length - 1:Nat):Int)).toNat=pre.length - 1:=by omega
      have k8:(0:Int) < (pre.length:Int):=by omega
      cases hlt2:ltS q.key m.key with
      | false =>
       have HRF:=Lib.hid (show mayS ⟨sa,se,sp⟩=false by rw [HM2.out,HME.out];simp only [hlt2];rfl)
       refine zaz [fun v _=>v=entV m (.slice C1 m.seen.length c1) (.slice C2 m.counts.length c2) (.slice C3 m.items.length c3),
   fun v _=>v = .bool true,
   fun v _=>v = .bool false,
   fun v _=>v = .bool false,
   fun v _=>v=I pre.length,
   fun v _=>v = .bool true,
   fun v _=>v = .bool true,
   fun v _=>v = .pointer (some ⟨w.heap.size,1,none⟩),
   fun v _=>v = .slice (some ⟨b,o,none⟩) se.length n2,
   fun v _=>v=I pre.length,
   fun v _=>v=I ((pre.length - 1:Nat):Int),
   fun v _=>v = .pointer (some ⟨b,o+(pre.length - 1) * 7,none⟩),
   fun v _=>v = .pointer (some ⟨b,o+(pre.length - 1) * 7,none⟩),
   fun v _=>v=St q.key,
   fun v _=>v = .pointer (some ⟨wr.heap.size,0,none⟩),
   fun v _=>v=St m.key,
   fun v _=>v = .bool true,
   fun v _=>v = .bool true,
   fun v _=>v = .bool true,
   fun v _=>v = .bool true,
   fun v _=>v = .tuple #[],
   fun v _=>v = .tuple #[],
   fun v _=>v = .tuple #[],
   fun v _=>v = .tuple #[],
   fun v _=>v = .tuple #[],
   fun v _=>v = .tuple #[]] rfl (by kernel_rfl) ?hR ?hstep ?hend
       case hR =>
        simp only [List.mem_cons,List.not_mem_nil,or_false,forall_eq_or_imp,forall_eq]
        exact⟨fun v _ _ h _=>h,fun v _ _ h _=>h,fun v _ _ h _=>h,fun v _ _ h _=>h,fun v _ _ h _=>h,fun v _ _ h _=>h,fun v _ _ h _=>h,fun v _ _ h _=>h,fun v _ _ h _=>h,fun v _ _ h _=>h,fun v _ _ h _=>h,fun v _ _ h _=>h,fun v _ _ h _=>h,fun v _ _ h _=>h,fun v _ _ h _=>h,fun v _ _ h _=>h,fun v _ _ h _=>h,fun v _ _ h _=>h,fun v _ _ h _=>h,fun v _ _ h _=>h,fun v _ _ h _=>h,fun v _ _ h _=>h,fun v _ _ h _=>h,fun v _ _ h _=>h,fun v _ _ h _=>h,fun v _ _ h _=>h⟩
       case hstep =>
        simp only [List.length_cons,List.length_nil,Nat.reduceAdd,List.take_succ_cons,List.take_zero,zbn,and_true]
        refine ⟨?_,?_,?_,?_,?_,?_,?_,?_,?_,?_,?_,?_,?_,?_,?_,?_,?_,?_,?_,?_,?_,?_,?_,?_,?_,?_⟩
        ·intro x W he f
         have h0:x 4 = .pointer (some ⟨wr.heap.size,0,none⟩):=f.1
         have q0:=(rb.ext he).cell (j:=0) rfl
         have q1:=(rb.ext he).cell (j:=1) rfl
         have q2:=(rb.ext he).cell (j:=2) rfl
         have q3:=(rb.ext he).cell (j:=3) rfl
         have q4:=(rb.ext he).cell (j:=4) rfl
         have q5:=(rb.ext he).cell (j:=5) rfl
         have q6:=(rb.ext he).cell (j:=6) rfl
         go_wp
         exact zaa rfl (Ext.refl _)
        ·intro x W he f
         have h0:x 19=entV m (.slice C1 m.seen.length c1) (.slice C2 m.counts.length c2) (.slice C3 m.items.length c3):=f.1
         have HC:=Lib.hid (zio (hEA2.ext he) (Nat.le_trans hsm.items (by decide)))
         rw [hb] at HC
         go_wp
         refine HC.out.mono ?_
         rintro r W2 ⟨rfl,hx2⟩
         dsimp only
         go_wp
         exact zaa rfl hx2
        ·intro x W he f
         have h0:x 20 = .bool true:=f.1
         go_wp
         exact zaa rfl (Ext.refl _)
        ·intro x W he f
         have h0:x 21 = .bool false:=f.1
         go_wp
         exact zaa rfl (Ext.refl _)
        ·intro x W he f
         have h0:x 3=I pre.length:=f.1
         have h1:x 22 = .bool false:=f.2.1
         go_wp
         exact zaa rfl (Ext.refl _)
        ·intro x W he f
         have h0:x 23=I pre.length:=f.1
         have h1:x 22 = .bool false:=f.2.1
         go_wp
         exact zaa rfl (Ext.refl _)
        ·intro x W he f
         have h0:x 24 = .bool true:=f.1
         have h1:x 22 = .bool false:=f.2.1
         go_wp
         exact zaa rfl (Ext.refl _)
        ·intro x W he f
         have h0:x 1 = .pointer (some ⟨w.heap.size,0,none⟩):=f.1
         have h1:x 25 = .bool true:=f.2.1
         go_wp
         exact zaa rfl (Ext.refl _)
        ·intro x W he f
         have h0:x 26 = .pointer (some ⟨w.heap.size,1,none⟩):=f.1
         have h1:x 25 = .bool true:=f.2.1
         have c1:=(HB.out.ext he).cell (j:=1) rfl
         go_wp
         exact zaa rfl (Ext.refl _)
        ·intro x W he f
         have h0:x 3=I pre.length:=f.1
         have h1:x 25 = .bool true:=f.2.1
         go_wp
         exact zaa rfl (Ext.refl _)
        ·intro x W he f
         have h0:x 28=I pre.length:=f.1
         have h1:x 25 = .bool true:=f.2.1
         go_wp
         exact zaa rfl (Ext.refl _)
        ·intro x W he f
         have h0:x 27 = .slice (some ⟨b,o,none⟩) se.length n2:=f.1
         have h1:x 29=I ((pre.length - 1:Nat):Int):=f.2.1
         have h2:x 25 = .bool true:=f.2.2.1
         go_wp
         exact zaa rfl (Ext.refl _)
        ·intro x W he f
         have h0:x 30 = .pointer (some ⟨b,o+(pre.length - 1) * 7,none⟩):=f.1
         have h1:x 25 = .bool true:=f.2.1
         go_wp
         exact zaa rfl (Ext.refl _)
        ·intro x W he f
         have h0:x 31 = .pointer (some ⟨b,o+(pre.length - 1) * 7,none⟩):=f.1
         have h1:x 25 = .bool true:=f.2.1
         have c1:=he.cell hq0
         go_wp
         exact zaa rfl (Ext.refl _)
        ·intro x W he f
         have h0:x 4 = .pointer (some ⟨wr.heap.size,0,none⟩):=f.1
         have h1:x 25 = .bool true:=f.2.1
         go_wp
         exact zaa rfl (Ext.refl _)
        ·intro x W he f
         have h0:x 33 = .pointer (some ⟨wr.heap.size,0,none⟩):=f.1
         have h1:x 25 = .bool true:=f.2.1
         have q0:=(rb.ext he).cell (j:=0) rfl
         go_wp
         exact zaa rfl (Ext.refl _)
        ·intro x W he f
         have h0:x 32=St q.key:=f.1
         have h1:x 34=St m.key:=f.2.1
         have h2:x 25 = .bool true:=f.2.2.1
         go_wp
         exact zaa rfl (Ext.refl _)
        ·intro x W he f
         have h0:x 25 = .bool true:=f.1
         have h1:x 35 = .bool true:=f.2.1
         have h2:x 22 = .bool false:=f.2.2.1
         go_wp
         exact zaa rfl (Ext.refl _)
        ·intro x W he f
         have h0:x 22 = .bool false:=f.1
         have h1:x 36 = .bool true:=f.2.1
         go_wp
         exact zaa rfl (Ext.refl _)
        ·intro x W he f
         have h0:x 37 = .bool true:=f.1
         go_wp
         exact zaa rfl (Ext.refl _)
        ·intro x W he f
         have h0:x 1 = .pointer (some ⟨w.heap.size,0,none⟩):=f.1
         have h1:x 38 = .bool true:=f.2.1
         go_wp
         exact zaa rfl (Ext.refl _)
        ·intro x W he f
         have h0:x 39 = .tuple #[]:=f.1
         have h1:x 38 = .bool true:=f.2.1
         have c1:=(HB.out.ext he).cell (j:=0) rfl
         go_wp
         exact zaa rfl (Ext.refl _)
        ·intro x W he f
         have h0:x 4 = .pointer (some ⟨wr.heap.size,0,none⟩):=f.1
         have h1:x 38 = .bool true:=f.2.1
         go_wp
         exact zaa rfl (Ext.refl _)
        ·intro x W he f
         have h0:x 41 = .tuple #[]:=f.1
         have h1:x 38 = .bool true:=f.2.1
         have q1:=(rb.ext he).cell (j:=1) rfl
         go_wp
         exact zaa rfl (Ext.refl _)
        ·intro x W he f
         have h0:x 40 = .tuple #[]:=f.1
         have h1:x 42 = .tuple #[]:=f.2.1
         have h2:x 38 = .bool true:=f.2.2.1
         go_wp
         exact zaa rfl (Ext.refl _)
        ·intro x W he f
         have h0:x 43 = .tuple #[]:=f.1
         have h1:x 38 = .bool true:=f.2.1
         go_wp
         exact zaa rfl (Ext.refl _)
       case hend =>
        intro x W he f
        have h38:x 38 = .bool true:=f.2.2.2.2.2.2.2.2.2.2.2.2.2.2.2.2.2.2.2.1
        clear f
        have HX:=Lib.hid (HXB.out.trans he)
        have HBW:=Lib.hid (HB.out.ext he)
        simp only [List.length_cons,List.length_nil,Nat.reduceAdd,List.take_succ_cons,List.take_zero,List.filterMap_cons,List.filterMap_nil,List.drop_succ_cons,List.drop_zero,zau,Act.put,List.setIfInBounds_toArray,List.set_cons_succ,List.set_cons_zero,h38]
        clear he
        go_wp
        go_wp2_with fail
        go_ret
        exact⟨by rw [HRF.out];rfl,HX.out⟩
      | true =>
       have HME2:=Lib.hid (show zc6 sa none se=(zba sa m.seen && zc6 sa (some m.key) post) by rw [HME.out];simp only [hlt2];rfl)
       refine zaz [fun v _=>v=entV m (.slice C1 m.seen.length c1) (.slice C2 m.counts.length c2) (.slice C3 m.items.length c3),
   fun v _=>v = .bool true,
   fun v _=>v = .bool false,
   fun v _=>v = .bool false,
   fun v _=>v=I pre.length,
   fun v _=>v = .bool true,
   fun v _=>v = .bool true,
   fun v _=>v = .pointer (some ⟨w.heap.size,1,none⟩),
   fun v _=>v = .slice (some ⟨b,o,none⟩) se.length n2,
   fun v _=>v=I pre.length,
   fun v _=>v=I ((pre.length - 1:Nat):Int),
   fun v _=>v = .pointer (some ⟨b,o+(pre.length - 1) * 7,none⟩),
   fun v _=>v = .pointer (some ⟨b,o+(pre.length - 1) * 7,none⟩),
   fun v _=>v=St q.key,
   fun v _=>v = .pointer (some ⟨wr.heap.size,0,none⟩),
   fun v _=>v=St m.key,
   fun v _=>v = .bool false,
   fun v _=>v = .bool false,
   fun v _=>v = .bool false,
   fun v _=>v = .bool false,
   fun v _=>v = .pointer (some ⟨w.heap.size,0,none⟩),
   fun v _=>v = .slice A1 sa.length n1,
   fun v _=>v = .pointer (some ⟨wr.heap.size,1,none⟩),
   fun v _=>v = .slice C1 m.seen.length c1,
   fun v _=>v = .bool (zba sa m.seen),
   fun v _=>v = .bool (!zba sa m.seen)] rfl (by kernel_rfl) ?hR ?hstep ?hend
       case hR =>
        simp only [List.mem_cons,List.not_mem_nil,or_false,forall_eq_or_imp,forall_eq]
        exact⟨fun v _ _ h _=>h,fun v _ _ h _=>h,fun v _ _ h _=>h,fun v _ _ h _=>h,fun v _ _ h _=>h,fun v _ _ h _=>h,fun v _ _ h _=>h,fun v _ _ h _=>h,fun v _ _ h _=>h,fun v _ _ h _=>h,fun v _ _ h _=>h,fun v _ _ h _=>h,fun v _ _ h _=>h,fun v _ _ h _=>h,fun v _ _ h _=>h,fun v _ _ h _=>h,fun v _ _ h _=>h,fun v _ _ h _=>h,fun v _ _ h _=>h,fun v _ _ h _=>h,fun v _ _ h _=>h,fun v _ _ h _=>h,fun v _ _ h _=>h,fun v _ _ h _=>h,fun v _ _ h _=>h,fun v _ _ h _=>h⟩
       case hstep =>
        simp only [List.length_cons,List.length_nil,Nat.reduceAdd,List.take_succ_cons,List.take_zero,zbn,and_true]
        refine ⟨?_,?_,?_,?_,?_,?_,?_,?_,?_,?_,?_,?_,?_,?_,?_,?_,?_,?_,?_,?_,?_,?_,?_,?_,?_,?_⟩
        ·intro x W he f
         have h0:x 4 = .pointer (some ⟨wr.heap.size,0,none⟩):=f.1
         have q0:=(rb.ext he).cell (j:=0) rfl
         have q1:=(rb.ext he).cell (j:=1) rfl
         have q2:=(rb.ext he).cell (j:=2) rfl
         have q3:=(rb.ext he).cell (j:=3) rfl
         have q4:=(rb.ext he).cell (j:=4) rfl
         have q5:=(rb.ext he).cell (j:=5) rfl
         have q6:=(rb.ext he).cell (j:=6) rfl
         go_wp
         exact zaa rfl (Ext.refl _)
        ·intro x W he f
         have h0:x 19=entV m (.slice C1 m.seen.length c1) (.slice C2 m.counts.length c2) (.slice C3 m.items.length c3):=f.1
         have HC:=Lib.hid (zio (hEA2.ext he) (Nat.le_trans hsm.items (by decide)))
         rw [hb] at HC
         go_wp
         refine HC.out.mono ?_
         rintro r W2 ⟨rfl,hx2⟩
         dsimp only
         go_wp
         exact zaa rfl hx2
        ·intro x W he f
         have h0:x 20 = .bool true:=f.1
         go_wp
         exact zaa rfl (Ext.refl _)
        ·intro x W he f
         have h0:x 21 = .bool false:=f.1
         go_wp
         exact zaa rfl (Ext.refl _)
        ·intro x W he f
         have h0:x 3=I pre.length:=f.1
         have h1:x 22 = .bool false:=f.2.1
         go_wp
         exact zaa rfl (Ext.refl _)
        ·intro x W he f
         have h0:x 23=I pre.length:=f.1
         have h1:x 22 = .bool false:=f.2.1
         go_wp
         exact zaa rfl (Ext.refl _)
        ·intro x W he f
         have h0:x 24 = .bool true:=f.1
         have h1:x 22 = .bool false:=f.2.1
         go_wp
         exact zaa rfl (Ext.refl _)
        ·intro x W he f
         have h0:x 1 = .pointer (some ⟨w.heap.size,0,none⟩):=f.1
         have h1:x 25 = .bool true:=f.2.1
         go_wp
         exact zaa rfl (Ext.refl _)
        ·intro x W he f
         have h0:x 26 = .pointer (some ⟨w.heap.size,1,none⟩):=f.1
         have h1:x 25 = .bool true:=f.2.1
         have c1:=(HB.out.ext he).cell (j:=1) rfl
         go_wp
         exact zaa rfl (Ext.refl _)
        ·intro x W he f
         have h0:x 3=I pre.length:=f.1
         have h1:x 25 = .bool true:=f.2.1
         go_wp
         exact zaa rfl (Ext.refl _)
        ·intro x W he f
         have h0:x 28=I pre.length:=f.1
         have h1:x 25 = .bool true:=f.2.1
         go_wp
         exact zaa rfl (Ext.refl _)
        ·intro x W he f
         have h0:x 27 = .slice (some ⟨b,o,none⟩) se.length n2:=f.1
         have h1:x 29=I ((pre.length - 1:Nat):Int):=f.2.1
         have h2:x 25 = .bool true:=f.2.2.1
         go_wp
         exact zaa rfl (Ext.refl _)
        ·intro x W he f
         have h0:x 30 = .pointer (some ⟨b,o+(pre.length - 1) * 7,none⟩):=f.1
         have h1:x 25 = .bool true:=f.2.1
         go_wp
         exact zaa rfl (Ext.refl _)
        ·intro x W he f
         have h0:x 31 = .pointer (some ⟨b,o+(pre.length - 1) * 7,none⟩):=f.1
         have h1:x 25 = .bool true:=f.2.1
         have c1:=he.cell hq0
         go_wp
         exact zaa rfl (Ext.refl _)
        ·intro x W he f
         have h0:x 4 = .pointer (some ⟨wr.heap.size,0,none⟩):=f.1
         have h1:x 25 = .bool true:=f.2.1
         go_wp
         exact zaa rfl (Ext.refl _)
        ·intro x W he f
         have h0:x 33 = .pointer (some ⟨wr.heap.size,0,none⟩):=f.1
         have h1:x 25 = .bool true:=f.2.1
         have q0:=(rb.ext he).cell (j:=0) rfl
         go_wp
         exact zaa rfl (Ext.refl _)
        ·intro x W he f
         have h0:x 32=St q.key:=f.1
         have h1:x 34=St m.key:=f.2.1
         have h2:x 25 = .bool true:=f.2.2.1
         go_wp
         exact zaa rfl (Ext.refl _)
        ·intro x W he f
         have h0:x 25 = .bool true:=f.1
         have h1:x 35 = .bool false:=f.2.1
         have h2:x 22 = .bool false:=f.2.2.1
         go_wp
         exact zaa rfl (Ext.refl _)
        ·intro x W he f
         have h0:x 22 = .bool false:=f.1
         have h1:x 36 = .bool false:=f.2.1
         go_wp
         exact zaa rfl (Ext.refl _)
        ·intro x W he f
         have h0:x 37 = .bool false:=f.1
         go_wp
         exact zaa rfl (Ext.refl _)
        ·intro x W he f
         have h0:x 1 = .pointer (some ⟨w.heap.size,0,none⟩):=f.1
         have h1:x 38 = .bool false:=f.2.1
         go_wp
         exact zaa rfl (Ext.refl _)
        ·intro x W he f
         have h0:x 39 = .pointer (some ⟨w.heap.size,0,none⟩):=f.1
         have h1:x 38 = .bool false:=f.2.1
         have c1:=(HB.out.ext he).cell (j:=0) rfl
         go_wp
         exact zaa rfl (Ext.refl _)
        ·intro x W he f
         have h0:x 4 = .pointer (some ⟨wr.heap.size,0,none⟩):=f.1
         have h1:x 38 = .bool false:=f.2.1
         go_wp
         exact zaa rfl (Ext.refl _)
        ·intro x W he f
         have h0:x 41 = .pointer (some ⟨wr.heap.size,1,none⟩):=f.1
         have h1:x 38 = .bool false:=f.2.1
         have q1:=(rb.ext he).cell (j:=1) rfl
         go_wp
         exact zaa rfl (Ext.refl _)
        ·intro x W he f
         have h0:x 40 = .slice A1 sa.length n1:=f.1
         have h1:x 42 = .slice C1 m.seen.length c1:=f.2.1
         have h2:x 38 = .bool false:=f.2.2.1
         have HC:=Lib.hid (zgj (HSA.out.ext (by decide) he) (hEA2.seen.ext (by decide) he) (Nat.le_trans hsa (by decide)) (Nat.le_trans hsm.seen (by decide)))
         go_wp
         refine HC.out.mono ?_
         rintro r W2 ⟨rfl,hx2⟩
         dsimp only
         go_wp
         exact zaa rfl hx2
        ·intro x W he f
         have h0:x 43 = .bool (zba sa m.seen):=f.1
         have h1:x 38 = .bool false:=f.2.1
         go_wp
         exact zaa rfl (Ext.refl _)
       case hend =>
        intro x W he f
        have h38:x 38 = .bool false:=f.2.2.2.2.2.2.2.2.2.2.2.2.2.2.2.2.2.2.2.1
        have h44:x 44 = .bool (!zba sa m.seen):=f.2.2.2.2.2.2.2.2.2.2.2.2.2.2.2.2.2.2.2.2.2.2.2.2.2.1
        clear f
        have HX:=Lib.hid (HXB.out.trans he)
        have HBW:=Lib.hid (HB.out.ext he)
        simp only [List.length_cons,List.length_nil,Nat.reduceAdd,List.take_succ_cons,List.take_zero,List.filterMap_cons,List.filterMap_nil,List.drop_succ_cons,List.drop_zero,zau,Act.put,List.setIfInBounds_toArray,List.set_cons_succ,List.set_cons_zero,h38,h44]
        cases hc:zba sa m.seen with
        | false =>
         have HRF:=Lib.hid (show mayS ⟨sa,se,sp⟩=false by rw [HM2.out,HME2.out,hc];rfl)
         clear he
         go_wp
         go_wp2_with fail
         go_ret
         exact⟨by rw [HRF.out];rfl,HX.out⟩
        | true =>
         have HN:=Lib.hid (show zc6 sa none se=zc6 sa ((pre++[m]).getLast?.map (·.key)) post by rw [HME2.out,hc];simp)
         clear he
         go_wp
         go_wp2_with fail
         go_roundw
         case rel=>exact⟨pre++[m],post,by rw [HL.out];simp,by simp <;> omega,HN,HBW,HX.out⟩
         case measure=>simp [intOf];omega
   | nil =>
    rw [List.append_nil] at hl
    have hln:se.length=pre.length:=by rw [hl]
    have HM3:=Lib.hid (show mayS ⟨sa,se,sp⟩=zcq sa none sp by rw [HM2.out,hme.out];simp [zc6])
    have c2:=hrow.out.cell (j:=2) rfl
    have HX:=Lib.hid hx
    have HSA:=Lib.hid H.out.all
    clear hl hme hx HM2
    go_wp2_with fail
    obtain⟨wo,rfl⟩:∃ wo:World,wo=wr:=⟨_,rfl⟩
    go_loopw [50] (fun i wr2=>∃ p2 q2,sp=p2++q2∧i=I p2.length∧Hid (zcq sa none sp=zcq sa p2.getLast? q2)∧Hid (RowIs wr2 w.heap.size 30 [.slice A1 sa.length n1,.slice A2 se.length n2,.slice A3 sp.length n3] [])∧Ext w wr2) (fun i _=>sp.length - (intOf i).toNat)
    case atStart=>exact⟨[],sp,rfl,rfl,Lib.hid rfl,hrow,HX.out⟩
    case round =>
     obtain⟨p2,q2,hl2,rfl,hmp,hrow2,hx2⟩:=hrel
     cases q2 with
     | cons p q2 =>
      obtain⟨b,o,rfl,e0⟩:=HPT.out p2 q2 p wr hx2 hl2
      have hlt2:p2.length < sp.length:=by rw [hl2];simp
      have HL2:=Lib.hid hl2
      have hprev:(p2.length=0∧p2.getLast? = none) ∨ (0 < p2.length∧∃ q:Str,p2.getLast? = some q∧wr.cell? ⟨b,o+(p2.length - 1),none⟩=some (St q)):=by
       rcases Nat.eq_zero_or_pos p2.length with h0 | h0
       ·exact .inl ⟨h0,by rw [List.eq_nil_of_length_eq_zero h0];rfl⟩
       ·obtain⟨p',q,f1,f2,f3⟩:=zgm h0
        obtain⟨b',o',e,q0⟩:=HPT.out p' (p :: q2) q wr hx2 (by rw [hl2,f1];simp)
        cases e
        rw [f3] at q0
        exact .inr ⟨h0,q,f2,q0⟩
      have r0:=hrow2.out.cell (j:=0) rfl
      have r2:=hrow2.out.cell (j:=2) rfl
      have HMP:=Lib.hid (show zcq sa none sp=(!p.isEmpty && ((match p2.getLast? with | none=>true | some k=>ltS k p) && (decide (ofM sa p=0) && zcq sa (some p) q2))) from hmp.out)
      have HX2:=Lib.hid hx2
      have HOF:=Lib.hid (ziz p (HSA.out.ext (by decide) hx2))
      clear hl2 hmp hx2
      by_cases hpe:p = []
      ·subst hpe
       have HRF:=Lib.hid (show mayS ⟨sa,se,sp⟩=false by rw [HM3.out,HMP.out];rfl)
       clear hprev HOF
       go_wp2_with fail
       go_ret
       exact⟨by rw [HRF.out];rfl,HX2.out⟩
      ·have hpb:(p == [])=false:=by simpa using hpe
       have hpi:p.isEmpty=false:=by cases p with | nil=>exact absurd rfl hpe | cons _ _=>rfl
       rw [hpi] at HMP
       clear hpe hpi
       rcases hprev with ⟨h0,hp⟩ | ⟨h0,q,hp,hq0⟩
       ·rw [hp] at HMP
        obtain rfl:=List.eq_nil_of_length_eq_zero h0
        simp only [List.length_nil,Nat.add_zero] at e0
        have HME2:=Lib.hid (show zcq sa none sp=(decide (ofM sa p=0) && zcq sa (some p) q2) from HMP.out)
        clear hp
        go_wp2_with fail
        refine HOF.out.mono ?_
        rintro r W2 ⟨rfl,hx3⟩
        have HX3:=Lib.hid (HX2.out.trans hx3)
        have HRW:=Lib.hid (hrow2.out.ext hx3)
        obtain⟨z,hz9⟩:∃ z,ofM sa p=z:=⟨_,rfl⟩
        rw [hz9] at HME2
        rw [hz9]
        clear hx3 hz9
        rcases Nat.eq_zero_or_pos z with h9 | h9
        ·subst h9
         have HN:=Lib.hid (show zcq sa none sp=zcq sa ((([]:List Str)++[p]).getLast?) q2 by rw [HME2.out];simp)
         go_wp2_with fail
         go_roundw
         case rel=>exact⟨[]++[p],q2,by rw [HL2.out];simp,by simp,HN,HRW,HX3.out⟩
         case measure=>simp [intOf];omega
        ·have HRF:=Lib.hid (show mayS ⟨sa,se,sp⟩=false by rw [HM3.out,HME2.out];simp;omega)
         have h10:(z:Int) > 0:=by omega
         go_wp2_with fail
         go_ret
         exact⟨by rw [HRF.out];rfl,HX3.out⟩
       ·rw [hp] at HMP
        have k4:=zfl h0 (by omega)
        have k5:((p2.length - 1:Nat):Int) < (sp.length:Int):=by omega
        have k6:(0:Int)≤((p2.length - 1:Nat):Int):=by omega
        have k7:(((p2.length - 1:Nat):Int)).toNat=p2.length - 1:=by omega
        have k8:(0:Int) < (p2.length:Int):=by omega
        clear hp
        cases hlt3:ltS q p with
        | false =>
         have HRF:=Lib.hid (show mayS ⟨sa,se,sp⟩=false by rw [HM3.out,HMP.out];simp only [hlt3];rfl)
         clear HOF
         go_wp2_with fail
         go_ret
         exact⟨by rw [HRF.out];rfl,HX2.out⟩
        | true =>
         have HME2:=Lib.hid (show zcq sa none sp=(decide (ofM sa p=0) && zcq sa (some p) q2) by rw [HMP.out];simp only [hlt3];rfl)
         go_wp2_with fail
         refine HOF.out.mono ?_
         rintro r W2 ⟨rfl,hx3⟩
         have HX3:=Lib.hid (HX2.out.trans hx3)
         have HRW:=Lib.hid (hrow2.out.ext hx3)
         obtain⟨z,hz9⟩:∃ z,ofM sa p=z:=⟨_,rfl⟩
         rw [hz9] at HME2
         rw [hz9]
         clear hx3 hz9
         rcases Nat.eq_zero_or_pos z with h9 | h9
         ·subst h9
          have HN:=Lib.hid (show zcq sa none sp=zcq sa ((p2++[p]).getLast?) q2 by rw [HME2.out];simp)
          go_wp2_with fail
          go_roundw
          case rel=>exact⟨p2++[p],q2,by rw [HL2.out];simp,by simp <;> omega,HN,HRW,HX3.out⟩
          case measure=>simp [intOf];omega
         ·have HRF:=Lib.hid (show mayS ⟨sa,se,sp⟩=false by rw [HM3.out,HME2.out];simp;omega)
          have h10:(z:Int) > 0:=by omega
          go_wp2_with fail
          go_ret
          exact⟨by rw [HRF.out];rfl,HX3.out⟩
     | nil =>
      rw [List.append_nil] at hl2
      have hln2:sp.length=p2.length:=by rw [hl2]
      have HRT:=Lib.hid (show mayS ⟨sa,se,sp⟩=true by rw [HM3.out,hmp.out];rfl)
      have HX2:=Lib.hid hx2
      clear hl2 hmp hx2
      go_wp2_with fail
      go_ret
      exact⟨by rw [HRT.out];rfl,HX2.out⟩
end
section
open Go.RowKit Go.Shelf
theorem zqz {S:Nat→Prop} {e:Entry} {v1 v2 v3:Value} {W:World} {B:Nat} (hb:RowIs W B 37 (entL e v1 v2 v3) []) (h:EntAt W S e v1 v2 v3) :
  Calls Tryz.prog 146 #[.pointer (some ⟨B,0,none⟩)] W fun r w'=>r = .returned (.iface 2 (I (zcu e.counts)))∧Ext W w':=by
 have HC:=Lib.hid (zg7 h.counts)
 obtain⟨A2,n2,rfl,-,-⟩:=h.counts.form
 have k2:=hb.cell (j:=2) rfl
 clear h hb
 go_enter Tryz.func146,Tryz.ntmps146
 go_wp2_with fail
 refine HC.out.mono ?_
 rintro r W1 ⟨rfl,hx1⟩
 go_wp2_with fail
 go_ret
 exact⟨rfl,hx1⟩
theorem zq0 {S:Nat→Prop} {e:Entry} {v1 v2 v3:Value} {W:World} {B:Nat} (hl:(zal e.items).length≤1099511627776) (hb:RowIs W B 37 (entL e v1 v2 v3) []) (h:EntAt W S e v1 v2 v3) :
  Calls Tryz.prog 148 #[.pointer (some ⟨B,0,none⟩)] W fun r w'=>∃ s,r = .returned (.iface 28 s)∧Own w' W.heap.size 9 1 s (zfj e.items).length ((zfj e.items).flatMap strC)∧Ext W w':=by
 have HC:=Lib.hid (zsk h.items hl)
 obtain⟨A3,n3,rfl,-,-⟩:=h.items.form
 have k3:=hb.cell (j:=3) rfl
 clear h hb
 go_enter Tryz.func148,Tryz.ntmps148
 go_wp2_with fail
 refine HC.out.mono ?_
 rintro r W1 ⟨v',rfl,ho,hx1⟩
 obtain⟨A,n,rfl,-,-⟩:=ho.form
 go_wp2_with fail
 go_ret
 exact⟨_,rfl,ho,hx1⟩
def zh5 (c:Cell):Value:=if (zgn c).2 then .iface 9 (St (zgn c).1) else .nilIface
theorem zq1 {S:Nat→Prop} {e:Entry} {v1 v2 v3:Value} {W:World} {B:Nat} (hb:RowIs W B 37 (entL e v1 v2 v3) []) (h:EntAt W S e v1 v2 v3) :
  Calls Tryz.prog 150 #[.pointer (some ⟨B,0,none⟩)] W fun r w'=>r = .returned (zh5 e.cell)∧Ext W w':=by
 obtain⟨ek,es,ec,ei,x1,x2,x3⟩:=e
 have HC:=Lib.hid (zs0 (x1,x2,x3) W)
 have HV:=Lib.hid (show zh5 (x1,x2,x3)=if (zgn (x1,x2,x3)).2 then .iface 9 (St (zgn (x1,x2,x3)).1) else .nilIface from rfl)
 generalize zh5 (x1,x2,x3)=V at *
 have k4:=hb.cell (j:=4) rfl
 have k5:=hb.cell (j:=5) rfl
 have k6:=hb.cell (j:=6) rfl
 clear h hb
 go_enter Tryz.func150,Tryz.ntmps150
 go_wp2_with fail
 refine HC.out.mono ?_
 rintro r W1 ⟨rfl,hx1⟩
 generalize zgn (x1,x2,x3)=p at *
 obtain⟨p1,p2⟩:=p
 cases p2 with
 | false =>
  go_wp2_with fail
  go_ret
  exact⟨by rw [HV.out];rfl,hx1⟩
 | true =>
  go_wp2_with fail
  go_ret
  exact⟨by rw [HV.out];rfl,hx1⟩
def ValAt (W:World) (base:Nat) (e:Entry) (v:Value):Prop :=
 if zaj e.key=1 then v = .iface 2 (I (zcu e.counts)) else
 if zaj e.key=2 then (∃ s,v = .iface 28 s∧Own W base 9 1 s (zfj e.items).length ((zfj e.items).flatMap strC)) else
 if zaj e.key=3 then v=zh5 e.cell else v = .nilIface
theorem zwz (B:Nat) (w:World):(zeroValue 196).run Tryz.prog w = .ok (mayV B none) w:=Tryz.zeroValue196 w
theorem zlh {S:Nat→Prop} {e:Entry} {v1 v2 v3:Value} {w:World} (h:EntAt w S e v1 v2 v3) (hl40:(zal e.items).length≤1099511627776) :
  Calls Tryz.prog 86 #[entV e v1 v2 v3] w fun r w'=>∃ v,r = .returned v∧ValAt w' w.heap.size e v∧Ext w w':=by
 obtain⟨ek,es,ec,ei,x1,x2,x3⟩:=e
 have H:=Lib.hid h
 obtain⟨A1,n1,rfl,-,-⟩:=h.seen.form
 obtain⟨A2,n2,rfl,-,-⟩:=h.counts.form
 obtain⟨A3,n3,rfl,-,-⟩:=h.items.form
 have hx0:=(Ext.refl w).alloc (.cells #[St ek,.slice A1 es.length n1,.slice A2 ec.length n2,.slice A3 ei.length n3,U x1,St x2,.bool x3] 37)
 have hb0:=zab w 37 [St ek,.slice A1 es.length n1,.slice A2 ec.length n2,.slice A3 ei.length n3,U x1,St x2,.bool x3]
 clear h
 have eg1:∀ args w,(callFunc 146 args).run Tryz.prog w = .ok (.enter 146 args) w:=enters_of Tryz.func146 (by kernel_rfl) rfl
 have eg2:∀ args w,(callFunc 148 args).run Tryz.prog w = .ok (.enter 148 args) w:=enters_of Tryz.func148 (by kernel_rfl) rfl
 have eg3:∀ args w,(callFunc 150 args).run Tryz.prog w = .ok (.enter 150 args) w:=enters_of Tryz.func150 (by kernel_rfl) rfl
 have hmm:=@run_makeMap Tryz.prog
 obtain⟨W0,hW0⟩:∃ W0,w.alloc (.cells #[St ek,.slice A1 es.length n1,.slice A2 ec.length n2,.slice A3 ei.length n3,U x1,St x2,.bool x3] 37)=W0:=⟨_,rfl⟩
 rw [hW0] at hx0 hb0
 have hz1:=hb0.lt
 obtain⟨Wa,ua,ma,ta⟩:=zaq (P:=Tryz.prog) (t:=197) Tryz.underlying197 keyOk8 (MapIs.new (K:=K8) (V:=mayV w.heap.size) W0) 1 (some 146)
 obtain⟨Wb,ub,mb,tb⟩:=zaq (P:=Tryz.prog) (t:=197) Tryz.underlying197 keyOk8 ma 2 (some 148)
 obtain⟨Wc,uc,mc,tc⟩:=zaq (P:=Tryz.prog) (t:=197) Tryz.underlying197 keyOk8 mb 3 (some 150)
 have hxa:=((Ext.refl W0).alloc (.map #[] 0)).turned ta (Nat.le_refl _)
 have hxb:=hxa.turned tb (Nat.le_refl _)
 have hxc:=hxb.turned tc (Nat.le_refl _)
 have d0:=(hb0.ext hxc).cell (j:=0) rfl
 have HK:=Lib.hid (zhc ek Wc)
 have HC:=Lib.hid mc
 have HXC:=Lib.hid hxc
 clear ta tb tc hxa hxb hxc ma mb mc
 have ua':(Instr.mapUpdate 197 (.map (some W0.heap.size)) (.int .u8 1) (.func (.func 146) #[] #[.pointer (some ⟨w.heap.size,0,none⟩)])).run Tryz.prog (W0.alloc (.map #[] 0)) = .ok () Wa:=ua
 have ub':(Instr.mapUpdate 197 (.map (some W0.heap.size)) (.int .u8 2) (.func (.func 148) #[] #[.pointer (some ⟨w.heap.size,0,none⟩)])).run Tryz.prog Wa = .ok () Wb:=ub
 have uc':(Instr.mapUpdate 197 (.map (some W0.heap.size)) (.int .u8 3) (.func (.func 150) #[] #[.pointer (some ⟨w.heap.size,0,none⟩)])).run Tryz.prog Wb = .ok () Wc:=uc
 clear ua ub uc
 go_enter Tryz.func86,Tryz.ntmps86
 go_wp2_with fail
 refine HK.out.mono ?_
 rintro r W2 ⟨rfl,hx2⟩
 have hL:=(za7 (P:=Tryz.prog) (t:=197) (z:=none) Tryz.underlying197 keyOk8 (zwz w.heap.size) (HC.out.ext hx2) (zaj ek)).2
 have HB2:=Lib.hid (hb0.ext (HXC.out.trans hx2))
 have HX2:=Lib.hid (hx0.trans (HXC.out.trans hx2))
 have HKK:=Lib.hid (show ∀ W b v,ValAt W b ⟨ek,es,ec,ei,(x1,x2,x3)⟩ v=(if zaj ek=1 then v = .iface 2 (I (zcu ec)) else if zaj ek=2 then (∃ s,v = .iface 28 s∧Own W b 9 1 s (zfj ei).length ((zfj ei).flatMap strC)) else if zaj ek=3 then v=zh5 (x1,x2,x3) else v = .nilIface) from fun _ _ _=>rfl)
 generalize zaj ek=kk at *
 have hL':(Instr.lookup 197 (.map (some W0.heap.size)) (U8 kk) true).run Tryz.prog W2 = .ok (.tuple #[mayV w.heap.size (getL none (putL (putL (putL [] 1 (some 146)) 2 (some 148)) 3 (some 150)) kk),.bool (decide (kk ∈ [1,2,3]))]) W2:=hL
 clear hL
 rcases (show kk=1 ∨ kk=2 ∨ kk=3 ∨ (kk ≠ 1∧kk ≠ 2∧kk ≠ 3) by omega) with h1 | h1 | h1 | ⟨h1,h2,h3⟩
 ·subst h1
  have hl:(Instr.lookup 197 (.map (some W0.heap.size)) (U8 1) true).run Tryz.prog W2 = .ok (.tuple #[.func (.func 146) #[] #[.pointer (some ⟨w.heap.size,0,none⟩)],.bool true]) W2:=hL'
  clear hL'
  have HT:=Lib.hid (zqz HB2.out (H.out.ext HX2.out))
  go_wp2_with fail
  refine HT.out.mono ?_
  rintro r W3 ⟨rfl,hx3⟩
  have HX3:=Lib.hid (HX2.out.trans hx3)
  have hsz:=HX2.out.size
  clear hx3
  go_wp2_with fail
  go_ret
  exact⟨_,rfl,by rw [HKK.out];exact rfl,HX3.out⟩
 ·subst h1
  have hl:(Instr.lookup 197 (.map (some W0.heap.size)) (U8 2) true).run Tryz.prog W2 = .ok (.tuple #[.func (.func 148) #[] #[.pointer (some ⟨w.heap.size,0,none⟩)],.bool true]) W2:=hL'
  clear hL'
  have HT:=Lib.hid (zq0 hl40 HB2.out (H.out.ext HX2.out))
  go_wp2_with fail
  refine HT.out.mono ?_
  rintro r W3 ⟨s,rfl,ho,hx3⟩
  have HX3:=Lib.hid (HX2.out.trans hx3)
  have hsz:=HX2.out.size
  clear hx3
  go_wp2_with fail
  go_ret
  exact⟨_,rfl,by rw [HKK.out];exact⟨_,rfl,ho.lower hsz⟩,HX3.out⟩
 ·subst h1
  have hl:(Instr.lookup 197 (.map (some W0.heap.size)) (U8 3) true).run Tryz.prog W2 = .ok (.tuple #[.func (.func 150) #[] #[.pointer (some ⟨w.heap.size,0,none⟩)],.bool true]) W2:=hL'
  clear hL'
  have HT:=Lib.hid (zq1 HB2.out (H.out.ext HX2.out))
  go_wp2_with fail
  refine HT.out.mono ?_
  rintro r W3 ⟨rfl,hx3⟩
  have HX3:=Lib.hid (HX2.out.trans hx3)
  have hsz:=HX2.out.size
  clear hx3
  go_wp2_with fail
  go_ret
  exact⟨_,rfl,by rw [HKK.out];exact rfl,HX3.out⟩
 ·have hl:(Instr.lookup 197 (.map (some W0.heap.size)) (U8 kk) true).run Tryz.prog W2 = .ok (.tuple #[.nilFunc,.bool false]) W2:=by
   rw [hL']
   have e2:(kk == 1)=false:=by simp;omega
   have e3:(kk == 2)=false:=by simp;omega
   have e4:(kk == 3)=false:=by simp;omega
   simp [getL,putL,List.lookup,e2,e3,e4,h1,h2,h3,mayV]
  clear hL'
  go_wp2_with fail
  go_ret
  exact⟨_,rfl,by rw [HKK.out,if_neg h1,if_neg h2,if_neg h3];rfl,HX2.out⟩
end
section
open Go.RowKit Go.Shelf
theorem zgp:SmallE zad:=⟨by decide,by decide,by decide,(fun it h=>by cases h),by decide⟩
theorem zef {l:List Entry} {k:Str} {m:Entry} (h:zas l k=some m):m ∈ l:=List.mem_of_find?_eq_some h
theorem zhq {l:List Entry} {k:Str} {m:Entry} (h:zas l k=some m):m.key=k:=by simpa using List.find?_some h
theorem zli {l:List Entry} (h:∀ e ∈ l,SmallE e) (k:Str):SmallE ((zas l k).getD zad):=by
 cases hf:zas l k with
 | none=>exact zgp
 | some m=>exact h m (zef hf)
theorem zma {S:Nat→Prop} {s:State} {v1 v2 v3:Value} {w:World} (k:Str) (h:StAt w S s v1 v2 v3) (sm:∀ e ∈ s.entries,SmallE e) :
  Calls Tryz.prog 24 #[stV v1 v2 v3,St k] w fun r w'=>∃ u1 u2 u3,r = .returned (.tuple #[entV ((zas s.entries k).getD zad) u1 u2 u3,.bool (zas s.entries k).isSome])∧EntNew w' w.heap.size ((zas s.entries k).getD zad) u1 u2 u3∧Ext w w':=by
 obtain⟨sa,se,sp⟩:=s
 obtain⟨A1,n1,rfl,-,-⟩:=h.all.form
 obtain⟨A2,n2,rfl,-,-⟩:=h.entries.form
 obtain⟨A3,n3,rfl,-,-⟩:=h.pruned.form
 have hx0:=((Ext.refl w).alloc (.cells #[.slice A1 sa.length n1,.slice A2 se.length n2,.slice A3 sp.length n3] 30)).alloc (.cells #[St [],.slice none 0 0,.slice none 0 0,.slice none 0 0,.int .u64 0,St [],.bool false] 37)
 have rR0:=zab (w.alloc (.cells #[.slice A1 sa.length n1,.slice A2 se.length n2,.slice A3 sp.length n3] 30)) 37 [St [],.slice none 0 0,.slice none 0 0,.slice none 0 0,.int .u64 0,St [],.bool false]
 rw [World.size_alloc] at rR0
 have H1:=Lib.hid (zkv k (h.entries.ext (by decide) hx0))
 have hz0:w.heap.size+2≤((w.alloc (.cells #[.slice A1 sa.length n1,.slice A2 se.length n2,.slice A3 sp.length n3] 30)).alloc (.cells #[St [],.slice none 0 0,.slice none 0 0,.slice none 0 0,.int .u64 0,St [],.bool false] 37)).heap.size:=by simp
 have HSM:=Lib.hid (zli sm k)
 clear h
 go_enter Tryz.func24,Tryz.ntmps24
 go_wp2_with fail
 generalize (w.alloc (.cells #[.slice A1 sa.length n1,.slice A2 se.length n2,.slice A3 sp.length n3] 30)).alloc (.cells #[St [],.slice none 0 0,.slice none 0 0,.slice none 0 0,.int .u64 0,St [],.bool false] 37)=W0 at *
 refine H1.out.mono ?_
 rintro r W1 ⟨v1,v2,v3,rfl,hA,hx1⟩
 simp only at hA HSM ⊢
 have HS0:=Lib.hid HSM.out
 clear HSM
 generalize he:(zas se k).getD zad=e at hA HS0 ⊢
 generalize his:(zas se k).isSome=is
 have HE:=Lib.hid he
 have HIS:=Lib.hid his
 clear he his
 obtain⟨C1,c1,rfl,-,-⟩:=hA.seen.form
 obtain⟨C2,c2,rfl,-,-⟩:=hA.counts.form
 obtain⟨C3,c3,rfl,-,-⟩:=hA.items.form
 have hxb:=(Ext.refl W1).alloc (.cells #[St e.key,.slice C1 e.seen.length c1,.slice C2 e.counts.length c2,.slice C3 e.items.length c3,U e.cell.1,St e.cell.2.1,.bool e.cell.2.2] 37)
 have HC:=Lib.hid (zee (hA.ext hxb) (Nat.le_trans HS0.out.seen (by decide)) (Nat.le_trans HS0.out.counts (by decide)) (Nat.le_trans HS0.out.items (by decide)) (fun it hit=>Nat.le_trans (HS0.out.dots it hit) (by decide)))
 have hx01:=hx0.trans (hx1.trans hxb)
 have hz1:=(hx1.trans hxb).size
 have rR1:=rR0.ext (hx1.trans hxb)
 clear hA hx0 hx1 rR0
 go_wp2_with fail
 refine HC.out.mono ?_
 rintro r W2 ⟨u1,u2,u3,rfl,hn,hx2⟩
 obtain⟨D1,d1,rfl,-,-⟩:=hn.seen.form
 obtain⟨D2,d2,rfl,-,-⟩:=hn.counts.form
 obtain⟨D3,d3,rfl,-,-⟩:=hn.items.form
 have hR:=rR1.ext hx2
 have r0:=hR.cell (j:=0) rfl
 have r1:=hR.cell (j:=1) rfl
 have r2:=hR.cell (j:=2) rfl
 have r3:=hR.cell (j:=3) rfl
 have r4:=hR.cell (j:=4) rfl
 have r5:=hR.cell (j:=5) rfl
 have r6:=hR.cell (j:=6) rfl
 have f0:=hR.frozen 0
 have f1:=hR.frozen 1
 have f2:=hR.frozen 2
 have f3:=hR.frozen 3
 have f4:=hR.frozen 4
 have f5:=hR.frozen 5
 have f6:=hR.frozen 6
 have HX:=Lib.hid (hx01.trans hx2)
 have HN:=Lib.hid hn
 clear hR rR1 hn hx2 hxb hx01
 go_wp2_with fail
 (try simp only [Exit.inBlock,Exit.then])
 refine bodyPost_ret (v:=.tuple #[entV e (.slice D1 e.seen.length d1) (.slice D2 e.counts.length d2) (.slice D3 e.items.length d3),.bool is]) (by simp [results,Tryz.f24,go_sem,entV,entC,r0,r1,r2,r3,r4,r5,r6]) rfl ?_
 have hp:=zin (q:=w.heap.size+1) HX.out (by omega) HN.out (by omega)
 refine ⟨.slice D1 e.seen.length d1,.slice D2 e.counts.length d2,.slice D3 e.items.length d3,by rw [HE.out,HIS.out],?_⟩
 rw [HE.out]
 exact hp
theorem ValAt.lower {W:World} {base base':Nat} {e:Entry} {v:Value} (h:ValAt W base e v) (hb:base'≤base):ValAt W base' e v:=by
 unfold ValAt at h ⊢
 split
 ·rename_i h1;rw [if_pos h1] at h;exact h
 ·rename_i h1
  rw [if_neg h1] at h
  split
  ·rename_i h2;rw [if_pos h2] at h;obtain⟨s,e1,o⟩:=h;exact⟨s,e1,o.lower hb⟩
  ·rename_i h2
   rw [if_neg h2] at h
   exact h
def atE (l:List Entry) (k:Str):Entry:=(zas l k).getD { zad with key:=k }
theorem zux {S:Nat→Prop} {s:State} {v1 v2 v3:Value} {w:World} (k:Str) (h:StAt w S s v1 v2 v3) (sm:∀ e ∈ s.entries,SmallE e) :
  Calls Tryz.prog 39 #[stV v1 v2 v3,St k] w fun r w'=>∃ v,r = .returned v∧ValAt w' w.heap.size (atE s.entries k) v∧Ext w w':=by
 obtain⟨sa,se,sp⟩:=s
 obtain⟨A1,n1,rfl,-,-⟩:=h.all.form
 obtain⟨A2,n2,rfl,-,-⟩:=h.entries.form
 obtain⟨A3,n3,rfl,-,-⟩:=h.pruned.form
 have hx0:=(Ext.refl w).alloc (.cells #[.slice A1 sa.length n1,.slice A2 se.length n2,.slice A3 sp.length n3] 30)
 have H1:=Lib.hid (zkv k (h.entries.ext (by decide) hx0))
 have HSM:=Lib.hid sm
 have HAT:=Lib.hid (show atE se k=(zas se k).getD { zad with key:=k } from rfl)
 clear h sm
 go_enter Tryz.func39,Tryz.ntmps39
 go_wp2_with fail
 generalize w.alloc (.cells #[.slice A1 sa.length n1,.slice A2 se.length n2,.slice A3 sp.length n3] 30)=W0 at *
 refine H1.out.mono ?_
 rintro r W1 ⟨v1,v2,v3,rfl,hA,hx1⟩
 simp only at hA HSM HAT ⊢
 cases hf:zas se k with
 | none =>
  have HAT2:=Lib.hid (show atE se k = { zad with key:=k } by rw [HAT.out,hf];rfl)
  rw [hf] at hA
  simp only [Option.getD_none,Option.isSome_none] at hA ⊢
  have hA2:EntAt W1 S { zad with key:=k } (.slice none 0 0) (.slice none 0 0) (.slice none 0 0):=⟨Sl.nil _ _ (by decide),Sl.nil _ _ (by decide),Sl.nil _ _ (by decide)⟩
  obtain⟨C1,c1,rfl,-,-⟩:=hA.seen.form
  obtain⟨C2,c2,rfl,-,-⟩:=hA.counts.form
  obtain⟨C3,c3,rfl,-,-⟩:=hA.items.form
  have hxb:=(Ext.refl W1).alloc (.cells #[St k,.slice none 0 0,.slice none 0 0,.slice none 0 0,.int .u64 0,St [],.bool false] 37)
  have HV:=Lib.hid (zlh (hA2.ext hxb) (show (zal ([]:List Item)).length≤_ by decide))
  have HX:=Lib.hid (hx0.trans (hx1.trans hxb))
  clear hA hA2 hx0 hx1 hf HAT H1 hxb
  go_wp2_with fail
  refine HV.out.mono ?_
  rintro r W2 ⟨v,rfl,hv,hx2⟩
  have hs:=HX.out.size
  have HVV:=Lib.hid hv
  have HX2:=Lib.hid hx2
  clear hv hx2
  go_wp2_with fail
  go_ret
  exact⟨_,rfl,by rw [HAT2.out];exact HVV.out.lower hs,HX.out.trans HX2.out⟩
 | some e =>
  have HAT2:=Lib.hid (show atE se k=e by rw [HAT.out,hf];rfl)
  have hse:SmallE e:=HSM.out e (zef hf)
  rw [hf] at hA
  simp only [Option.getD_some,Option.isSome_some] at hA ⊢
  obtain⟨C1,c1,rfl,-,-⟩:=hA.seen.form
  obtain⟨C2,c2,rfl,-,-⟩:=hA.counts.form
  obtain⟨C3,c3,rfl,-,-⟩:=hA.items.form
  have hxb:=(Ext.refl W1).alloc (.cells #[St e.key,.slice C1 e.seen.length c1,.slice C2 e.counts.length c2,.slice C3 e.items.length c3,U e.cell.1,St e.cell.2.1,.bool e.cell.2.2] 37)
  have HV:=Lib.hid (zlh (hA.ext hxb) (Nat.le_trans hse.places (by decide)))
  have HX:=Lib.hid (hx0.trans (hx1.trans hxb))
  clear hA hx0 hx1 hf HAT H1 hxb
  go_wp2_with fail
  refine HV.out.mono ?_
  rintro r W2 ⟨v,rfl,hv,hx2⟩
  have hs:=HX.out.size
  have HVV:=Lib.hid hv
  have HX2:=Lib.hid hx2
  clear hv hx2
  go_wp2_with fail
  go_ret
  exact⟨_,rfl,by rw [HAT2.out];exact HVV.out.lower hs,HX.out.trans HX2.out⟩
end
section
open Go.RowKit Go.Shelf
def Did (W w':World) (E pr:Nat) (S:Nat→Prop) (e':Entry) (v1:Value):Prop :=
 ∃ u2 u3,RowIs w' E 37 (entL e' v1 u2 u3) []∧EntAt w' (fun b=>S b ∨ W.heap.size≤b) e' v1 u2 u3∧Kept2 W w' E pr
def MvE (E:Nat) (w w':World):Prop:=w.heap.size≤w'.heap.size∧∀ b,b < w.heap.size→b ≠ E→w'.heap[b]? = w.heap[b]?
theorem MvE.refl (E:Nat) (w:World):MvE E w w:=⟨Nat.le_refl _,fun _ _ _=>rfl⟩
theorem Ext.mvE {E:Nat} {w w':World} (h:Ext w w'):MvE E w w':=⟨h.size,fun b hb _=>h.block b hb⟩
theorem MvE.set (E j:Nat) (w:World) (v:Value):MvE E w (w.setCell ⟨E,j,none⟩ v):=⟨by rw [World.size_setCell];exact Nat.le_refl _,fun b _ hb=>Below.heap_setCell _ _ _ _ hb⟩
theorem Own.mvE {w w':World} {base T k n E:Nat} {v:Value} {xs:List Value} (h:Own w base T k v n xs) (m:MvE E w w') (hE:E < base):Own w' base T k v n xs :=
 h.keep fun b hb hlt=>m.2 b hlt (by have:=(h.base_le hb).1;omega)
theorem OwnL.mvE {α:Type} {T:Shape α} {tid:Nat} {w w':World} {base E:Nat} {v:Value} {l:List α} (h:OwnL T tid w base (fun b=>base≤b) v l) (m:MvE E w w') (hE:E < base):OwnL T tid w' base (fun b=>base≤b) v l :=
 h.keep (fun b hb hlt=>m.2 b hlt (by omega)) fun b hb hlt=>m.2 b hlt (by have:=(h.base_le hb).1;omega)
theorem Kept2.refl (w:World) (p m:Nat):Kept2 w w p m:=⟨rfl,rfl,rfl,Nat.le_refl _,fun _ _ _ _=>rfl⟩
theorem Kept2.ext {W w w':World} {p m:Nat} (k:Kept2 W w p m) (h:Ext w w'):Kept2 W w' p m :=
 ⟨h.os.trans k.os,h.tape.trans k.tape,h.output.trans k.output,Nat.le_trans k.size h.size,fun j hj h1 h2=>(h.block j (Nat.lt_of_lt_of_le hj k.size)).trans (k.other j hj h1 h2)⟩
theorem Kept2.set1 {W w:World} {p m j:Nat} (k:Kept2 W w p m) (v:Value):Kept2 W (w.setCell ⟨p,j,none⟩ v) p m :=
 ⟨k.os,k.tape,k.output,by rw [World.size_setCell];exact k.size,fun b hb h1 h2=>(Below.heap_setCell _ _ _ _ h1).trans (k.other b hb h1 h2)⟩
theorem Kept2.set2 {W w:World} {p m j:Nat} (k:Kept2 W w p m) (v:Value):Kept2 W (w.setCell ⟨m,j,none⟩ v) p m :=
 ⟨k.os,k.tape,k.output,by rw [World.size_setCell];exact k.size,fun b hb h1 h2=>(Below.heap_setCell _ _ _ _ h2).trans (k.other b hb h1 h2)⟩
theorem Ext.kept {W w:World} (h:Ext W w) (p m:Nat):Kept2 W w p m:=⟨h.os,h.tape,h.output,h.size,fun j hj _ _=>h.block j hj⟩
theorem EntAt.kept {W w:World} {S:Nat→Prop} {e:Entry} {v1 v2 v3:Value} {p m:Nat} (h:EntAt W S e v1 v2 v3) (k:Kept2 W w p m) (hS:∀ b,S b→b ≠ p∧b ≠ m):EntAt w S e v1 v2 v3 :=
 ⟨h.seen.keep (by decide) fun b hb hlt=>k.other b hlt (hS b hb).1 (hS b hb).2,h.counts.keep (by decide) fun b hb hlt=>k.other b hlt (hS b hb).1 (hS b hb).2,h.items.keep (by decide) fun b hb hlt=>k.other b hlt (hS b hb).1 (hS b hb).2⟩
theorem zoc {S:Nat→Prop} {W:World} {pe pr E:Nat} {e:Entry} {v1 v2 v3 z:Value} {pd:Nat} {d1:Str} (n:Int) (hn1:-9223372036854775808≤n) (hn2:n≤9223372036854775807) (hd:W.cell? ⟨pd,0,none⟩=some (St d1)) (hl:e.counts.length < 1099511627776)
  (hpe:W.cell? ⟨pe,0,none⟩=some (.pointer (some ⟨E,0,none⟩))) (hr:RowIs W pr 38 [z] []) (hE:RowIs W E 37 (entL e v1 v2 v3) []) (hA:EntAt W S e v1 v2 v3) (hS:∀ b,S b→b ≠ E∧b ≠ pr) (hpr:pr ≠ E) :
  Calls Tryz.prog 155 #[I n,.pointer (some ⟨pe,0,none⟩),.pointer (some ⟨pd,0,none⟩),.pointer (some ⟨pr,0,none⟩)] W fun r w'=>r = .returned (I (addC e.counts d1 n).2)∧Did W w' E pr S { e with counts:=(addC e.counts d1 n).1 } v1:=by
 obtain⟨A1,n1,rfl,-,-⟩:=hA.seen.form
 obtain⟨A2,n2,rfl,-,-⟩:=hA.counts.form
 obtain⟨A3,n3,rfl,-,-⟩:=hA.items.form
 have HA:=Lib.hid hA
 have HS:=Lib.hid hS
 clear hA hS
 have hEl:=hE.lt
 let J1:World→Prop:=fun w=>∃ u,Own w W.heap.size 93 3 u (addC e.counts d1 n).1.length ((addC e.counts d1 n).1.flatMap zbz)∧RowIs w E 37 (entL e (.slice A1 e.seen.length n1) u (.slice A3 e.items.length n3)) []∧RowIs w pr 38 [z] []∧Kept2 W w E pr
 go_enter Tryz.func155,Tryz.ntmps155
 go_wp2_with fail
 refine ze1 [.early (fun v _=>v = .pointer (some ⟨E,0,none⟩)),
  .early (fun v _=>v = .pointer (some ⟨E,0,none⟩)),
  .early (fun v _=>v = .pointer (some ⟨E,0,none⟩)),
  .early (fun v _=>v = .pointer (some ⟨E,2,none⟩)),
  .early (fun v _=>v = .slice A2 e.counts.length n2),
  .early (fun v _=>v = .pointer (some ⟨pd,0,none⟩)),
  .early (fun v _=>v=St d1),
  .early (fun v _=>v=I n),
  .early (fun v W2=>∃ v4,v = .tuple #[v4,I (addC e.counts d1 n).2]∧Own W2 W.heap.size 93 3 v4 (addC e.counts d1 n).1.length ((addC e.counts d1 n).1.flatMap zbz)),
  .early (fun v W2=>∃ v4,v = .tuple #[v4,I (addC e.counts d1 n).2]∧Own W2 W.heap.size 93 3 v4 (addC e.counts d1 n).1.length ((addC e.counts d1 n).1.flatMap zbz)),
  .early (fun v W2=>Own W2 W.heap.size 93 3 v (addC e.counts d1 n).1.length ((addC e.counts d1 n).1.flatMap zbz)),
  .late (fun v _=>v=I (addC e.counts d1 n).2),
  .early (fun v _=>v = .pointer (some ⟨E,0,none⟩)),
  .early (fun v _=>v = .pointer (some ⟨E,2,none⟩)),
  .store] 14 (fun w=>Ext W w) J1 (MvE E) rfl (by kernel_rfl) (by kernel_rfl) ?hR ?hJ ?hstep ?hend
 case hR =>
  simp only [List.mem_cons,List.not_mem_nil,or_false,forall_eq_or_imp,forall_eq,HF.fact]
  exact⟨fun v _ _ h _=>h,fun v _ _ h _=>h,fun v _ _ h _=>h,fun v _ _ h _=>h,fun v _ _ h _=>h,fun v _ _ h _=>h,fun v _ _ h _=>h,fun v _ _ h _=>h,fun v _ _ h he=>by obtain⟨u,e1,ho⟩:=h;exact⟨u,e1,ho.mvE he hEl⟩,fun v _ _ h he=>by obtain⟨u,e1,ho⟩:=h;exact⟨u,e1,ho.mvE he hEl⟩,fun v _ _ h he=>h.mvE he hEl,fun v _ _ h _=>h,fun v _ _ h _=>h,fun v _ _ h _=>h,fun v _ _ h _=>h⟩
 case hJ=>exact (Ext.refl W).drew
 case hstep =>
  simp only [List.length_cons,List.length_nil,Nat.reduceAdd,List.take_succ_cons,List.take_zero,zcz,and_true]
  refine ⟨?_,?_,?_,?_,?_,?_,?_,?_,?_,?_,?_,?_,?_,?_,?_⟩
  ·intro x W1 hj f
   have h:x 1 = .pointer (some ⟨pe,0,none⟩):=f.1
   have hc:=hj.cell hpe
   go_wp
   exact zag rfl ⟨hj,MvE.refl _ _⟩
  ·intro x W1 hj f
   have h:x 1 = .pointer (some ⟨pe,0,none⟩):=f.1
   have hc:=hj.cell hpe
   go_wp
   exact zag rfl ⟨hj,MvE.refl _ _⟩
  ·intro x W1 hj f
   have h:x 8 = .pointer (some ⟨E,0,none⟩):=f.1
   go_wp
   exact zag rfl ⟨hj,MvE.refl _ _⟩
  ·intro x W1 hj f
   have h:x 9 = .pointer (some ⟨E,0,none⟩):=f.1
   go_wp
   exact zag rfl ⟨hj,MvE.refl _ _⟩
  ·intro x W1 hj f
   have h:x 10 = .pointer (some ⟨E,2,none⟩):=f.1
   have hc:=(hE.ext hj).cell (j:=2) rfl
   go_wp
   exact zag rfl ⟨hj,MvE.refl _ _⟩
  ·intro x W1 hj f
   have h:x 2 = .pointer (some ⟨pd,0,none⟩):=f.1
   go_wp
   exact zag rfl ⟨hj,MvE.refl _ _⟩
  ·intro x W1 hj f
   have h:x 12 = .pointer (some ⟨pd,0,none⟩):=f.1
   have hc:=hj.cell hd
   go_wp
   exact zag rfl ⟨hj,MvE.refl _ _⟩
  ·intro x W1 hj f
   have h:x 0=I n:=f.1
   go_wp
   exact zag rfl ⟨hj,MvE.refl _ _⟩
  ·intro x W1 hj f
   have h1:x 11 = .slice A2 e.counts.length n2:=f.1
   have h2:x 13=St d1:=f.2.1
   have h3:x 14=I n:=f.2.2.1
   have hs:=hj.size
   have HC:=Lib.hid (zun d1 n hn1 hn2 (HA.out.counts.ext (by decide) hj) hl)
   go_wp
   refine HC.out.mono ?_
   rintro r W2 ⟨v4,rfl,ho,hx2⟩
   dsimp only
   go_wp
   exact zag (v:=.tuple #[v4,I (addC e.counts d1 n).2]) ⟨v4,rfl,ho.lower hs⟩ ⟨hj.trans hx2,hx2.mvE⟩
  ·intro x W1 hj f
   obtain⟨v4,h,ho⟩:∃ v4,x 15 = .tuple #[v4,I (addC e.counts d1 n).2]∧Own W1 W.heap.size 93 3 v4 (addC e.counts d1 n).1.length ((addC e.counts d1 n).1.flatMap zbz):=f.1
   go_wp
   exact zag ⟨v4,rfl,ho⟩ ⟨hj,MvE.refl _ _⟩
  ·intro x W1 hj f
   obtain⟨v4,h,ho⟩:∃ v4,x 6 = .tuple #[v4,I (addC e.counts d1 n).2]∧Own W1 W.heap.size 93 3 v4 (addC e.counts d1 n).1.length ((addC e.counts d1 n).1.flatMap zbz):=f.1
   go_wp
   exact zag ho ⟨hj,MvE.refl _ _⟩
  ·intro x W1 b hj f
   obtain⟨v4,h,ho⟩:∃ v4,x 6 = .tuple #[v4,I (addC e.counts d1 n).2]∧Own W1 W.heap.size 93 3 v4 (addC e.counts d1 n).1.length ((addC e.counts d1 n).1.flatMap zbz):=f.1
   go_wp
   exact zag rfl ⟨hj,MvE.refl _ _⟩
  ·intro x W1 hj f
   have h:x 7 = .pointer (some ⟨E,0,none⟩):=f.1
   go_wp
   exact zag rfl ⟨hj,MvE.refl _ _⟩
  ·intro x W1 hj f
   have h:x 18 = .pointer (some ⟨E,0,none⟩):=f.1
   go_wp
   exact zag rfl ⟨hj,MvE.refl _ _⟩
  ·intro x W1 hj f
   have h:x 19 = .pointer (some ⟨E,2,none⟩):=f.1
   have ho:Own W1 W.heap.size 93 3 (x 16) (addC e.counts d1 n).1.length ((addC e.counts d1 n).1.flatMap zbz):=f.2.1
   obtain⟨A,c,hA,-,-⟩:=ho.form
   have hEW:=hE.ext hj
   have hc:=hEW.cell (j:=2) rfl
   have hf:=hEW.frozen 2
   rw [hA] at ho
   have hp:J1 (W1.setCell ⟨E,2,none⟩ (.slice A (addC e.counts d1 n).1.length c)):=⟨_,ho.mvE (MvE.set _ _ _ _) hEl,hEW.set (j:=2) (by simp) _,(hr.ext hj).other hpr.symm _,(hj.kept E pr).set1 _⟩
   have hm:=MvE.set E 2 W1 (.slice A (addC e.counts d1 n).1.length c)
   generalize hW2:W1.setCell ⟨E,2,none⟩ (.slice A (addC e.counts d1 n).1.length c)=W2 at *
   clear hj ho hEW
   go_wp
   exact zag (v:=undef) trivial ⟨hp,hm⟩
 case hend =>
  intro x W1 hj f
  obtain⟨u,ho,hE1,hr1,hk⟩:=hj
  have h17:x 17=I (addC e.counts d1 n).2:=f.2.2.2.2.2.2.2.2.2.2.2.1
  simp only [List.length_cons,List.length_nil,Nat.reduceAdd,List.take_succ_cons,List.take_zero,List.filterMap_cons,List.filterMap_nil,List.drop_succ_cons,List.drop_zero,zau,Act.put,List.setIfInBounds_toArray,List.set_cons_succ,List.set_cons_zero,h17]
  have hrf:=hr1.frozen 0
  have hrc:=hr1.cell (j:=0) rfl
  clear f
  have HK:=Lib.hid (hk.set2 (j:=0) (I (addC e.counts d1 n).2))
  have HE:=Lib.hid (hE1.other (p:=⟨pr,0,none⟩) hpr (I (addC e.counts d1 n).2))
  have HO:=Lib.hid (ho.keep (w':=W1.setCell ⟨pr,0,none⟩ (I (addC e.counts d1 n).2)) fun b hb _=>Below.heap_setCell _ _ _ _ (fun e2=>by have:=(ho.base_le hb).1;have:=hr.lt;have e3:b=pr:=e2;omega))
  have hcs:=(hr1.set (j:=0) (by simp) (I (addC e.counts d1 n).2)).cell (j:=0) rfl
  obtain⟨w9,hw9⟩:∃ w9,W1.setCell ⟨pr,0,none⟩ (I (addC e.counts d1 n).2)=w9:=⟨_,rfl⟩
  rw [hw9] at HK HE HO hcs
  obtain⟨err,herr⟩:∃ err:Nat,(addC e.counts d1 n).2=err:=⟨_,rfl⟩
  rw [herr] at hw9 hcs ⊢
  clear hr1 ho hE1 hk
  go_wp
  go_wp2_with fail
  go_ret
  have hA9:=HA.out.kept HK.out HS.out
  exact⟨by rw [herr];rfl,u,_,HE.out,⟨hA9.seen.mono (by decide) fun b _ h=>.inl h,(OwnL.flat_iff (S:=fun b=>S b ∨ W.heap.size≤b).2 HO.out).sl (by decide) (fun _ _ h=>h) (fun b h _=>.inr h),hA9.items.mono (by decide) fun b _ h=>.inl h⟩,HK.out⟩
theorem zod {S:Nat→Prop} {W:World} {pe pr E:Nat} {e:Entry} {v1 v2 v3 z:Value} (line:Str) (gone:Bool)
  (hpe:W.cell? ⟨pe,0,none⟩=some (.pointer (some ⟨E,0,none⟩))) (hr:RowIs W pr 38 [z] []) (hE:RowIs W E 37 (entL e v1 v2 v3) []) (hA:EntAt W S e v1 v2 v3) (hS:∀ b,S b→b ≠ E∧b ≠ pr) (hpr:pr ≠ E) :
  Calls Tryz.prog 157 #[St line,.bool gone,.pointer (some ⟨pe,0,none⟩),.pointer (some ⟨pr,0,none⟩)] W fun r w'=>r = .returned (I (zar e.cell line gone).2)∧Did W w' E pr S { e with cell:=(zar e.cell line gone).1 } v1:=by
 obtain⟨A1,n1,rfl,-,-⟩:=hA.seen.form
 obtain⟨A2,n2,rfl,-,-⟩:=hA.counts.form
 obtain⟨A3,n3,rfl,-,-⟩:=hA.items.form
 have HA:=Lib.hid hA
 have HS:=Lib.hid hS
 clear hA hS
 have hEl:=hE.lt
 let J1:World→Prop:=fun w=>RowIs w E 37 (entL { e with cell:=(zar e.cell line gone).1 } (.slice A1 e.seen.length n1) (.slice A2 e.counts.length n2) (.slice A3 e.items.length n3)) []∧RowIs w pr 38 [z] []∧Kept2 W w E pr
 go_enter Tryz.func157,Tryz.ntmps157
 go_wp2_with fail
 refine ze1 [.early (fun v _=>v = .pointer (some ⟨E,0,none⟩)),
  .early (fun v _=>v = .pointer (some ⟨E,0,none⟩)),
  .early (fun v _=>v = .pointer (some ⟨E,0,none⟩)),
  .early (fun v _=>v = .pointer (some ⟨E,4,none⟩)),
  .early (fun v _=>v=zbs e.cell),
  .early (fun v _=>v=St line),
  .early (fun v _=>v = .bool gone),
  .early (fun v _=>v = .tuple #[zbs (zar e.cell line gone).1,I (zar e.cell line gone).2]),
  .early (fun v _=>v = .tuple #[zbs (zar e.cell line gone).1,I (zar e.cell line gone).2]),
  .early (fun v _=>v=zbs (zar e.cell line gone).1),
  .late (fun v _=>v=I (zar e.cell line gone).2),
  .early (fun v _=>v = .pointer (some ⟨E,0,none⟩)),
  .early (fun v _=>v = .pointer (some ⟨E,4,none⟩)),
  .store] 13 (fun w=>Ext W w) J1 (MvE E) rfl (by kernel_rfl) (by kernel_rfl) ?hR ?hJ ?hstep ?hend
 case hR =>
  simp only [List.mem_cons,List.not_mem_nil,or_false,forall_eq_or_imp,forall_eq,HF.fact]
  exact⟨fun v _ _ h _=>h,fun v _ _ h _=>h,fun v _ _ h _=>h,fun v _ _ h _=>h,fun v _ _ h _=>h,fun v _ _ h _=>h,fun v _ _ h _=>h,fun v _ _ h _=>h,fun v _ _ h _=>h,fun v _ _ h _=>h,fun v _ _ h _=>h,fun v _ _ h _=>h,fun v _ _ h _=>h,fun v _ _ h _=>h⟩
 case hJ=>exact (Ext.refl W).drew
 case hstep =>
  simp only [List.length_cons,List.length_nil,Nat.reduceAdd,List.take_succ_cons,List.take_zero,zcz,and_true]
  refine ⟨?_,?_,?_,?_,?_,?_,?_,?_,?_,?_,?_,?_,?_,?_⟩
  ·intro x W1 hj f
   have h:x 2 = .pointer (some ⟨pe,0,none⟩):=f.1
   have hc:=hj.cell hpe
   go_wp
   exact zag rfl ⟨hj,MvE.refl _ _⟩
  ·intro x W1 hj f
   have h:x 2 = .pointer (some ⟨pe,0,none⟩):=f.1
   have hc:=hj.cell hpe
   go_wp
   exact zag rfl ⟨hj,MvE.refl _ _⟩
  ·intro x W1 hj f
   have h:x 9 = .pointer (some ⟨E,0,none⟩):=f.1
   go_wp
   exact zag rfl ⟨hj,MvE.refl _ _⟩
  ·intro x W1 hj f
   have h:x 10 = .pointer (some ⟨E,0,none⟩):=f.1
   go_wp
   exact zag rfl ⟨hj,MvE.refl _ _⟩
  ·intro x W1 hj f
   have h:x 11 = .pointer (some ⟨E,4,none⟩):=f.1
   have hc4:=(hE.ext hj).cell (j:=4) rfl
   have hc5:=(hE.ext hj).cell (j:=5) rfl
   have hc6:=(hE.ext hj).cell (j:=6) rfl
   go_wp
   exact zag rfl ⟨hj,MvE.refl _ _⟩
  ·intro x W1 hj f
   have h:x 0=St line:=f.1
   go_wp
   exact zag rfl ⟨hj,MvE.refl _ _⟩
  ·intro x W1 hj f
   have h:x 1 = .bool gone:=f.1
   go_wp
   exact zag rfl ⟨hj,MvE.refl _ _⟩
  ·intro x W1 hj f
   have h1:x 12=zbs e.cell:=f.1
   have h2:x 13=St line:=f.2.1
   have h3:x 14 = .bool gone:=f.2.2.1
   have HC:=Lib.hid (zqr e.cell line gone W1)
   go_wp
   refine HC.out.mono ?_
   rintro r W2 ⟨rfl,hx2⟩
   dsimp only
   go_wp
   exact zag rfl ⟨hj.trans hx2,hx2.mvE⟩
  ·intro x W1 hj f
   have h:x 15 = .tuple #[zbs (zar e.cell line gone).1,I (zar e.cell line gone).2]:=f.1
   go_wp
   exact zag rfl ⟨hj,MvE.refl _ _⟩
  ·intro x W1 hj f
   have h:x 7 = .tuple #[zbs (zar e.cell line gone).1,I (zar e.cell line gone).2]:=f.1
   go_wp
   exact zag rfl ⟨hj,MvE.refl _ _⟩
  ·intro x W1 b hj f
   have h:x 7 = .tuple #[zbs (zar e.cell line gone).1,I (zar e.cell line gone).2]:=f.1
   go_wp
   exact zag rfl ⟨hj,MvE.refl _ _⟩
  ·intro x W1 hj f
   have h:x 8 = .pointer (some ⟨E,0,none⟩):=f.1
   go_wp
   exact zag rfl ⟨hj,MvE.refl _ _⟩
  ·intro x W1 hj f
   have h:x 18 = .pointer (some ⟨E,0,none⟩):=f.1
   go_wp
   exact zag rfl ⟨hj,MvE.refl _ _⟩
  ·intro x W1 hj f
   have h:x 19 = .pointer (some ⟨E,4,none⟩):=f.1
   have h2:x 16=zbs (zar e.cell line gone).1:=f.2.1
   have hEW:=hE.ext hj
   have hc4:=hEW.cell (j:=4) rfl
   have hc5:=hEW.cell (j:=5) rfl
   have hc6:=hEW.cell (j:=6) rfl
   have hf4:=hEW.frozen 4
   have hf5:=hEW.frozen 5
   have hf6:=hEW.frozen 6
   have hE4:=hEW.set (j:=4) (by simp) (U (zar e.cell line gone).1.1)
   have hE5:=hE4.set (j:=5) (by simp) (St (zar e.cell line gone).1.2.1)
   have hE6:=hE5.set (j:=6) (by simp) (.bool (zar e.cell line gone).1.2.2)
   have hp:J1 (((W1.setCell ⟨E,4,none⟩ (U (zar e.cell line gone).1.1)).setCell ⟨E,5,none⟩ (St (zar e.cell line gone).1.2.1)).setCell ⟨E,6,none⟩ (.bool (zar e.cell line gone).1.2.2)):=⟨hE6,(((hr.ext hj).other hpr.symm _).other hpr.symm _).other hpr.symm _,(((hj.kept E pr).set1 _).set1 _).set1 _⟩
   have hm:MvE E W1 (((W1.setCell ⟨E,4,none⟩ (U (zar e.cell line gone).1.1)).setCell ⟨E,5,none⟩ (St (zar e.cell line gone).1.2.1)).setCell ⟨E,6,none⟩ (.bool (zar e.cell line gone).1.2.2)):=⟨by simp only [World.size_setCell];exact Nat.le_refl _,fun b _ hb=>((Below.heap_setCell _ _ _ _ hb).trans (Below.heap_setCell _ _ _ _ hb)).trans (Below.heap_setCell _ _ _ _ hb)⟩
   clear hE4 hE5 hE6 hEW hj
   go_wp
   exact zag (v:=undef) trivial ⟨hp,hm⟩
 case hend =>
  intro x W1 hj f
  obtain⟨hE1,hr1,hk⟩:=hj
  have h17:x 17=I (zar e.cell line gone).2:=f.2.2.2.2.2.2.2.2.2.2.1
  simp only [List.length_cons,List.length_nil,Nat.reduceAdd,List.take_succ_cons,List.take_zero,List.filterMap_cons,List.filterMap_nil,List.drop_succ_cons,List.drop_zero,zau,Act.put,List.setIfInBounds_toArray,List.set_cons_succ,List.set_cons_zero,h17]
  have hrf:=hr1.frozen 0
  have hrc:=hr1.cell (j:=0) rfl
  clear f
  have HK:=Lib.hid (hk.set2 (j:=0) (I (zar e.cell line gone).2))
  have HE:=Lib.hid (hE1.other (p:=⟨pr,0,none⟩) hpr (I (zar e.cell line gone).2))
  have hcs:=(hr1.set (j:=0) (by simp) (I (zar e.cell line gone).2)).cell (j:=0) rfl
  obtain⟨w9,hw9⟩:∃ w9,W1.setCell ⟨pr,0,none⟩ (I (zar e.cell line gone).2)=w9:=⟨_,rfl⟩
  rw [hw9] at HK HE hcs
  obtain⟨err,herr⟩:∃ err:Nat,(zar e.cell line gone).2=err:=⟨_,rfl⟩
  rw [herr] at hw9 hcs ⊢
  clear hr1 hE1 hk
  go_wp
  go_wp2_with fail
  go_ret
  have hA9:=HA.out.kept HK.out HS.out
  exact⟨by rw [herr];rfl,_,_,HE.out,⟨hA9.seen.mono (by decide) fun b _ h=>.inl h,hA9.counts.mono (by decide) fun b _ h=>.inl h,hA9.items.mono (by decide) fun b _ h=>.inl h⟩,HK.out⟩
theorem zuy {S:Nat→Prop} {W:World} {pe pr E:Nat} {e:Entry} {v1 v2 v3 z:Value} {po pd:Nat} {tx:Str} {d1:Dot} (ho3:W.cell? ⟨po,3,none⟩=some (St tx)) (hd:W.cell? ⟨pd,0,none⟩=some (St d1.1)) (hd1:W.cell? ⟨pd,1,none⟩=some (U d1.2)) (hl:(zal e.items).length < 1099511627776)
  (hpe:W.cell? ⟨pe,0,none⟩=some (.pointer (some ⟨E,0,none⟩))) (hr:RowIs W pr 38 [z] []) (hE:RowIs W E 37 (entL e v1 v2 v3) []) (hA:EntAt W S e v1 v2 v3) (hS:∀ b,S b→b ≠ E∧b ≠ pr) (hpr:pr ≠ E) :
  Calls Tryz.prog 161 #[.pointer (some ⟨pe,0,none⟩),.pointer (some ⟨po,0,none⟩),.pointer (some ⟨pd,0,none⟩),.pointer (some ⟨pr,0,none⟩)] W fun r w'=>r = .returned (I (putB e.items tx d1).2)∧Did W w' E pr S { e with items:=(putB e.items tx d1).1 } v1:=by
 obtain⟨A1,n1,rfl,-,-⟩:=hA.seen.form
 obtain⟨A2,n2,rfl,-,-⟩:=hA.counts.form
 obtain⟨A3,n3,rfl,-,-⟩:=hA.items.form
 have HA:=Lib.hid hA
 have HS:=Lib.hid hS
 clear hA hS
 have hEl:=hE.lt
 let J1:World→Prop:=fun w=>∃ u,OwnL itemT 96 w W.heap.size (fun b=>W.heap.size≤b) u (putB e.items tx d1).1∧RowIs w E 37 (entL e (.slice A1 e.seen.length n1) (.slice A2 e.counts.length n2) u) []∧RowIs w pr 38 [z] []∧Kept2 W w E pr
 go_enter Tryz.func161,Tryz.ntmps161
 go_wp2_with fail
 refine ze1 [.early (fun v _=>v = .pointer (some ⟨E,0,none⟩)),
  .early (fun v _=>v = .pointer (some ⟨E,0,none⟩)),
  .early (fun v _=>v = .pointer (some ⟨E,0,none⟩)),
  .early (fun v _=>v = .pointer (some ⟨E,3,none⟩)),
  .early (fun v _=>v = .slice A3 e.items.length n3),
  .early (fun v _=>v = .pointer (some ⟨po,3,none⟩)),
  .early (fun v _=>v=St tx),
  .early (fun v _=>v=dotV d1),
  .early (fun v W2=>∃ v4,v = .tuple #[v4,I (putB e.items tx d1).2]∧OwnL itemT 96 W2 W.heap.size (fun b=>W.heap.size≤b) v4 (putB e.items tx d1).1),
  .early (fun v W2=>∃ v4,v = .tuple #[v4,I (putB e.items tx d1).2]∧OwnL itemT 96 W2 W.heap.size (fun b=>W.heap.size≤b) v4 (putB e.items tx d1).1),
  .early (fun v W2=>OwnL itemT 96 W2 W.heap.size (fun b=>W.heap.size≤b) v (putB e.items tx d1).1),
  .late (fun v _=>v=I (putB e.items tx d1).2),
  .early (fun v _=>v = .pointer (some ⟨E,0,none⟩)),
  .early (fun v _=>v = .pointer (some ⟨E,3,none⟩)),
  .store] 14 (fun w=>Ext W w) J1 (MvE E) rfl (by kernel_rfl) (by kernel_rfl) ?hR ?hJ ?hstep ?hend
 case hR =>
  simp only [List.mem_cons,List.not_mem_nil,or_false,forall_eq_or_imp,forall_eq,HF.fact]
  exact⟨fun v _ _ h _=>h,fun v _ _ h _=>h,fun v _ _ h _=>h,fun v _ _ h _=>h,fun v _ _ h _=>h,fun v _ _ h _=>h,fun v _ _ h _=>h,fun v _ _ h _=>h,fun v _ _ h he=>by obtain⟨u,e1,ho⟩:=h;exact⟨u,e1,ho.mvE he hEl⟩,fun v _ _ h he=>by obtain⟨u,e1,ho⟩:=h;exact⟨u,e1,ho.mvE he hEl⟩,fun v _ _ h he=>h.mvE he hEl,fun v _ _ h _=>h,fun v _ _ h _=>h,fun v _ _ h _=>h,fun v _ _ h _=>h⟩
 case hJ=>exact (Ext.refl W).drew
 case hstep =>
  simp only [List.length_cons,List.length_nil,Nat.reduceAdd,List.take_succ_cons,List.take_zero,zcz,and_true]
  refine ⟨?_,?_,?_,?_,?_,?_,?_,?_,?_,?_,?_,?_,?_,?_,?_⟩
  ·intro x W1 hj f
   have h:x 0 = .pointer (some ⟨pe,0,none⟩):=f.1
   have hc:=hj.cell hpe
   go_wp
   exact zag rfl ⟨hj,MvE.refl _ _⟩
  ·intro x W1 hj f
   have h:x 0 = .pointer (some ⟨pe,0,none⟩):=f.1
   have hc:=hj.cell hpe
   go_wp
   exact zag rfl ⟨hj,MvE.refl _ _⟩
  ·intro x W1 hj f
   have h:x 7 = .pointer (some ⟨E,0,none⟩):=f.1
   go_wp
   exact zag rfl ⟨hj,MvE.refl _ _⟩
  ·intro x W1 hj f
   have h:x 8 = .pointer (some ⟨E,0,none⟩):=f.1
   go_wp
   exact zag rfl ⟨hj,MvE.refl _ _⟩
  ·intro x W1 hj f
   have h:x 9 = .pointer (some ⟨E,3,none⟩):=f.1
   have hc:=(hE.ext hj).cell (j:=3) rfl
   go_wp
   exact zag rfl ⟨hj,MvE.refl _ _⟩
  ·intro x W1 hj f
   have h:x 1 = .pointer (some ⟨po,0,none⟩):=f.1
   go_wp
   exact zag rfl ⟨hj,MvE.refl _ _⟩
  ·intro x W1 hj f
   have h:x 11 = .pointer (some ⟨po,3,none⟩):=f.1
   have hc:=hj.cell ho3
   go_wp
   exact zag rfl ⟨hj,MvE.refl _ _⟩
  ·intro x W1 hj f
   have h:x 2 = .pointer (some ⟨pd,0,none⟩):=f.1
   have hc:=hj.cell hd
   have hc1:=hj.cell hd1
   go_wp
   exact zag rfl ⟨hj,MvE.refl _ _⟩
  ·intro x W1 hj f
   have h1:x 10 = .slice A3 e.items.length n3:=f.1
   have h2:x 12=St tx:=f.2.1
   have h3:x 13=dotV d1:=f.2.2.1
   have hs:=hj.size
   have HC:=Lib.hid (zuj tx d1 (HA.out.items.ext (by decide) hj) hl)
   go_wp
   refine HC.out.mono ?_
   rintro r W2 ⟨v4,rfl,ho,hx2⟩
   dsimp only
   go_wp
   exact zag (v:=.tuple #[v4,I (putB e.items tx d1).2]) ⟨v4,rfl,(ho.lower hs).mono fun b _ h=>Nat.le_trans hs h⟩ ⟨hj.trans hx2,hx2.mvE⟩
  ·intro x W1 hj f
   obtain⟨v4,h,ho⟩:∃ v4,x 14 = .tuple #[v4,I (putB e.items tx d1).2]∧OwnL itemT 96 W1 W.heap.size (fun b=>W.heap.size≤b) v4 (putB e.items tx d1).1:=f.1
   go_wp
   exact zag ⟨v4,rfl,ho⟩ ⟨hj,MvE.refl _ _⟩
  ·intro x W1 hj f
   obtain⟨v4,h,ho⟩:∃ v4,x 5 = .tuple #[v4,I (putB e.items tx d1).2]∧OwnL itemT 96 W1 W.heap.size (fun b=>W.heap.size≤b) v4 (putB e.items tx d1).1:=f.1
   go_wp
   exact zag ho ⟨hj,MvE.refl _ _⟩
  ·intro x W1 b hj f
   obtain⟨v4,h,ho⟩:∃ v4,x 5 = .tuple #[v4,I (putB e.items tx d1).2]∧OwnL itemT 96 W1 W.heap.size (fun b=>W.heap.size≤b) v4 (putB e.items tx d1).1:=f.1
   go_wp
   exact zag rfl ⟨hj,MvE.refl _ _⟩
  ·intro x W1 hj f
   have h:x 6 = .pointer (some ⟨E,0,none⟩):=f.1
   go_wp
   exact zag rfl ⟨hj,MvE.refl _ _⟩
  ·intro x W1 hj f
   have h:x 17 = .pointer (some ⟨E,0,none⟩):=f.1
   go_wp
   exact zag rfl ⟨hj,MvE.refl _ _⟩
  ·intro x W1 hj f
   have h:x 18 = .pointer (some ⟨E,3,none⟩):=f.1
   have ho:OwnL itemT 96 W1 W.heap.size (fun b=>W.heap.size≤b) (x 15) (putB e.items tx d1).1:=f.2.1
   obtain⟨A,c,hA,-,-⟩:=ho.form
   have hEW:=hE.ext hj
   have hc:=hEW.cell (j:=3) rfl
   have hf:=hEW.frozen 3
   rw [hA] at ho
   have hp:J1 (W1.setCell ⟨E,3,none⟩ (.slice A (putB e.items tx d1).1.length c)):=⟨_,ho.mvE (MvE.set _ _ _ _) hEl,hEW.set (j:=3) (by simp) _,(hr.ext hj).other hpr.symm _,(hj.kept E pr).set1 _⟩
   have hm:=MvE.set E 3 W1 (.slice A (putB e.items tx d1).1.length c)
   generalize hW2:W1.setCell ⟨E,3,none⟩ (.slice A (putB e.items tx d1).1.length c)=W2 at *
   clear hj ho hEW
   go_wp
   exact zag (v:=undef) trivial ⟨hp,hm⟩
 case hend =>
  intro x W1 hj f
  obtain⟨u,ho,hE1,hr1,hk⟩:=hj
  have h17:x 16=I (putB e.items tx d1).2:=f.2.2.2.2.2.2.2.2.2.2.2.1
  simp only [List.length_cons,List.length_nil,Nat.reduceAdd,List.take_succ_cons,List.take_zero,List.filterMap_cons,List.filterMap_nil,List.drop_succ_cons,List.drop_zero,zau,Act.put,List.setIfInBounds_toArray,List.set_cons_succ,List.set_cons_zero,h17]
  have hrf:=hr1.frozen 0
  have hrc:=hr1.cell (j:=0) rfl
  clear f
  have HK:=Lib.hid (hk.set2 (j:=0) (I (putB e.items tx d1).2))
  have HE:=Lib.hid (hE1.other (p:=⟨pr,0,none⟩) hpr (I (putB e.items tx d1).2))
  have HO:=Lib.hid ((ho.mono (S':=fun b=>W.heap.size≤b∧b ≠ pr) (fun b _ h=>⟨h,by have:=hr.lt;omega⟩)).keep (w':=W1.setCell ⟨pr,0,none⟩ (I (putB e.items tx d1).2)) (fun b hb _=>Below.heap_setCell _ _ _ _ (fun e2=>hb.2 e2)) fun b hb _=>Below.heap_setCell _ _ _ _ (fun e2=>by have:=(ho.base_le hb).1;have:=hr.lt;have e3:b=pr:=e2;omega))
  clear ho
  have hcs:=(hr1.set (j:=0) (by simp) (I (putB e.items tx d1).2)).cell (j:=0) rfl
  obtain⟨w9,hw9⟩:∃ w9,W1.setCell ⟨pr,0,none⟩ (I (putB e.items tx d1).2)=w9:=⟨_,rfl⟩
  rw [hw9] at HK HE HO hcs
  obtain⟨err,herr⟩:∃ err:Nat,(putB e.items tx d1).2=err:=⟨_,rfl⟩
  rw [herr] at hw9 hcs ⊢
  clear hr1 hE1 hk
  go_wp
  go_wp2_with fail
  go_ret
  have hA9:=HA.out.kept HK.out HS.out
  exact⟨by rw [herr];rfl,_,u,HE.out,⟨hA9.seen.mono (by decide) fun b _ h=>.inl h,hA9.counts.mono (by decide) fun b _ h=>.inl h,HO.out.sl (by decide) (fun _ _ h=>.inr h.1) (fun b h _=>.inr h)⟩,HK.out⟩
end
section
open Go.RowKit Go.Shelf
theorem Did.mono {W W1 w':World} {E pr:Nat} {S:Nat→Prop} {e':Entry} {v1:Value} (h:Did W1 w' E pr S e' v1) (he:Ext W W1):Did W w' E pr S e' v1:=by
 obtain⟨u2,u3,h1,h2,h3⟩:=h
 exact⟨u2,u3,h1,h2.mono (fun b _ hb=>hb.elim .inl fun h=>.inr (Nat.le_trans he.size h)),⟨h3.os.trans he.os,h3.tape.trans he.tape,h3.output.trans he.output,Nat.le_trans he.size h3.size,fun j hj a b=>(h3.other j (Nat.lt_of_lt_of_le hj he.size) a b).trans (he.block j hj)⟩⟩
theorem zuz {S:Nat→Prop} {W:World} {pa po pe pd pr E:Nat} {e:Entry} {v1 v2 v3 z:Value} {d1:Str} (n:Int) (hn1:-9223372036854775808≤n) (hn2:n≤9223372036854775807)
  (hpa:W.cell? ⟨pa,0,none⟩=some (.func (.func 155) #[] #[.pointer (some ⟨pe,0,none⟩),.pointer (some ⟨pd,0,none⟩),.pointer (some ⟨pr,0,none⟩)])) (hpo:W.cell? ⟨po,2,none⟩=some (I n))
  (hd:W.cell? ⟨pd,0,none⟩=some (St d1)) (hl:e.counts.length < 1099511627776)
  (hpe:W.cell? ⟨pe,0,none⟩=some (.pointer (some ⟨E,0,none⟩))) (hr:RowIs W pr 38 [z] []) (hE:RowIs W E 37 (entL e v1 v2 v3) []) (hA:EntAt W S e v1 v2 v3) (hS:∀ b,S b→b ≠ E∧b ≠ pr) (hpr:pr ≠ E) :
  Calls Tryz.prog 159 #[.pointer (some ⟨pa,0,none⟩),.pointer (some ⟨po,0,none⟩)] W fun r w'=>r = .returned (I (addC e.counts d1 n).2)∧Did W w' E pr S { e with counts:=(addC e.counts d1 n).1 } v1:=by
 have eg:∀ args w,(callFunc 155 args).run Tryz.prog w = .ok (.enter 155 args) w:=enters_of Tryz.func155 (by kernel_rfl) rfl
 have HC:=Lib.hid (zoc n hn1 hn2 hd hl hpe hr hE hA hS hpr)
 clear hd hl hpe hr hE hA hS hpr hn1 hn2
 go_enter Tryz.func159,Tryz.ntmps159
 go_wp2_with fail
 refine HC.out.mono ?_
 rintro r W1 ⟨rfl,hD⟩
 go_wp2_with fail
 go_ret
 exact⟨rfl,hD⟩
theorem eqI {a b:Int} (h:a=b):(a == b)=true:=by simpa using h
theorem neI {a b:Int} (h:a ≠ b):(a == b)=false:=by simpa using h
def delC (l:List zak) (s:Str):List zak × Nat:=if zcu l = -9223372036854775808 then (l,9) else addC l s (-zcu l)
theorem zu0 {S:Nat→Prop} {W:World} {pa pe pd pr E:Nat} {e:Entry} {v1 v2 v3 z:Value} {d1:Str}
  (hpa:W.cell? ⟨pa,0,none⟩=some (.func (.func 155) #[] #[.pointer (some ⟨pe,0,none⟩),.pointer (some ⟨pd,0,none⟩),.pointer (some ⟨pr,0,none⟩)]))
  (hd:W.cell? ⟨pd,0,none⟩=some (St d1)) (hl:e.counts.length < 1099511627776)
  (hpe:W.cell? ⟨pe,0,none⟩=some (.pointer (some ⟨E,0,none⟩))) (hr:RowIs W pr 38 [z] []) (hE:RowIs W E 37 (entL e v1 v2 v3) []) (hA:EntAt W S e v1 v2 v3) (hS:∀ b,S b→b ≠ E∧b ≠ pr) (hpr:pr ≠ E) :
  Calls Tryz.prog 160 #[.pointer (some ⟨pe,0,none⟩),.pointer (some ⟨pa,0,none⟩)] W fun r w'=>r = .returned (I (delC e.counts d1).2)∧Did W w' E pr S { e with counts:=(delC e.counts d1).1 } v1:=by
 have eg:∀ args w,(callFunc 155 args).run Tryz.prog w = .ok (.enter 155 args) w:=enters_of Tryz.func155 (by kernel_rfl) rfl
 have hV:=zmy (sumL (zbe e.counts) (zbt e.counts))
 have HC:=Lib.hid (zg7 hA.counts)
 have k2:=hE.cell (j:=2) rfl
 obtain⟨A2,n2,rfl,-,-⟩:=hA.counts.form
 have HD:=Lib.hid (show delC e.counts d1=if zcu e.counts = -9223372036854775808 then (e.counts,9) else addC e.counts d1 (-zcu e.counts) from rfl)
 have HADD:=Lib.hid (fun (W1:World) (n:Int) (a:-9223372036854775808≤n) (b:n≤9223372036854775807) (hx:Ext W W1)=>zoc n a b (hx.cell hd) hl (hx.cell hpe) (hr.ext hx) (hE.ext hx) (hA.ext hx) hS hpr)
 have HE:=Lib.hid hE
 have HA:=Lib.hid hA
 change -9223372036854775808≤zcu e.counts∧zcu e.counts≤9223372036854775807 at hV
 clear hd hl hr hE hA hS hpr
 go_enter Tryz.func160,Tryz.ntmps160
 go_wp2_with fail
 refine HC.out.mono ?_
 rintro r W1 ⟨rfl,hx1⟩
 obtain⟨v,hv⟩:∃ v,zcu e.counts=v:=⟨_,rfl⟩
 rw [hv] at hV HD
 rw [hv]
 have hpa1:=hx1.cell hpa
 by_cases h:v = -9223372036854775808
 ·have HD2:=Lib.hid (show delC e.counts d1=(e.counts,9) by rw [HD.out,if_pos h])
  have hk:=eqI h
  clear h
  go_wp2_with fail
  go_ret
  exact⟨by rw [HD2.out];rfl,by rw [HD2.out];exact⟨_,_,HE.out.ext hx1,(HA.out.ext hx1).mono fun b _ h=>.inl h,hx1.kept _ _⟩⟩
 ·have HD2:=Lib.hid (show delC e.counts d1=addC e.counts d1 (-v) by rw [HD.out,if_neg h])
  have hk:=neI h
  have hw:IntKind.i64.wrap (-v) = -v:=by rw [IntKind.wrap_i64];omega
  have HC2:=Lib.hid (HADD.out W1 (-v) (by omega) (by omega) hx1)
  have HX1:=Lib.hid hx1
  clear h HADD hx1
  go_wp2_with fail
  refine HC2.out.mono ?_
  rintro r W2 ⟨rfl,hD⟩
  go_wp2_with fail
  go_ret
  exact⟨by rw [HD2.out];rfl,by rw [HD2.out];exact hD.mono HX1.out⟩
theorem zu1 {S:Nat→Prop} {W:World} {pe pr E:Nat} {e:Entry} {v1 v2 v3:Value}
  (hpe:W.cell? ⟨pe,0,none⟩=some (.pointer (some ⟨E,0,none⟩))) (hE:RowIs W E 37 (entL e v1 v2 v3) []) (hA:EntAt W S e v1 v2 v3) (hS:∀ b,S b→b ≠ E∧b ≠ pr) :
  Calls Tryz.prog 165 #[.pointer (some ⟨pe,0,none⟩)] W fun r w'=>r = .returned (I 0)∧Did W w' E pr S { e with items:=[] } v1:=by
 obtain⟨A3,n3,rfl,-,-⟩:=hA.items.form
 have hc:=hE.cell (j:=3) rfl
 have hf:=hE.frozen 3
 have HK:=Lib.hid ((Kept2.refl W E pr).set1 (j:=3) (.slice none 0 0))
 have HE:=Lib.hid (hE.set (j:=3) (by simp) (.slice none 0 0))
 have HA:=Lib.hid (hA.kept HK.out hS)
 clear hE hA hS
 go_enter Tryz.func165,Tryz.ntmps165
 go_wp2_with fail
 go_ret
 exact⟨rfl,_,_,HE.out,⟨HA.out.seen.mono (by decide) fun b _ h=>.inl h,HA.out.counts.mono (by decide) fun b _ h=>.inl h,Sl.nil _ _ (by decide)⟩,HK.out⟩
theorem zu2 {S:Nat→Prop} {W:World} {pa po pe pr E:Nat} {e:Entry} {v1 v2 v3 z:Value} {tx:Str}
  (hpa:W.cell? ⟨pa,0,none⟩=some (.func (.func 157) #[] #[.pointer (some ⟨pe,0,none⟩),.pointer (some ⟨pr,0,none⟩)])) (hpo:W.cell? ⟨po,3,none⟩=some (St tx))
  (hpe:W.cell? ⟨pe,0,none⟩=some (.pointer (some ⟨E,0,none⟩))) (hr:RowIs W pr 38 [z] []) (hE:RowIs W E 37 (entL e v1 v2 v3) []) (hA:EntAt W S e v1 v2 v3) (hS:∀ b,S b→b ≠ E∧b ≠ pr) (hpr:pr ≠ E) :
  Calls Tryz.prog 166 #[.pointer (some ⟨pa,0,none⟩),.pointer (some ⟨po,0,none⟩)] W fun r w'=>r = .returned (I (zar e.cell tx false).2)∧Did W w' E pr S { e with cell:=(zar e.cell tx false).1 } v1:=by
 have eg:∀ args w,(callFunc 157 args).run Tryz.prog w = .ok (.enter 157 args) w:=enters_of Tryz.func157 (by kernel_rfl) rfl
 have HC:=Lib.hid (zod tx false hpe hr hE hA hS hpr)
 clear hpe hr hE hA hS hpr
 go_enter Tryz.func166,Tryz.ntmps166
 go_wp2_with fail
 refine HC.out.mono ?_
 rintro r W1 ⟨rfl,hD⟩
 go_wp2_with fail
 go_ret
 exact⟨rfl,hD⟩
theorem zu3 {S:Nat→Prop} {W:World} {pa pe pr E:Nat} {e:Entry} {v1 v2 v3 z:Value}
  (hpa:W.cell? ⟨pa,0,none⟩=some (.func (.func 157) #[] #[.pointer (some ⟨pe,0,none⟩),.pointer (some ⟨pr,0,none⟩)]))
  (hpe:W.cell? ⟨pe,0,none⟩=some (.pointer (some ⟨E,0,none⟩))) (hr:RowIs W pr 38 [z] []) (hE:RowIs W E 37 (entL e v1 v2 v3) []) (hA:EntAt W S e v1 v2 v3) (hS:∀ b,S b→b ≠ E∧b ≠ pr) (hpr:pr ≠ E) :
  Calls Tryz.prog 167 #[.pointer (some ⟨pa,0,none⟩)] W fun r w'=>r = .returned (I (zar e.cell [] true).2)∧Did W w' E pr S { e with cell:=(zar e.cell [] true).1 } v1:=by
 have eg:∀ args w,(callFunc 157 args).run Tryz.prog w = .ok (.enter 157 args) w:=enters_of Tryz.func157 (by kernel_rfl) rfl
 have HC:=Lib.hid (zod [] true hpe hr hE hA hS hpr)
 clear hpe hr hE hA hS hpr
 go_enter Tryz.func167,Tryz.ntmps167
 go_wp2_with fail
 refine HC.out.mono ?_
 rintro r W1 ⟨rfl,hD⟩
 go_wp2_with fail
 go_ret
 exact⟨rfl,hD⟩
theorem zu4 {S:Nat→Prop} {W:World} {po pe pr E:Nat} {e:Entry} {v1 v2 v3:Value} {tx:Str} (ho3:W.cell? ⟨po,3,none⟩=some (St tx)) (hl:(zal e.items).length≤1099511627776)
  (hpe:W.cell? ⟨pe,0,none⟩=some (.pointer (some ⟨E,0,none⟩))) (hE:RowIs W E 37 (entL e v1 v2 v3) []) (hA:EntAt W S e v1 v2 v3) (hS:∀ b,S b→b ≠ E∧b ≠ pr) :
  Calls Tryz.prog 163 #[.pointer (some ⟨pe,0,none⟩),.pointer (some ⟨po,0,none⟩)] W fun r w'=>r = .returned (I 0)∧Did W w' E pr S { e with items:=zd5 e.items tx } v1:=by
 obtain⟨A1,n1,rfl,-,-⟩:=hA.seen.form
 obtain⟨A2,n2,rfl,-,-⟩:=hA.counts.form
 obtain⟨A3,n3,rfl,-,-⟩:=hA.items.form
 have HA:=Lib.hid hA
 have HS:=Lib.hid hS
 have hEl:=hE.lt
 clear hA hS
 go_enter Tryz.func163,Tryz.ntmps163
 go_wp2_with fail
 refine zaz [fun v _=>v = .pointer (some ⟨E,0,none⟩),fun v _=>v = .pointer (some ⟨E,0,none⟩),fun v _=>v = .pointer (some ⟨E,0,none⟩),fun v _=>v = .pointer (some ⟨E,3,none⟩),fun v _=>v = .slice A3 e.items.length n3,fun v _=>v = .pointer (some ⟨po,3,none⟩),fun v _=>v=St tx,
  fun v W2=>OwnL itemT 96 W2 W.heap.size (fun b=>W.heap.size≤b) v (zd5 e.items tx),fun v _=>v = .pointer (some ⟨E,0,none⟩),fun v _=>v = .pointer (some ⟨E,3,none⟩)] rfl (by kernel_rfl) ?hR ?hstep ?hend
 case hR =>
  simp only [List.mem_cons,List.not_mem_nil,or_false,forall_eq_or_imp,forall_eq]
  exact⟨fun v _ _ h _=>h,fun v _ _ h _=>h,fun v _ _ h _=>h,fun v _ _ h _=>h,fun v _ _ h _=>h,fun v _ _ h _=>h,fun v _ _ h _=>h,fun v _ _ h he=>h.ext he,fun v _ _ h _=>h,fun v _ _ h _=>h⟩
 case hstep =>
  simp only [List.length_cons,List.length_nil,Nat.reduceAdd,List.take_succ_cons,List.take_zero,zbn,and_true]
  refine ⟨?_,?_,?_,?_,?_,?_,?_,?_,?_,?_⟩
  ·intro x W1 he f
   have h:x 0 = .pointer (some ⟨pe,0,none⟩):=f.1
   have hc:=he.cell hpe
   go_wp
   exact zaa rfl (Ext.refl _)
  ·intro x W1 he f
   have h:x 0 = .pointer (some ⟨pe,0,none⟩):=f.1
   have hc:=he.cell hpe
   go_wp
   exact zaa rfl (Ext.refl _)
  ·intro x W1 he f
   have h:x 4 = .pointer (some ⟨E,0,none⟩):=f.1
   go_wp
   exact zaa rfl (Ext.refl _)
  ·intro x W1 he f
   have h:x 5 = .pointer (some ⟨E,0,none⟩):=f.1
   go_wp
   exact zaa rfl (Ext.refl _)
  ·intro x W1 he f
   have h:x 6 = .pointer (some ⟨E,3,none⟩):=f.1
   have hc:=(hE.ext he).cell (j:=3) rfl
   go_wp
   exact zaa rfl (Ext.refl _)
  ·intro x W1 he f
   have h:x 1 = .pointer (some ⟨po,0,none⟩):=f.1
   go_wp
   exact zaa rfl (Ext.refl _)
  ·intro x W1 he f
   have h:x 8 = .pointer (some ⟨po,3,none⟩):=f.1
   have hc:=he.cell ho3
   go_wp
   exact zaa rfl (Ext.refl _)
  ·intro x W1 he f
   have h1:x 7 = .slice A3 e.items.length n3:=f.1
   have h2:x 9=St tx:=f.2.1
   have hs:=he.size
   have HC:=Lib.hid (zui tx (HA.out.items.ext (by decide) he) hl)
   go_wp
   refine HC.out.mono ?_
   rintro r W2 ⟨v4,rfl,ho,hx2⟩
   dsimp only
   go_wp
   exact zaa (v:=v4) ((ho.lower hs).mono fun b _ h=>Nat.le_trans hs h) hx2
  ·intro x W1 he f
   have h:x 3 = .pointer (some ⟨E,0,none⟩):=f.1
   go_wp
   exact zaa rfl (Ext.refl _)
  ·intro x W1 he f
   have h:x 11 = .pointer (some ⟨E,0,none⟩):=f.1
   go_wp
   exact zaa rfl (Ext.refl _)
 case hend =>
  intro x W1 he f
  have h12:x 12 = .pointer (some ⟨E,3,none⟩):=f.2.2.2.2.2.2.2.2.2.1
  have ho:OwnL itemT 96 W1 W.heap.size (fun b=>W.heap.size≤b) (x 10) (zd5 e.items tx):=f.2.2.2.2.2.2.2.1
  obtain⟨A,c,hA,-,-⟩:=ho.form
  simp only [List.length_cons,List.length_nil,Nat.reduceAdd,List.take_succ_cons,List.take_zero,List.filterMap_cons,List.filterMap_nil,List.drop_succ_cons,List.drop_zero,zau,Act.put,List.setIfInBounds_toArray,List.set_cons_succ,List.set_cons_zero,h12,hA]
  rw [hA] at ho
  have hEW:=hE.ext he
  have hc:=hEW.cell (j:=3) rfl
  have hf:=hEW.frozen 3
  have HE:=Lib.hid (hEW.set (j:=3) (by simp) (.slice A (zd5 e.items tx).length c))
  have HK:=Lib.hid ((he.kept E pr).set1 (j:=3) (.slice A (zd5 e.items tx).length c))
  have HO:=Lib.hid (ho.mvE (MvE.set E 3 W1 (.slice A (zd5 e.items tx).length c)) hEl)
  clear f ho hEW
  go_wp
  go_wp2_with fail
  go_ret
  have hA9:=HA.out.kept HK.out HS.out
  exact⟨rfl,_,_,HE.out,⟨hA9.seen.mono (by decide) fun b _ h=>.inl h,hA9.counts.mono (by decide) fun b _ h=>.inl h,HO.out.sl (by decide) (fun b _ h=>.inr h) (fun b h _=>.inr h)⟩,HK.out⟩
end
section
open Go.RowKit Go.Shelf
theorem zm1 {P:Program} (w:World) (T:TypeId) (u v:Value) (h:v.oneCell'=true) (a:Nat) (ha:a=w.heap.size):(store ⟨a,0,none⟩ v).run P (w.alloc (.cells #[u] T)) = .ok () (w.alloc (.cells #[v] T)):=by
 subst ha
 have hc:(w.alloc (.cells #[u] T)).cell? ⟨w.heap.size,0,none⟩=some u:=(zgt w u T).1
 have hf:=(zgt w u T).2
 rw [run_store P _ _ v _ h,hc]
 simp only [hf,World.setCell_alloc_new]
 rfl
def clo (f:Nat) (l:List Nat):Value:=.func (.func f) #[] (l.map fun b=>Value.pointer (some ⟨b,0,none⟩)).toArray
abbrev M8 (o:Option Nat):Value:=.map o
abbrev V8 (v:Value):Value:=v
structure UpdAt (w:World) (B E:Nat) (n:Int) (tx:Str) (d:Dot) (m:Nat):Prop where
 pe:w.cell? ⟨B,0,none⟩=some (.pointer (some ⟨E,0,none⟩))
 po2:w.cell? ⟨B+1,2,none⟩=some (I n)
 po3:w.cell? ⟨B+1,3,none⟩=some (St tx)
 d0:w.cell? ⟨B+2,0,none⟩=some (St d.1)
 d1:w.cell? ⟨B+2,1,none⟩=some (U d.2)
 err:RowIs w (B+3) 38 [I 0] []
 c1:w.cell? ⟨B+4,0,none⟩=some (clo 155 [B,B+2,B+3])
 c2:w.cell? ⟨B+5,0,none⟩=some (clo 157 [B,B+3])
 maps:∃ m1 m2 m3,MapIs K8 M8 w m [(1,some m1),(2,some m2),(3,some m3)] ∧
  MapIs K8 V8 w m1 [(1,clo 159 [B+4,B+1]),(5,clo 160 [B,B+4])] ∧
  MapIs K8 V8 w m2 [(2,clo 161 [B,B+1,B+2,B+3]),(3,clo 163 [B,B+1]),(5,clo 165 [B])] ∧
  MapIs K8 V8 w m3 [(4,clo 166 [B+5,B+1]),(5,clo 167 [B+5])]
theorem zkd {W:World} {E:Nat} (k:Str) (dO:Nat) (n:Int) (tx:Str) (d:Dot) :
  Calls Tryz.prog 94 #[.pointer (some ⟨E,0,none⟩),.agg #[K8 dO,St k,I n,St tx],dotV d] W fun r w'=>∃ m,r = .returned (.map (some m))∧UpdAt w' W.heap.size E n tx d m∧W.heap.size+6≤w'.heap.size∧Ext W w':=by
 have hmm:=@run_makeMap Tryz.prog
 obtain⟨B,hB⟩:∃ B,B=W.heap.size:=⟨_,rfl⟩
 have hs1:=zm1 (P:=Tryz.prog) ((((W.alloc (.cells #[.pointer (some ⟨E,0,none⟩)] 143)).alloc (.cells #[K8 dO,St k,I n,St tx] 42)).alloc (.cells #[St d.1,U d.2] 97)).alloc (.cells #[I 0] 38)) 203 .nilFunc (.func (.func 155) #[] #[.pointer (some ⟨W.heap.size,0,none⟩),.pointer (some ⟨W.heap.size+1+1,0,none⟩),.pointer (some ⟨W.heap.size+1+1+1,0,none⟩)]) rfl (W.heap.size+1+1+1+1) (by simp)
 have hs2:=zm1 (P:=Tryz.prog) (((((W.alloc (.cells #[.pointer (some ⟨E,0,none⟩)] 143)).alloc (.cells #[K8 dO,St k,I n,St tx] 42)).alloc (.cells #[St d.1,U d.2] 97)).alloc (.cells #[I 0] 38)).alloc (.cells #[(.func (.func 155) #[] #[.pointer (some ⟨W.heap.size,0,none⟩),.pointer (some ⟨W.heap.size+1+1,0,none⟩),.pointer (some ⟨W.heap.size+1+1+1,0,none⟩)])] 203)) 206 .nilFunc (.func (.func 157) #[] #[.pointer (some ⟨W.heap.size,0,none⟩),.pointer (some ⟨W.heap.size+1+1+1,0,none⟩)]) rfl (W.heap.size+1+1+1+1+1) (by simp)
 obtain⟨W5,hW5⟩:∃ W5,W5=(((((W.alloc (.cells #[.pointer (some ⟨E,0,none⟩)] 143)).alloc (.cells #[K8 dO,St k,I n,St tx] 42)).alloc (.cells #[St d.1,U d.2] 97)).alloc (.cells #[I 0] 38)).alloc (.cells #[(.func (.func 155) #[] #[.pointer (some ⟨W.heap.size,0,none⟩),.pointer (some ⟨W.heap.size+1+1,0,none⟩),.pointer (some ⟨W.heap.size+1+1+1,0,none⟩)])] 203)).alloc (.cells #[.func (.func 157) #[] #[.pointer (some ⟨W.heap.size,0,none⟩),.pointer (some ⟨W.heap.size+1+1+1,0,none⟩)]] 206):=⟨_,rfl⟩
 have hz5:W5.heap.size=W.heap.size+1+1+1+1+1+1:=by rw [hW5];simp
 have hx5:Ext W W5:=by rw [hW5];exact ((((((Ext.refl W).alloc _).alloc _).alloc _).alloc _).alloc _).alloc _
 have HU:Hid (∀ w,Ext W5 w→∀ m,(∃ m1 m2 m3,MapIs K8 M8 w m [(1,some m1),(2,some m2),(3,some m3)] ∧
   MapIs K8 V8 w m1 [(1,clo 159 [B+4,B+1]),(5,clo 160 [B,B+4])] ∧
   MapIs K8 V8 w m2 [(2,clo 161 [B,B+1,B+2,B+3]),(3,clo 163 [B,B+1]),(5,clo 165 [B])] ∧
   MapIs K8 V8 w m3 [(4,clo 166 [B+5,B+1]),(5,clo 167 [B+5])])→UpdAt w W.heap.size E n tx d m):=Lib.hid fun w hx m hmaps=>by
  subst hB
  refine ⟨hx.cell ?_,hx.cell ?_,hx.cell ?_,hx.cell ?_,hx.cell ?_,RowIs.ext ?_ hx,hx.cell ?_,hx.cell ?_,hmaps⟩
  ·rw [hW5];simp [go_sem]
  ·rw [hW5];simp [go_sem]
  ·rw [hW5];simp [go_sem]
  ·rw [hW5];simp [go_sem]
  ·rw [hW5];simp [go_sem]
  ·rw [hW5]
   have h:=zab (((W.alloc (.cells #[.pointer (some ⟨E,0,none⟩)] 143)).alloc (.cells #[K8 dO,St k,I n,St tx] 42)).alloc (.cells #[St d.1,U d.2] 97)) 38 [I 0]
   simp only [World.size_alloc] at h
   exact (h.alloc _).alloc _
  ·rw [hW5];simp [go_sem,clo]
  ·rw [hW5];simp [go_sem,clo]
 obtain⟨z,hz⟩:∃ z,z=W5.heap.size:=⟨_,rfl⟩
 obtain⟨Y1,hY1⟩:∃ Y1,Y1=(W5.alloc (.map #[] 0)).alloc (.map #[] 0):=⟨_,rfl⟩
 have hM:MapIs K8 M8 Y1 z []:=by rw [hY1,hz];exact (MapIs.new W5).ext ((Ext.refl _).alloc _)
 have hM1:MapIs K8 V8 Y1 (z+1) []:=by have:=MapIs.new (K:=K8) (V:=V8) (W5.alloc (.map #[] 0));rw [World.size_alloc] at this;rw [hY1,hz];exact this
 have hx1:Ext W5 Y1:=by rw [hY1];exact ((Ext.refl _).alloc _).alloc _
 have hzY:Y1.heap.size=z+1+1:=by rw [hY1,hz];simp
 obtain⟨Xa,ua,ma,ta⟩:=zaq (P:=Tryz.prog) (t:=158) Tryz.underlying158 keyOk8 hM1 1 (clo 159 [B+4,B+1])
 obtain⟨Xb,ub,mb,tb⟩:=zaq (P:=Tryz.prog) (t:=158) Tryz.underlying158 keyOk8 ma 5 (clo 160 [B,B+4])
 obtain⟨Xc,uc,mc,tc⟩:=zaq (P:=Tryz.prog) (t:=159) Tryz.underlying159 keyOk8 ((hM.turned ta (by omega)).turned tb (by omega)) 1 (some (z+1))
 have hx2:=((hx1.turned ta (by omega)).turned tb (by omega)).turned tc (by omega)
 have mb2:=mb.turned tc (by omega)
 have hzc:Xc.heap.size=z+1+1:=by rw [tc.size,tb.size,ta.size,hzY]
 have hM2:=MapIs.new (K:=K8) (V:=V8) Xc
 have hy2:=(Ext.refl Xc).alloc (.map #[] 0)
 obtain⟨Xd,ud,md,td⟩:=zaq (P:=Tryz.prog) (t:=158) Tryz.underlying158 keyOk8 hM2 2 (clo 161 [B,B+1,B+2,B+3])
 obtain⟨Xe,ue,me,te⟩:=zaq (P:=Tryz.prog) (t:=158) Tryz.underlying158 keyOk8 md 3 (clo 163 [B,B+1])
 obtain⟨Xf,uf,mf,tf⟩:=zaq (P:=Tryz.prog) (t:=158) Tryz.underlying158 keyOk8 me 5 (clo 165 [B])
 obtain⟨Xg,ug,mg,tg⟩:=zaq (P:=Tryz.prog) (t:=159) Tryz.underlying159 keyOk8 ((((mc.ext hy2).turned td (by omega)).turned te (by omega)).turned tf (by omega)) 2 (some Xc.heap.size)
 have hx3:=((((hx2.trans hy2).turned td (by omega)).turned te (by omega)).turned tf (by omega)).turned tg (by omega)
 have mb3:=((((mb2.ext hy2).turned td (by omega)).turned te (by omega)).turned tf (by omega)).turned tg (by omega)
 have mf2:=mf.turned tg (by omega)
 have hzg:Xg.heap.size=z+1+1+1:=by rw [tg.size,tf.size,te.size,td.size,World.size_alloc,hzc]
 have hM3:=MapIs.new (K:=K8) (V:=V8) Xg
 have hy3:=(Ext.refl Xg).alloc (.map #[] 0)
 obtain⟨Xh,uh,mh,th⟩:=zaq (P:=Tryz.prog) (t:=158) Tryz.underlying158 keyOk8 hM3 4 (clo 166 [B+5,B+1])
 obtain⟨Xi,ui,mi,ti⟩:=zaq (P:=Tryz.prog) (t:=158) Tryz.underlying158 keyOk8 mh 5 (clo 167 [B+5])
 obtain⟨Xj,uj,mj,tj⟩:=zaq (P:=Tryz.prog) (t:=159) Tryz.underlying159 keyOk8 (((mg.ext hy3).turned th (by omega)).turned ti (by omega)) 3 (some Xg.heap.size)
 have hx4:=(((hx3.trans hy3).turned th (by omega)).turned ti (by omega)).turned tj (by omega)
 have mb4:=(((mb3.ext hy3).turned th (by omega)).turned ti (by omega)).turned tj (by omega)
 have mf3:=(((mf2.ext hy3).turned th (by omega)).turned ti (by omega)).turned tj (by omega)
 have mi2:=mi.turned tj (by omega)
 have HR:=Lib.hid (HU.out Xj hx4 z ⟨z+1,Xc.heap.size,Xg.heap.size,mj,mb4,mf3,mi2⟩)
 have HX:=Lib.hid (hx5.trans hx4)
 have HZ:=Lib.hid (show W.heap.size+6≤Xj.heap.size by have:=hx4.size;omega)
 subst hB
 have ua':(Instr.mapUpdate 158 (.map (some (z+1))) (.int .u8 1) (.func (.func 159) #[] #[.pointer (some ⟨W.heap.size+1+1+1+1,0,none⟩),.pointer (some ⟨W.heap.size+1,0,none⟩)])).run Tryz.prog Y1 = .ok () Xa:=ua
 have ub':(Instr.mapUpdate 158 (.map (some (z+1))) (.int .u8 5) (.func (.func 160) #[] #[.pointer (some ⟨W.heap.size,0,none⟩),.pointer (some ⟨W.heap.size+1+1+1+1,0,none⟩)])).run Tryz.prog Xa = .ok () Xb:=ub
 have uc':(Instr.mapUpdate 159 (.map (some z)) (.int .u8 1) (.map (some (z+1)))).run Tryz.prog Xb = .ok () Xc:=uc
 have ud':(Instr.mapUpdate 158 (.map (some Xc.heap.size)) (.int .u8 2) (.func (.func 161) #[] #[.pointer (some ⟨W.heap.size,0,none⟩),.pointer (some ⟨W.heap.size+1,0,none⟩),.pointer (some ⟨W.heap.size+1+1,0,none⟩),.pointer (some ⟨W.heap.size+1+1+1,0,none⟩)])).run Tryz.prog (Xc.alloc (.map #[] 0)) = .ok () Xd:=ud
 have ue':(Instr.mapUpdate 158 (.map (some Xc.heap.size)) (.int .u8 3) (.func (.func 163) #[] #[.pointer (some ⟨W.heap.size,0,none⟩),.pointer (some ⟨W.heap.size+1,0,none⟩)])).run Tryz.prog Xd = .ok () Xe:=ue
 have uf':(Instr.mapUpdate 158 (.map (some Xc.heap.size)) (.int .u8 5) (.func (.func 165) #[] #[.pointer (some ⟨W.heap.size,0,none⟩)])).run Tryz.prog Xe = .ok () Xf:=uf
 have ug':(Instr.mapUpdate 159 (.map (some z)) (.int .u8 2) (.map (some Xc.heap.size))).run Tryz.prog Xf = .ok () Xg:=ug
 have uh':(Instr.mapUpdate 158 (.map (some Xg.heap.size)) (.int .u8 4) (.func (.func 166) #[] #[.pointer (some ⟨W.heap.size+1+1+1+1+1,0,none⟩),.pointer (some ⟨W.heap.size+1,0,none⟩)])).run Tryz.prog (Xg.alloc (.map #[] 0)) = .ok () Xh:=uh
 have ui':(Instr.mapUpdate 158 (.map (some Xg.heap.size)) (.int .u8 5) (.func (.func 167) #[] #[.pointer (some ⟨W.heap.size+1+1+1+1+1,0,none⟩)])).run Tryz.prog Xh = .ok () Xi:=ui
 have uj':(Instr.mapUpdate 159 (.map (some z)) (.int .u8 3) (.map (some Xg.heap.size))).run Tryz.prog Xi = .ok () Xj:=uj
 clear ua ub uc ud ue uf ug uh ui uj ma mb mc md me mf mg mh mi mj mb2 mb3 mb4 mf2 mf3 mi2 ta tb tc td te tf tg th ti tj hx1 hx2 hx3 hx4 hy2 hy3 hM hM1 hM2 hM3 hzc hzg hzY hx5 HU
 rw [hz,hz5] at *
 rw [hY1,hW5] at ua'
 clear hY1 hW5
 go_enter Tryz.func94,Tryz.ntmps94
 go_wp2_with fail
 go_ret
 exact⟨_,rfl,HR.out,HZ.out,HX.out⟩
end
section
open Go.RowKit Go.Shelf
abbrev OpD:=Nat × Str × Int × Str
abbrev opV (o:OpD):Value:=.agg #[K8 o.1,St o.2.1,I o.2.2.1,St o.2.2.2]
def za5 (B kk dO:Nat):Option Value :=
 if kk=1 then (if dO=1 then some (clo 159 [B+4,B+1]) else if dO=5 then some (clo 160 [B,B+4]) else none)
 else if kk=2 then (if dO=2 then some (clo 161 [B,B+1,B+2,B+3]) else if dO=3 then some (clo 163 [B,B+1]) else if dO=5 then some (clo 165 [B]) else none)
 else if kk=3 then (if dO=4 then some (clo 166 [B+5,B+1]) else if dO=5 then some (clo 167 [B+5]) else none)
 else none
def doE (kk:Nat) (e:Entry) (o:OpD) (d:Dot):Option (Entry × Nat) :=
 if kk=1 then (if o.1=1 then some ({ e with counts:=(addC e.counts d.1 o.2.2.1).1 },(addC e.counts d.1 o.2.2.1).2) else if o.1=5 then some ({ e with counts:=(delC e.counts d.1).1 },(delC e.counts d.1).2) else none)
 else if kk=2 then (if o.1=2 then some ({ e with items:=(putB e.items o.2.2.2 d).1 },(putB e.items o.2.2.2 d).2) else if o.1=3 then some ({ e with items:=zd5 e.items o.2.2.2 },0) else if o.1=5 then some ({ e with items:=[] },0) else none)
 else if kk=3 then (if o.1=4 then some ({ e with cell:=(zar e.cell o.2.2.2 false).1 },(zar e.cell o.2.2.2 false).2) else if o.1=5 then some ({ e with cell:=(zar e.cell [] true).1 },(zar e.cell [] true).2) else none)
 else none
theorem UpdAt.ext {w w':World} {B E:Nat} {n:Int} {tx:Str} {d:Dot} {m:Nat} (h:UpdAt w B E n tx d m) (he:Ext w w'):UpdAt w' B E n tx d m:=by
 obtain⟨h1,h2,h3,h4,h5,h6,h7,h8,m1,m2,m3,h9,h10,h11,h12⟩:=h
 exact⟨he.cell h1,he.cell h2,he.cell h3,he.cell h4,he.cell h5,h6.ext he,he.cell h7,he.cell h8,m1,m2,m3,h9.ext he,h10.ext he,h11.ext he,h12.ext he⟩
theorem zw0 (w:World):(zeroValue 158).run Tryz.prog w = .ok (M8 none) w:=Tryz.zeroValue158 w
theorem zs7 (w:World):(zeroValue 156).run Tryz.prog w = .ok (V8 .nilFunc) w:=Tryz.zeroValue156 w
theorem zu5 (k:Nat) (w:World):(Instr.lookup 158 (.map none) (K8 k) true).run Tryz.prog w = .ok (.tuple #[.nilFunc,.bool false]) w:=by
 have hz:=zs7 w
 have hc:=keyOk8.check true k w
 have hf:=MapIs.find (V:=V8) keyOk8 (es:=#[]) (L:=[]) rfl k w
 simp at hf
 simp [Instr.lookup,run_underlying Tryz.underlying158,hz,hc,hf]
def InnerIs (W:World) (B kk:Nat) (v:Value):Prop:=∀ W3,Ext W W3→∀ dO,(Instr.lookup 158 v (K8 dO) true).run Tryz.prog W3 = .ok (.tuple #[(za5 B kk dO).getD .nilFunc,.bool (za5 B kk dO).isSome]) W3
theorem InnerIs.ext {W W':World} {B kk:Nat} {v:Value} (h:InnerIs W B kk v) (he:Ext W W'):InnerIs W' B kk v:=fun W3 h3=>h W3 (he.trans h3)
theorem zkw {W:World} {B kk b:Nat} {L:List (Nat × Value)} (h:MapIs K8 V8 W b L) (hc:∀ dO,za5 B kk dO=zcg L dO):InnerIs W B kk (.map (some b)):=fun W3 h3 dO=>by
 have:=(za7 (P:=Tryz.prog) (z:=Value.nilFunc) Tryz.underlying158 keyOk8 zs7 (h.ext h3) dO).2
 rw [ze8,show getL Value.nilFunc L dO=(zcg L dO).getD .nilFunc from rfl,← hc] at this
 exact this
theorem zoe {w:World} {B E:Nat} {n:Int} {tx:Str} {d:Dot} {m:Nat} (h:UpdAt w B E n tx d m) (kk:Nat) :
  ∃ u,(∀ W3,Ext w W3→(Instr.lookup 159 (.map (some m)) (K8 kk) false).run Tryz.prog W3 = .ok u W3)∧InnerIs w B kk u:=by
 obtain⟨m1,m2,m3,h9,h10,h11,h12⟩:=h.maps
 refine ⟨M8 (getL none [(1,some m1),(2,some m2),(3,some m3)] kk),fun W3 h3=>(za7 (P:=Tryz.prog) (z:=none) Tryz.underlying159 keyOk8 zw0 (h9.ext h3) kk).1,?_⟩
 rw [show getL none [(1,some m1),(2,some m2),(3,some m3)] kk=(zcg [(1,some m1),(2,some m2),(3,some m3)] kk).getD none from rfl]
 simp only [zdt]
 by_cases k1:kk=1
 ·subst k1
  simp only [if_true,Option.getD_some]
  exact zkw h10 fun dO=>by simp only [zdt,za5,if_true];rfl
 ·by_cases k2:kk=2
  ·subst k2
   simp only [if_true,if_neg k1,Option.getD_some]
   exact zkw h11 fun dO=>by simp only [zdt,za5,if_true,if_neg k1];rfl
  ·by_cases k3:kk=3
   ·subst k3
    simp only [if_true,if_neg k1,if_neg k2,Option.getD_some]
    exact zkw h12 fun dO=>by simp only [zdt,za5,if_true,if_neg k1,if_neg k2];rfl
   ·simp only [if_neg k1,if_neg k2,if_neg k3]
    intro W3 h3 dO
    rw [show za5 B kk dO=none by simp only [za5,if_neg k1,if_neg k2,if_neg k3]]
    exact zu5 dO W3
theorem zs8 {S:Nat→Prop} {W:World} {B E m:Nat} {kk:Nat} {o:OpD} {d:Dot} {e:Entry} {v1 v2 v3:Value} (hU:UpdAt W B E o.2.2.1 o.2.2.2 d m) (hn1:-9223372036854775808≤o.2.2.1) (hn2:o.2.2.1≤9223372036854775807)
  (hl1:e.counts.length < 1099511627776) (hl2:(zal e.items).length < 1099511627776) (hE:RowIs W E 37 (entL e v1 v2 v3) []) (hA:EntAt W S e v1 v2 v3) (hS:∀ b,S b→b ≠ E∧b ≠ B+3) (hpr:B+3 ≠ E) :
  match za5 B kk o.1,doE kk e o d with
  | none,none=>True
  | some c,some (e',err)=>∃ f args,c = .func (.func f) #[] args∧(∀ xs w,(callFunc f xs).run Tryz.prog w = .ok (.enter f xs) w)∧Calls Tryz.prog f args W fun r w'=>r = .returned (I err)∧Did W w' E (B+3) S e' v1
  | _,_=>False:=by
 obtain⟨pe,po2,po3,d0,d1,err,c1,c2,-⟩:=hU
 unfold za5 doE
 by_cases k1:kk=1
 ·simp only [k1,if_true]
  by_cases q1:o.1=1
  ·simp only [q1,if_true]
   exact⟨_,_,rfl,enters_of Tryz.func159 (by kernel_rfl) rfl,zuz o.2.2.1 hn1 hn2 c1 po2 d0 hl1 pe err hE hA hS hpr⟩
  ·simp only [if_neg q1]
   by_cases q5:o.1=5
   ·simp only [q5,if_true]
    exact⟨_,_,rfl,enters_of Tryz.func160 (by kernel_rfl) rfl,zu0 c1 d0 hl1 pe err hE hA hS hpr⟩
   ·simp only [if_neg q5]
 ·by_cases k2:kk=2
  ·simp only [k2,if_true,if_neg (by decide:¬ (2:Nat)=1)]
   by_cases q2:o.1=2
   ·simp only [q2,if_true]
    exact⟨_,_,rfl,enters_of Tryz.func161 (by kernel_rfl) rfl,zuy po3 d0 d1 hl2 pe err hE hA hS hpr⟩
   ·simp only [if_neg q2]
    by_cases q3:o.1=3
    ·simp only [q3,if_true]
     exact⟨_,_,rfl,enters_of Tryz.func163 (by kernel_rfl) rfl,zu4 po3 (by omega) pe hE hA hS⟩
    ·simp only [if_neg q3]
     by_cases q5:o.1=5
     ·simp only [q5,if_true]
      exact⟨_,_,rfl,enters_of Tryz.func165 (by kernel_rfl) rfl,zu1 pe hE hA hS⟩
     ·simp only [if_neg q5]
  ·by_cases k3:kk=3
   ·simp only [k3,if_true,if_neg (by decide:¬ (3:Nat)=1),if_neg (by decide:¬ (3:Nat)=2)]
    by_cases q4:o.1=4
    ·simp only [q4,if_true]
     exact⟨_,_,rfl,enters_of Tryz.func166 (by kernel_rfl) rfl,zu2 c2 po3 pe err hE hA hS hpr⟩
    ·simp only [if_neg q4]
     by_cases q5:o.1=5
     ·simp only [q5,if_true]
      exact⟨_,_,rfl,enters_of Tryz.func167 (by kernel_rfl) rfl,zu3 c2 pe err hE hA hS hpr⟩
     ·simp only [if_neg q5]
   ·simp only [if_neg k1,if_neg k2,if_neg k3]
end
section
open Go.RowKit Go.Shelf
def zch (e:Entry) (o:OpD) (d:Dot):Entry × Nat :=
 match doE (zaj o.2.1) e o d with
 | none=>(zad,150)
 | some p=>if p.2=0 then ({ p.1 with seen:=setM p.1.seen d.1 d.2 },0) else (zad,p.2)
def updE (e:Entry) (o:OpD) (d:Dot):Entry × Nat :=
 if keyS o.2.1=false then (zad,10) else if e.key ≠ o.2.1∧zav e zad=false then (zad,2) else if d.1 = [] ∨ d.2 < 1 ∨ 281474976710656 < d.2 ∨ hasM e.seen d=true then (zad,2) else zch { e with key:=o.2.1 } o d
theorem zdi (w:World) (q:Nat) (e:Entry) (v1 v2 v3:Value) (b:Nat) (hb:b ≠ q):(put7 w q e v1 v2 v3).heap[b]? = w.heap[b]? :=
 ((((((Below.heap_setCell _ _ _ b hb).trans (Below.heap_setCell _ _ _ b hb)).trans (Below.heap_setCell _ _ _ b hb)).trans (Below.heap_setCell _ _ _ b hb)).trans (Below.heap_setCell _ _ _ b hb)).trans (Below.heap_setCell _ _ _ b hb)).trans (Below.heap_setCell _ _ _ b hb)
theorem zlj (B kk:Nat) (e:Entry) (o:OpD) (d:Dot):(za5 B kk o.1).isSome=(doE kk e o d).isSome:=by
 unfold za5 doE
 repeat' split
 all_goals first | rfl | (exfalso;omega)
theorem EntAt.keep {W w:World} {S:Nat→Prop} {e:Entry} {v1 v2 v3:Value} (h:EntAt W S e v1 v2 v3) (hs:∀ b,S b→b < W.heap.size→w.heap[b]? = W.heap[b]?):EntAt w S e v1 v2 v3 :=
 ⟨h.seen.keep (by decide) hs,h.counts.keep (by decide) hs,h.items.keep (by decide) hs⟩
theorem zs9 {e':Entry} {c:Nat} {e:Entry} {p:Entry × Nat} (h1:e'.seen=e.seen) (h2:e'.key=e.key) (h:some (e',c)=some p):p.1.seen=e.seen∧p.1.key=e.key:=by
 have:=Option.some.inj h
 rw [← this]
 exact⟨h1,h2⟩
theorem zhe {kk:Nat} {e:Entry} {o:OpD} {d:Dot} {p:Entry × Nat} (h:doE kk e o d=some p):p.1.seen=e.seen∧p.1.key=e.key:=by
 unfold doE at h
 repeat' split at h
 all_goals first | (refine zs9 (e:=e) ?_ ?_ h <;> rfl) | cases h
theorem zq2 {S:Nat→Prop} {ek:Str} {es:List Mark} {ec:List zak} {ei:List Item} {x1:Nat} {x2:Str} {x3:Bool} {A1 A2 A3:Option Addr} {n1 n2 n3:Nat} {w:World} (dO:Nat) (k:Str) (n:Int) (tx:Str) (d1:Str) (dn:Nat) (h:EntAt w S ⟨ek,es,ec,ei,(x1,x2,x3)⟩ (.slice A1 es.length n1) (.slice A2 ec.length n2) (.slice A3 ei.length n3)) (hk:keyS k=false) :
  Calls Tryz.prog 42 #[.agg #[St ek,.slice A1 es.length n1,.slice A2 ec.length n2,.slice A3 ei.length n3,U x1,St x2,.bool x3],.agg #[K8 dO,St k,I n,St tx],.agg #[St d1,U dn]] w fun r w'=>r = .returned (.tuple #[entV zad (.slice none 0 0) (.slice none 0 0) (.slice none 0 0),I 10])∧Ext w w':=by
 obtain⟨W0,hW0⟩:∃ W0,W0=(((w.alloc (.cells #[St ek,.slice A1 es.length n1,.slice A2 ec.length n2,.slice A3 ei.length n3,U x1,St x2,.bool x3] 37)).alloc (.cells #[K8 dO,St k,I n,St tx] 42)).alloc (.cells #[St d1,U dn] 97)).alloc (.cells #[St [],.slice none 0 0,.slice none 0 0,.slice none 0 0,.int .u64 0,St [],.bool false] 37):=⟨_,rfl⟩
 have hx0:Ext w W0:=by rw [hW0];exact ((((Ext.refl w).alloc _).alloc _).alloc _).alloc _
 have hz0:W0.heap.size=w.heap.size+1+1+1+1:=by rw [hW0];simp
 have rE0:RowIs W0 w.heap.size 37 [St ek,.slice A1 es.length n1,.slice A2 ec.length n2,.slice A3 ei.length n3,U x1,St x2,.bool x3] []:=by rw [hW0];exact (((zab w _ _).alloc _).alloc _).alloc _
 have rO0:RowIs W0 (w.heap.size+1) 42 [K8 dO,St k,I n,St tx] []:=by rw [hW0];have h:=zab (w.alloc (.cells #[St ek,.slice A1 es.length n1,.slice A2 ec.length n2,.slice A3 ei.length n3,U x1,St x2,.bool x3] 37)) 42 [K8 dO,St k,I n,St tx];simp only [World.size_alloc] at h;exact (h.alloc _).alloc _
 have rD0:RowIs W0 (w.heap.size+1+1) 97 [St d1,U dn] []:=by rw [hW0];have h:=zab ((w.alloc (.cells #[St ek,.slice A1 es.length n1,.slice A2 ec.length n2,.slice A3 ei.length n3,U x1,St x2,.bool x3] 37)).alloc (.cells #[K8 dO,St k,I n,St tx] 42)) 97 [St d1,U dn];simp only [World.size_alloc] at h;exact h.alloc _
 have rR0:RowIs W0 (w.heap.size+1+1+1) 37 [St [],.slice none 0 0,.slice none 0 0,.slice none 0 0,.int .u64 0,St [],.bool false] []:=by rw [hW0];have h:=zab (((w.alloc (.cells #[St ek,.slice A1 es.length n1,.slice A2 ec.length n2,.slice A3 ei.length n3,U x1,St x2,.bool x3] 37)).alloc (.cells #[K8 dO,St k,I n,St tx] 42)).alloc (.cells #[St d1,U dn] 97)) 37 [St [],.slice none 0 0,.slice none 0 0,.slice none 0 0,.int .u64 0,St [],.bool false];simp only [World.size_alloc] at h;exact h
 have H1:=Lib.hid (zdb k W0)
 have HE:=Lib.hid h
 rw [hW0] at H1
 clear h
 go_enter Tryz.func42,Tryz.ntmps42
 go_wp2_with fail
 refine H1.out.mono ?_
 rintro r V ⟨rfl,hx1⟩
 obtain⟨hx1,hzz,rE,rO,rD,rR⟩:Ext w V∧w.heap.size+4≤V.heap.size∧RowIs V w.heap.size 37 [St ek,.slice A1 es.length n1,.slice A2 ec.length n2,.slice A3 ei.length n3,U x1,St x2,.bool x3] []∧RowIs V (w.heap.size+1) 42 [K8 dO,St k,I n,St tx] []∧RowIs V (w.heap.size+1+1) 97 [St d1,U dn] []∧RowIs V (w.heap.size+1+1+1) 37 [St [],.slice none 0 0,.slice none 0 0,.slice none 0 0,.int .u64 0,St [],.bool false] []:=by
  have H0:Ext W0 V:=by rw [hW0];exact hx1
  exact⟨hx0.trans H0,by have:=H0.size;omega,rE0.ext H0,rO0.ext H0,rD0.ext H0,rR0.ext H0⟩
 clear hx0 hz0 rE0 rO0 rD0 rR0 H1 hW0
 rw [hk]
 have r0:=rR.cell (j:=0) rfl
 have r1:=rR.cell (j:=1) rfl
 have r2:=rR.cell (j:=2) rfl
 have r3:=rR.cell (j:=3) rfl
 have r4:=rR.cell (j:=4) rfl
 have r5:=rR.cell (j:=5) rfl
 have r6:=rR.cell (j:=6) rfl
 have f0:=rR.frozen 0
 have f1:=rR.frozen 1
 have f2:=rR.frozen 2
 have f3:=rR.frozen 3
 have f4:=rR.frozen 4
 have f5:=rR.frozen 5
 have f6:=rR.frozen 6
 have HX:=Lib.hid hx1
 clear hx1 rR
 go_wp2_with fail
 (try simp only [Exit.inBlock,Exit.then])
 refine bodyPost_ret (v:=.tuple #[entV zad (.slice none 0 0) (.slice none 0 0) (.slice none 0 0),I 10]) (by simp [results,Tryz.f42,go_sem,entV,entC,zad,r0,r1,r2,r3,r4,r5,r6]) rfl ?_
 have hp:=za8 (q:=w.heap.size+1+1+1) HX.out (by omega) zad (.slice none 0 0) (.slice none 0 0) (.slice none 0 0)
 exact⟨rfl,hp⟩
theorem zta {S:Nat→Prop} {ek:Str} {es:List Mark} {ec:List zak} {ei:List Item} {x1:Nat} {x2:Str} {x3:Bool} {A1 A2 A3:Option Addr} {n1 n2 n3:Nat} {w:World} (dO:Nat) (k:Str) (n:Int) (tx:Str) (d1:Str) (dn:Nat) (h:EntAt w S ⟨ek,es,ec,ei,(x1,x2,x3)⟩ (.slice A1 es.length n1) (.slice A2 ec.length n2) (.slice A3 ei.length n3)) (hk:keyS k=true) (hne:(ek == k)=false) (hs:zav ⟨ek,es,ec,ei,(x1,x2,x3)⟩ zad=false) :
  Calls Tryz.prog 42 #[.agg #[St ek,.slice A1 es.length n1,.slice A2 ec.length n2,.slice A3 ei.length n3,U x1,St x2,.bool x3],.agg #[K8 dO,St k,I n,St tx],.agg #[St d1,U dn]] w fun r w'=>r = .returned (.tuple #[entV zad (.slice none 0 0) (.slice none 0 0) (.slice none 0 0),I 2])∧Ext w w':=by
 obtain⟨W0,hW0⟩:∃ W0,W0=(((w.alloc (.cells #[St ek,.slice A1 es.length n1,.slice A2 ec.length n2,.slice A3 ei.length n3,U x1,St x2,.bool x3] 37)).alloc (.cells #[K8 dO,St k,I n,St tx] 42)).alloc (.cells #[St d1,U dn] 97)).alloc (.cells #[St [],.slice none 0 0,.slice none 0 0,.slice none 0 0,.int .u64 0,St [],.bool false] 37):=⟨_,rfl⟩
 have hx0:Ext w W0:=by rw [hW0];exact ((((Ext.refl w).alloc _).alloc _).alloc _).alloc _
 have hz0:W0.heap.size=w.heap.size+1+1+1+1:=by rw [hW0];simp
 have rE0:RowIs W0 w.heap.size 37 [St ek,.slice A1 es.length n1,.slice A2 ec.length n2,.slice A3 ei.length n3,U x1,St x2,.bool x3] []:=by rw [hW0];exact (((zab w _ _).alloc _).alloc _).alloc _
 have rO0:RowIs W0 (w.heap.size+1) 42 [K8 dO,St k,I n,St tx] []:=by rw [hW0];have h:=zab (w.alloc (.cells #[St ek,.slice A1 es.length n1,.slice A2 ec.length n2,.slice A3 ei.length n3,U x1,St x2,.bool x3] 37)) 42 [K8 dO,St k,I n,St tx];simp only [World.size_alloc] at h;exact (h.alloc _).alloc _
 have rD0:RowIs W0 (w.heap.size+1+1) 97 [St d1,U dn] []:=by rw [hW0];have h:=zab ((w.alloc (.cells #[St ek,.slice A1 es.length n1,.slice A2 ec.length n2,.slice A3 ei.length n3,U x1,St x2,.bool x3] 37)).alloc (.cells #[K8 dO,St k,I n,St tx] 42)) 97 [St d1,U dn];simp only [World.size_alloc] at h;exact h.alloc _
 have rR0:RowIs W0 (w.heap.size+1+1+1) 37 [St [],.slice none 0 0,.slice none 0 0,.slice none 0 0,.int .u64 0,St [],.bool false] []:=by rw [hW0];have h:=zab (((w.alloc (.cells #[St ek,.slice A1 es.length n1,.slice A2 ec.length n2,.slice A3 ei.length n3,U x1,St x2,.bool x3] 37)).alloc (.cells #[K8 dO,St k,I n,St tx] 42)).alloc (.cells #[St d1,U dn] 97)) 37 [St [],.slice none 0 0,.slice none 0 0,.slice none 0 0,.int .u64 0,St [],.bool false];simp only [World.size_alloc] at h;exact h
 have H1:=Lib.hid (zdb k W0)
 have HE:=Lib.hid h
 rw [hW0] at H1
 clear h
 go_enter Tryz.func42,Tryz.ntmps42
 go_wp2_with fail
 refine H1.out.mono ?_
 rintro r V ⟨rfl,hx1⟩
 obtain⟨hx1,hzz,rE,rO,rD,rR⟩:Ext w V∧w.heap.size+4≤V.heap.size∧RowIs V w.heap.size 37 [St ek,.slice A1 es.length n1,.slice A2 ec.length n2,.slice A3 ei.length n3,U x1,St x2,.bool x3] []∧RowIs V (w.heap.size+1) 42 [K8 dO,St k,I n,St tx] []∧RowIs V (w.heap.size+1+1) 97 [St d1,U dn] []∧RowIs V (w.heap.size+1+1+1) 37 [St [],.slice none 0 0,.slice none 0 0,.slice none 0 0,.int .u64 0,St [],.bool false] []:=by
  have H0:Ext W0 V:=by rw [hW0];exact hx1
  exact⟨hx0.trans H0,by have:=H0.size;omega,rE0.ext H0,rO0.ext H0,rD0.ext H0,rR0.ext H0⟩
 clear hx0 hz0 rE0 rO0 rD0 rR0 H1 hW0
 rw [hk]
 have HN:=Lib.hid (zec (HE.out.ext hx1))
 have e0:=rE.cell (j:=0) rfl
 have e1:=rE.cell (j:=1) rfl
 have e2:=rE.cell (j:=2) rfl
 have e3:=rE.cell (j:=3) rfl
 have e4:=rE.cell (j:=4) rfl
 have e5:=rE.cell (j:=5) rfl
 have e6:=rE.cell (j:=6) rfl
 have o0:=rO.cell (j:=0) rfl
 have o1:=rO.cell (j:=1) rfl
 have o2:=rO.cell (j:=2) rfl
 have o3:=rO.cell (j:=3) rfl
 go_wp2_with fail
 refine HN.out.mono ?_
 rintro r V2 ⟨rfl,hx2⟩
 rw [hs]
 obtain⟨hx1,hzz,rE,rO,rD,rR⟩:Ext w V2∧w.heap.size+4≤V2.heap.size∧RowIs V2 w.heap.size 37 [St ek,.slice A1 es.length n1,.slice A2 ec.length n2,.slice A3 ei.length n3,U x1,St x2,.bool x3] []∧RowIs V2 (w.heap.size+1) 42 [K8 dO,St k,I n,St tx] []∧RowIs V2 (w.heap.size+1+1) 97 [St d1,U dn] []∧RowIs V2 (w.heap.size+1+1+1) 37 [St [],.slice none 0 0,.slice none 0 0,.slice none 0 0,.int .u64 0,St [],.bool false] []:=⟨hx1.trans hx2,by have:=hx2.size;omega,rE.ext hx2,rO.ext hx2,rD.ext hx2,rR.ext hx2⟩
 clear hx2 e0 e1 e2 e3 e4 e5 e6 o0 o1 o2 o3 HN
 have r0:=rR.cell (j:=0) rfl
 have r1:=rR.cell (j:=1) rfl
 have r2:=rR.cell (j:=2) rfl
 have r3:=rR.cell (j:=3) rfl
 have r4:=rR.cell (j:=4) rfl
 have r5:=rR.cell (j:=5) rfl
 have r6:=rR.cell (j:=6) rfl
 have f0:=rR.frozen 0
 have f1:=rR.frozen 1
 have f2:=rR.frozen 2
 have f3:=rR.frozen 3
 have f4:=rR.frozen 4
 have f5:=rR.frozen 5
 have f6:=rR.frozen 6
 have HX:=Lib.hid hx1
 clear hx1 rR
 go_wp2_with fail
 (try simp only [Exit.inBlock,Exit.then])
 refine bodyPost_ret (v:=.tuple #[entV zad (.slice none 0 0) (.slice none 0 0) (.slice none 0 0),I 2]) (by simp [results,Tryz.f42,go_sem,entV,entC,zad,r0,r1,r2,r3,r4,r5,r6]) rfl ?_
 have hp:=za8 (q:=w.heap.size+1+1+1) HX.out (by omega) zad (.slice none 0 0) (.slice none 0 0) (.slice none 0 0)
 exact⟨rfl,hp⟩
theorem zph {S:Nat→Prop} {ek:Str} {es:List Mark} {ec:List zak} {ei:List Item} {x1:Nat} {x2:Str} {x3:Bool} {A1 A2 A3:Option Addr} {n1 n2 n3:Nat} {w:World} (dO:Nat) (k:Str) (n:Int) (tx:Str) (d1:Str) (dn:Nat) (h:EntAt w S ⟨ek,es,ec,ei,(x1,x2,x3)⟩ (.slice A1 es.length n1) (.slice A2 ec.length n2) (.slice A3 ei.length n3)) (hk:keyS k=true) (he:ek=k) (hd:d1 = []) :
  Calls Tryz.prog 42 #[.agg #[St ek,.slice A1 es.length n1,.slice A2 ec.length n2,.slice A3 ei.length n3,U x1,St x2,.bool x3],.agg #[K8 dO,St k,I n,St tx],.agg #[St d1,U dn]] w fun r w'=>r = .returned (.tuple #[entV zad (.slice none 0 0) (.slice none 0 0) (.slice none 0 0),I 2])∧Ext w w':=by
 subst he
 subst hd
 obtain⟨W0,hW0⟩:∃ W0,W0=(((w.alloc (.cells #[St ek,.slice A1 es.length n1,.slice A2 ec.length n2,.slice A3 ei.length n3,U x1,St x2,.bool x3] 37)).alloc (.cells #[K8 dO,St ek,I n,St tx] 42)).alloc (.cells #[St [],U dn] 97)).alloc (.cells #[St [],.slice none 0 0,.slice none 0 0,.slice none 0 0,.int .u64 0,St [],.bool false] 37):=⟨_,rfl⟩
 have hx0:Ext w W0:=by rw [hW0];exact ((((Ext.refl w).alloc _).alloc _).alloc _).alloc _
 have hz0:W0.heap.size=w.heap.size+1+1+1+1:=by rw [hW0];simp
 have rE0:RowIs W0 w.heap.size 37 [St ek,.slice A1 es.length n1,.slice A2 ec.length n2,.slice A3 ei.length n3,U x1,St x2,.bool x3] []:=by rw [hW0];exact (((zab w _ _).alloc _).alloc _).alloc _
 have rO0:RowIs W0 (w.heap.size+1) 42 [K8 dO,St ek,I n,St tx] []:=by rw [hW0];have h:=zab (w.alloc (.cells #[St ek,.slice A1 es.length n1,.slice A2 ec.length n2,.slice A3 ei.length n3,U x1,St x2,.bool x3] 37)) 42 [K8 dO,St ek,I n,St tx];simp only [World.size_alloc] at h;exact (h.alloc _).alloc _
 have rD0:RowIs W0 (w.heap.size+1+1) 97 [St [],U dn] []:=by rw [hW0];have h:=zab ((w.alloc (.cells #[St ek,.slice A1 es.length n1,.slice A2 ec.length n2,.slice A3 ei.length n3,U x1,St x2,.bool x3] 37)).alloc (.cells #[K8 dO,St ek,I n,St tx] 42)) 97 [St [],U dn];simp only [World.size_alloc] at h;exact h.alloc _
 have rR0:RowIs W0 (w.heap.size+1+1+1) 37 [St [],.slice none 0 0,.slice none 0 0,.slice none 0 0,.int .u64 0,St [],.bool false] []:=by rw [hW0];have h:=zab (((w.alloc (.cells #[St ek,.slice A1 es.length n1,.slice A2 ec.length n2,.slice A3 ei.length n3,U x1,St x2,.bool x3] 37)).alloc (.cells #[K8 dO,St ek,I n,St tx] 42)).alloc (.cells #[St [],U dn] 97)) 37 [St [],.slice none 0 0,.slice none 0 0,.slice none 0 0,.int .u64 0,St [],.bool false];simp only [World.size_alloc] at h;exact h
 have H1:=Lib.hid (zdb ek W0)
 have HE:=Lib.hid h
 rw [hW0] at H1
 clear h
 go_enter Tryz.func42,Tryz.ntmps42
 go_wp2_with fail
 refine H1.out.mono ?_
 rintro r V ⟨rfl,hx1⟩
 obtain⟨hx1,hzz,rE,rO,rD,rR⟩:Ext w V∧w.heap.size+4≤V.heap.size∧RowIs V w.heap.size 37 [St ek,.slice A1 es.length n1,.slice A2 ec.length n2,.slice A3 ei.length n3,U x1,St x2,.bool x3] []∧RowIs V (w.heap.size+1) 42 [K8 dO,St ek,I n,St tx] []∧RowIs V (w.heap.size+1+1) 97 [St [],U dn] []∧RowIs V (w.heap.size+1+1+1) 37 [St [],.slice none 0 0,.slice none 0 0,.slice none 0 0,.int .u64 0,St [],.bool false] []:=by
  have H0:Ext W0 V:=by rw [hW0];exact hx1
  exact⟨hx0.trans H0,by have:=H0.size;omega,rE0.ext H0,rO0.ext H0,rD0.ext H0,rR0.ext H0⟩
 clear hx0 hz0 rE0 rO0 rD0 rR0 H1 hW0
 rw [hk]
 have e0:=rE.cell (j:=0) rfl
 have e1:=rE.cell (j:=1) rfl
 have e2:=rE.cell (j:=2) rfl
 have e3:=rE.cell (j:=3) rfl
 have e4:=rE.cell (j:=4) rfl
 have e5:=rE.cell (j:=5) rfl
 have e6:=rE.cell (j:=6) rfl
 have o0:=rO.cell (j:=0) rfl
 have o1:=rO.cell (j:=1) rfl
 have o2:=rO.cell (j:=2) rfl
 have o3:=rO.cell (j:=3) rfl
 have dc0:=rD.cell (j:=0) rfl
 have dc1:=rD.cell (j:=1) rfl
 have r0:=rR.cell (j:=0) rfl
 have r1:=rR.cell (j:=1) rfl
 have r2:=rR.cell (j:=2) rfl
 have r3:=rR.cell (j:=3) rfl
 have r4:=rR.cell (j:=4) rfl
 have r5:=rR.cell (j:=5) rfl
 have r6:=rR.cell (j:=6) rfl
 have f0:=rR.frozen 0
 have f1:=rR.frozen 1
 have f2:=rR.frozen 2
 have f3:=rR.frozen 3
 have f4:=rR.frozen 4
 have f5:=rR.frozen 5
 have f6:=rR.frozen 6
 have HX:=Lib.hid hx1
 clear hx1 rR
 go_wp2_with fail
 (try simp only [Exit.inBlock,Exit.then])
 refine bodyPost_ret (v:=.tuple #[entV zad (.slice none 0 0) (.slice none 0 0) (.slice none 0 0),I 2]) (by simp [results,Tryz.f42,go_sem,entV,entC,zad,r0,r1,r2,r3,r4,r5,r6]) rfl ?_
 have hp:=za8 (q:=w.heap.size+1+1+1) HX.out (by omega) zad (.slice none 0 0) (.slice none 0 0) (.slice none 0 0)
 exact⟨rfl,hp⟩
theorem znk {S:Nat→Prop} {ek:Str} {es:List Mark} {ec:List zak} {ei:List Item} {x1:Nat} {x2:Str} {x3:Bool} {A1 A2 A3:Option Addr} {n1 n2 n3:Nat} {w:World} (dO:Nat) (k:Str) (n:Int) (tx:Str) (d1:Str) (dn:Nat) (h:EntAt w S ⟨ek,es,ec,ei,(x1,x2,x3)⟩ (.slice A1 es.length n1) (.slice A2 ec.length n2) (.slice A3 ei.length n3)) (hk:keyS k=true) (hne:(ek == k)=false) (hs:zav ⟨ek,es,ec,ei,(x1,x2,x3)⟩ zad=true) (hd:d1 = []) :
  Calls Tryz.prog 42 #[.agg #[St ek,.slice A1 es.length n1,.slice A2 ec.length n2,.slice A3 ei.length n3,U x1,St x2,.bool x3],.agg #[K8 dO,St k,I n,St tx],.agg #[St d1,U dn]] w fun r w'=>r = .returned (.tuple #[entV zad (.slice none 0 0) (.slice none 0 0) (.slice none 0 0),I 2])∧Ext w w':=by
 subst hd
 obtain⟨W0,hW0⟩:∃ W0,W0=(((w.alloc (.cells #[St ek,.slice A1 es.length n1,.slice A2 ec.length n2,.slice A3 ei.length n3,U x1,St x2,.bool x3] 37)).alloc (.cells #[K8 dO,St k,I n,St tx] 42)).alloc (.cells #[St [],U dn] 97)).alloc (.cells #[St [],.slice none 0 0,.slice none 0 0,.slice none 0 0,.int .u64 0,St [],.bool false] 37):=⟨_,rfl⟩
 have hx0:Ext w W0:=by rw [hW0];exact ((((Ext.refl w).alloc _).alloc _).alloc _).alloc _
 have hz0:W0.heap.size=w.heap.size+1+1+1+1:=by rw [hW0];simp
 have rE0:RowIs W0 w.heap.size 37 [St ek,.slice A1 es.length n1,.slice A2 ec.length n2,.slice A3 ei.length n3,U x1,St x2,.bool x3] []:=by rw [hW0];exact (((zab w _ _).alloc _).alloc _).alloc _
 have rO0:RowIs W0 (w.heap.size+1) 42 [K8 dO,St k,I n,St tx] []:=by rw [hW0];have h:=zab (w.alloc (.cells #[St ek,.slice A1 es.length n1,.slice A2 ec.length n2,.slice A3 ei.length n3,U x1,St x2,.bool x3] 37)) 42 [K8 dO,St k,I n,St tx];simp only [World.size_alloc] at h;exact (h.alloc _).alloc _
 have rD0:RowIs W0 (w.heap.size+1+1) 97 [St [],U dn] []:=by rw [hW0];have h:=zab ((w.alloc (.cells #[St ek,.slice A1 es.length n1,.slice A2 ec.length n2,.slice A3 ei.length n3,U x1,St x2,.bool x3] 37)).alloc (.cells #[K8 dO,St k,I n,St tx] 42)) 97 [St [],U dn];simp only [World.size_alloc] at h;exact h.alloc _
 have rR0:RowIs W0 (w.heap.size+1+1+1) 37 [St [],.slice none 0 0,.slice none 0 0,.slice none 0 0,.int .u64 0,St [],.bool false] []:=by rw [hW0];have h:=zab (((w.alloc (.cells #[St ek,.slice A1 es.length n1,.slice A2 ec.length n2,.slice A3 ei.length n3,U x1,St x2,.bool x3] 37)).alloc (.cells #[K8 dO,St k,I n,St tx] 42)).alloc (.cells #[St [],U dn] 97)) 37 [St [],.slice none 0 0,.slice none 0 0,.slice none 0 0,.int .u64 0,St [],.bool false];simp only [World.size_alloc] at h;exact h
 have H1:=Lib.hid (zdb k W0)
 have HE:=Lib.hid h
 rw [hW0] at H1
 clear h
 go_enter Tryz.func42,Tryz.ntmps42
 go_wp2_with fail
 refine H1.out.mono ?_
 rintro r V ⟨rfl,hx1⟩
 obtain⟨hx1,hzz,rE,rO,rD,rR⟩:Ext w V∧w.heap.size+4≤V.heap.size∧RowIs V w.heap.size 37 [St ek,.slice A1 es.length n1,.slice A2 ec.length n2,.slice A3 ei.length n3,U x1,St x2,.bool x3] []∧RowIs V (w.heap.size+1) 42 [K8 dO,St k,I n,St tx] []∧RowIs V (w.heap.size+1+1) 97 [St [],U dn] []∧RowIs V (w.heap.size+1+1+1) 37 [St [],.slice none 0 0,.slice none 0 0,.slice none 0 0,.int .u64 0,St [],.bool false] []:=by
  have H0:Ext W0 V:=by rw [hW0];exact hx1
  exact⟨hx0.trans H0,by have:=H0.size;omega,rE0.ext H0,rO0.ext H0,rD0.ext H0,rR0.ext H0⟩
 clear hx0 hz0 rE0 rO0 rD0 rR0 H1 hW0
 rw [hk]
 have HN:=Lib.hid (zec (HE.out.ext hx1))
 have e0:=rE.cell (j:=0) rfl
 have e1:=rE.cell (j:=1) rfl
 have e2:=rE.cell (j:=2) rfl
 have e3:=rE.cell (j:=3) rfl
 have e4:=rE.cell (j:=4) rfl
 have e5:=rE.cell (j:=5) rfl
 have e6:=rE.cell (j:=6) rfl
 have o0:=rO.cell (j:=0) rfl
 have o1:=rO.cell (j:=1) rfl
 have o2:=rO.cell (j:=2) rfl
 have o3:=rO.cell (j:=3) rfl
 go_wp2_with fail
 refine HN.out.mono ?_
 rintro r V2 ⟨rfl,hx2⟩
 rw [hs]
 obtain⟨hx1,hzz,rE,rO,rD,rR⟩:Ext w V2∧w.heap.size+4≤V2.heap.size∧RowIs V2 w.heap.size 37 [St ek,.slice A1 es.length n1,.slice A2 ec.length n2,.slice A3 ei.length n3,U x1,St x2,.bool x3] []∧RowIs V2 (w.heap.size+1) 42 [K8 dO,St k,I n,St tx] []∧RowIs V2 (w.heap.size+1+1) 97 [St [],U dn] []∧RowIs V2 (w.heap.size+1+1+1) 37 [St [],.slice none 0 0,.slice none 0 0,.slice none 0 0,.int .u64 0,St [],.bool false] []:=⟨hx1.trans hx2,by have:=hx2.size;omega,rE.ext hx2,rO.ext hx2,rD.ext hx2,rR.ext hx2⟩
 clear hx2 e0 e1 e2 e3 e4 e5 e6 o0 o1 o2 o3 HN
 have o0:=rO.cell (j:=0) rfl
 have o1:=rO.cell (j:=1) rfl
 have o2:=rO.cell (j:=2) rfl
 have o3:=rO.cell (j:=3) rfl
 have dc0:=rD.cell (j:=0) rfl
 have dc1:=rD.cell (j:=1) rfl
 have r0:=rR.cell (j:=0) rfl
 have r1:=rR.cell (j:=1) rfl
 have r2:=rR.cell (j:=2) rfl
 have r3:=rR.cell (j:=3) rfl
 have r4:=rR.cell (j:=4) rfl
 have r5:=rR.cell (j:=5) rfl
 have r6:=rR.cell (j:=6) rfl
 have f0:=rR.frozen 0
 have f1:=rR.frozen 1
 have f2:=rR.frozen 2
 have f3:=rR.frozen 3
 have f4:=rR.frozen 4
 have f5:=rR.frozen 5
 have f6:=rR.frozen 6
 have HX:=Lib.hid hx1
 clear hx1 rR
 go_wp2_with fail
 (try simp only [Exit.inBlock,Exit.then])
 refine bodyPost_ret (v:=.tuple #[entV zad (.slice none 0 0) (.slice none 0 0) (.slice none 0 0),I 2]) (by simp [results,Tryz.f42,go_sem,entV,entC,zad,r0,r1,r2,r3,r4,r5,r6]) rfl ?_
 have hp:=za8 (q:=w.heap.size+1+1+1) HX.out (by omega) zad (.slice none 0 0) (.slice none 0 0) (.slice none 0 0)
 exact⟨rfl,hp⟩
theorem zpi {S:Nat→Prop} {ek:Str} {es:List Mark} {ec:List zak} {ei:List Item} {x1:Nat} {x2:Str} {x3:Bool} {A1 A2 A3:Option Addr} {n1 n2 n3:Nat} {w:World} (dO:Nat) (k:Str) (n:Int) (tx:Str) (d1:Str) (dn:Nat) (h:EntAt w S ⟨ek,es,ec,ei,(x1,x2,x3)⟩ (.slice A1 es.length n1) (.slice A2 ec.length n2) (.slice A3 ei.length n3)) (hk:keyS k=true) (he:ek=k) (hd:(d1 == [])=false) (h2:(dn:Int) < 1) :
  Calls Tryz.prog 42 #[.agg #[St ek,.slice A1 es.length n1,.slice A2 ec.length n2,.slice A3 ei.length n3,U x1,St x2,.bool x3],.agg #[K8 dO,St k,I n,St tx],.agg #[St d1,U dn]] w fun r w'=>r = .returned (.tuple #[entV zad (.slice none 0 0) (.slice none 0 0) (.slice none 0 0),I 2])∧Ext w w':=by
 subst he
 obtain⟨W0,hW0⟩:∃ W0,W0=(((w.alloc (.cells #[St ek,.slice A1 es.length n1,.slice A2 ec.length n2,.slice A3 ei.length n3,U x1,St x2,.bool x3] 37)).alloc (.cells #[K8 dO,St ek,I n,St tx] 42)).alloc (.cells #[St d1,U dn] 97)).alloc (.cells #[St [],.slice none 0 0,.slice none 0 0,.slice none 0 0,.int .u64 0,St [],.bool false] 37):=⟨_,rfl⟩
 have hx0:Ext w W0:=by rw [hW0];exact ((((Ext.refl w).alloc _).alloc _).alloc _).alloc _
 have hz0:W0.heap.size=w.heap.size+1+1+1+1:=by rw [hW0];simp
 have rE0:RowIs W0 w.heap.size 37 [St ek,.slice A1 es.length n1,.slice A2 ec.length n2,.slice A3 ei.length n3,U x1,St x2,.bool x3] []:=by rw [hW0];exact (((zab w _ _).alloc _).alloc _).alloc _
 have rO0:RowIs W0 (w.heap.size+1) 42 [K8 dO,St ek,I n,St tx] []:=by rw [hW0];have h:=zab (w.alloc (.cells #[St ek,.slice A1 es.length n1,.slice A2 ec.length n2,.slice A3 ei.length n3,U x1,St x2,.bool x3] 37)) 42 [K8 dO,St ek,I n,St tx];simp only [World.size_alloc] at h;exact (h.alloc _).alloc _
 have rD0:RowIs W0 (w.heap.size+1+1) 97 [St d1,U dn] []:=by rw [hW0];have h:=zab ((w.alloc (.cells #[St ek,.slice A1 es.length n1,.slice A2 ec.length n2,.slice A3 ei.length n3,U x1,St x2,.bool x3] 37)).alloc (.cells #[K8 dO,St ek,I n,St tx] 42)) 97 [St d1,U dn];simp only [World.size_alloc] at h;exact h.alloc _
 have rR0:RowIs W0 (w.heap.size+1+1+1) 37 [St [],.slice none 0 0,.slice none 0 0,.slice none 0 0,.int .u64 0,St [],.bool false] []:=by rw [hW0];have h:=zab (((w.alloc (.cells #[St ek,.slice A1 es.length n1,.slice A2 ec.length n2,.slice A3 ei.length n3,U x1,St x2,.bool x3] 37)).alloc (.cells #[K8 dO,St ek,I n,St tx] 42)).alloc (.cells #[St d1,U dn] 97)) 37 [St [],.slice none 0 0,.slice none 0 0,.slice none 0 0,.int .u64 0,St [],.bool false];simp only [World.size_alloc] at h;exact h
 have H1:=Lib.hid (zdb ek W0)
 have HE:=Lib.hid h
 rw [hW0] at H1
 clear h
 go_enter Tryz.func42,Tryz.ntmps42
 go_wp2_with fail
 refine H1.out.mono ?_
 rintro r V ⟨rfl,hx1⟩
 obtain⟨hx1,hzz,rE,rO,rD,rR⟩:Ext w V∧w.heap.size+4≤V.heap.size∧RowIs V w.heap.size 37 [St ek,.slice A1 es.length n1,.slice A2 ec.length n2,.slice A3 ei.length n3,U x1,St x2,.bool x3] []∧RowIs V (w.heap.size+1) 42 [K8 dO,St ek,I n,St tx] []∧RowIs V (w.heap.size+1+1) 97 [St d1,U dn] []∧RowIs V (w.heap.size+1+1+1) 37 [St [],.slice none 0 0,.slice none 0 0,.slice none 0 0,.int .u64 0,St [],.bool false] []:=by
  have H0:Ext W0 V:=by rw [hW0];exact hx1
  exact⟨hx0.trans H0,by have:=H0.size;omega,rE0.ext H0,rO0.ext H0,rD0.ext H0,rR0.ext H0⟩
 clear hx0 hz0 rE0 rO0 rD0 rR0 H1 hW0
 rw [hk]
 have e0:=rE.cell (j:=0) rfl
 have e1:=rE.cell (j:=1) rfl
 have e2:=rE.cell (j:=2) rfl
 have e3:=rE.cell (j:=3) rfl
 have e4:=rE.cell (j:=4) rfl
 have e5:=rE.cell (j:=5) rfl
 have e6:=rE.cell (j:=6) rfl
 have o0:=rO.cell (j:=0) rfl
 have o1:=rO.cell (j:=1) rfl
 have o2:=rO.cell (j:=2) rfl
 have o3:=rO.cell (j:=3) rfl
 have dc0:=rD.cell (j:=0) rfl
 have dc1:=rD.cell (j:=1) rfl
 have r0:=rR.cell (j:=0) rfl
 have r1:=rR.cell (j:=1) rfl
 have r2:=rR.cell (j:=2) rfl
 have r3:=rR.cell (j:=3) rfl
 have r4:=rR.cell (j:=4) rfl
 have r5:=rR.cell (j:=5) rfl
 have r6:=rR.cell (j:=6) rfl
 have f0:=rR.frozen 0
 have f1:=rR.frozen 1
 have f2:=rR.frozen 2
 have f3:=rR.frozen 3
 have f4:=rR.frozen 4
 have f5:=rR.frozen 5
 have f6:=rR.frozen 6
 have HX:=Lib.hid hx1
 clear hx1 rR
 go_wp2_with fail
 (try simp only [Exit.inBlock,Exit.then])
 refine bodyPost_ret (v:=.tuple #[entV zad (.slice none 0 0) (.slice none 0 0) (.slice none 0 0),I 2]) (by simp [results,Tryz.f42,go_sem,entV,entC,zad,r0,r1,r2,r3,r4,r5,r6]) rfl ?_
 have hp:=za8 (q:=w.heap.size+1+1+1) HX.out (by omega) zad (.slice none 0 0) (.slice none 0 0) (.slice none 0 0)
 exact⟨rfl,hp⟩
theorem znl {S:Nat→Prop} {ek:Str} {es:List Mark} {ec:List zak} {ei:List Item} {x1:Nat} {x2:Str} {x3:Bool} {A1 A2 A3:Option Addr} {n1 n2 n3:Nat} {w:World} (dO:Nat) (k:Str) (n:Int) (tx:Str) (d1:Str) (dn:Nat) (h:EntAt w S ⟨ek,es,ec,ei,(x1,x2,x3)⟩ (.slice A1 es.length n1) (.slice A2 ec.length n2) (.slice A3 ei.length n3)) (hk:keyS k=true) (hne:(ek == k)=false) (hs:zav ⟨ek,es,ec,ei,(x1,x2,x3)⟩ zad=true) (hd:(d1 == [])=false) (h2:(dn:Int) < 1) :
  Calls Tryz.prog 42 #[.agg #[St ek,.slice A1 es.length n1,.slice A2 ec.length n2,.slice A3 ei.length n3,U x1,St x2,.bool x3],.agg #[K8 dO,St k,I n,St tx],.agg #[St d1,U dn]] w fun r w'=>r = .returned (.tuple #[entV zad (.slice none 0 0) (.slice none 0 0) (.slice none 0 0),I 2])∧Ext w w':=by
 obtain⟨W0,hW0⟩:∃ W0,W0=(((w.alloc (.cells #[St ek,.slice A1 es.length n1,.slice A2 ec.length n2,.slice A3 ei.length n3,U x1,St x2,.bool x3] 37)).alloc (.cells #[K8 dO,St k,I n,St tx] 42)).alloc (.cells #[St d1,U dn] 97)).alloc (.cells #[St [],.slice none 0 0,.slice none 0 0,.slice none 0 0,.int .u64 0,St [],.bool false] 37):=⟨_,rfl⟩
 have hx0:Ext w W0:=by rw [hW0];exact ((((Ext.refl w).alloc _).alloc _).alloc _).alloc _
 have hz0:W0.heap.size=w.heap.size+1+1+1+1:=by rw [hW0];simp
 have rE0:RowIs W0 w.heap.size 37 [St ek,.slice A1 es.length n1,.slice A2 ec.length n2,.slice A3 ei.length n3,U x1,St x2,.bool x3] []:=by rw [hW0];exact (((zab w _ _).alloc _).alloc _).alloc _
 have rO0:RowIs W0 (w.heap.size+1) 42 [K8 dO,St k,I n,St tx] []:=by rw [hW0];have h:=zab (w.alloc (.cells #[St ek,.slice A1 es.length n1,.slice A2 ec.length n2,.slice A3 ei.length n3,U x1,St x2,.bool x3] 37)) 42 [K8 dO,St k,I n,St tx];simp only [World.size_alloc] at h;exact (h.alloc _).alloc _
 have rD0:RowIs W0 (w.heap.size+1+1) 97 [St d1,U dn] []:=by rw [hW0];have h:=zab ((w.alloc (.cells #[St ek,.slice A1 es.length n1,.slice A2 ec.length n2,.slice A3 ei.length n3,U x1,St x2,.bool x3] 37)).alloc (.cells #[K8 dO,St k,I n,St tx] 42)) 97 [St d1,U dn];simp only [World.size_alloc] at h;exact h.alloc _
 have rR0:RowIs W0 (w.heap.size+1+1+1) 37 [St [],.slice none 0 0,.slice none 0 0,.slice none 0 0,.int .u64 0,St [],.bool false] []:=by rw [hW0];have h:=zab (((w.alloc (.cells #[St ek,.slice A1 es.length n1,.slice A2 ec.length n2,.slice A3 ei.length n3,U x1,St x2,.bool x3] 37)).alloc (.cells #[K8 dO,St k,I n,St tx] 42)).alloc (.cells #[St d1,U dn] 97)) 37 [St [],.slice none 0 0,.slice none 0 0,.slice none 0 0,.int .u64 0,St [],.bool false];simp only [World.size_alloc] at h;exact h
 have H1:=Lib.hid (zdb k W0)
 have HE:=Lib.hid h
 rw [hW0] at H1
 clear h
 go_enter Tryz.func42,Tryz.ntmps42
 go_wp2_with fail
 refine H1.out.mono ?_
 rintro r V ⟨rfl,hx1⟩
 obtain⟨hx1,hzz,rE,rO,rD,rR⟩:Ext w V∧w.heap.size+4≤V.heap.size∧RowIs V w.heap.size 37 [St ek,.slice A1 es.length n1,.slice A2 ec.length n2,.slice A3 ei.length n3,U x1,St x2,.bool x3] []∧RowIs V (w.heap.size+1) 42 [K8 dO,St k,I n,St tx] []∧RowIs V (w.heap.size+1+1) 97 [St d1,U dn] []∧RowIs V (w.heap.size+1+1+1) 37 [St [],.slice none 0 0,.slice none 0 0,.slice none 0 0,.int .u64 0,St [],.bool false] []:=by
  have H0:Ext W0 V:=by rw [hW0];exact hx1
  exact⟨hx0.trans H0,by have:=H0.size;omega,rE0.ext H0,rO0.ext H0,rD0.ext H0,rR0.ext H0⟩
 clear hx0 hz0 rE0 rO0 rD0 rR0 H1 hW0
 rw [hk]
 have HN:=Lib.hid (zec (HE.out.ext hx1))
 have e0:=rE.cell (j:=0) rfl
 have e1:=rE.cell (j:=1) rfl
 have e2:=rE.cell (j:=2) rfl
 have e3:=rE.cell (j:=3) rfl
 have e4:=rE.cell (j:=4) rfl
 have e5:=rE.cell (j:=5) rfl
 have e6:=rE.cell (j:=6) rfl
 have o0:=rO.cell (j:=0) rfl
 have o1:=rO.cell (j:=1) rfl
 have o2:=rO.cell (j:=2) rfl
 have o3:=rO.cell (j:=3) rfl
 go_wp2_with fail
 refine HN.out.mono ?_
 rintro r V2 ⟨rfl,hx2⟩
 rw [hs]
 obtain⟨hx1,hzz,rE,rO,rD,rR⟩:Ext w V2∧w.heap.size+4≤V2.heap.size∧RowIs V2 w.heap.size 37 [St ek,.slice A1 es.length n1,.slice A2 ec.length n2,.slice A3 ei.length n3,U x1,St x2,.bool x3] []∧RowIs V2 (w.heap.size+1) 42 [K8 dO,St k,I n,St tx] []∧RowIs V2 (w.heap.size+1+1) 97 [St d1,U dn] []∧RowIs V2 (w.heap.size+1+1+1) 37 [St [],.slice none 0 0,.slice none 0 0,.slice none 0 0,.int .u64 0,St [],.bool false] []:=⟨hx1.trans hx2,by have:=hx2.size;omega,rE.ext hx2,rO.ext hx2,rD.ext hx2,rR.ext hx2⟩
 clear hx2 e0 e1 e2 e3 e4 e5 e6 o0 o1 o2 o3 HN
 have o0:=rO.cell (j:=0) rfl
 have o1:=rO.cell (j:=1) rfl
 have o2:=rO.cell (j:=2) rfl
 have o3:=rO.cell (j:=3) rfl
 have dc0:=rD.cell (j:=0) rfl
 have dc1:=rD.cell (j:=1) rfl
 have r0:=rR.cell (j:=0) rfl
 have r1:=rR.cell (j:=1) rfl
 have r2:=rR.cell (j:=2) rfl
 have r3:=rR.cell (j:=3) rfl
 have r4:=rR.cell (j:=4) rfl
 have r5:=rR.cell (j:=5) rfl
 have r6:=rR.cell (j:=6) rfl
 have f0:=rR.frozen 0
 have f1:=rR.frozen 1
 have f2:=rR.frozen 2
 have f3:=rR.frozen 3
 have f4:=rR.frozen 4
 have f5:=rR.frozen 5
 have f6:=rR.frozen 6
 have HX:=Lib.hid hx1
 clear hx1 rR
 go_wp2_with fail
 (try simp only [Exit.inBlock,Exit.then])
 refine bodyPost_ret (v:=.tuple #[entV zad (.slice none 0 0) (.slice none 0 0) (.slice none 0 0),I 2]) (by simp [results,Tryz.f42,go_sem,entV,entC,zad,r0,r1,r2,r3,r4,r5,r6]) rfl ?_
 have hp:=za8 (q:=w.heap.size+1+1+1) HX.out (by omega) zad (.slice none 0 0) (.slice none 0 0) (.slice none 0 0)
 exact⟨rfl,hp⟩
theorem zpj {S:Nat→Prop} {ek:Str} {es:List Mark} {ec:List zak} {ei:List Item} {x1:Nat} {x2:Str} {x3:Bool} {A1 A2 A3:Option Addr} {n1 n2 n3:Nat} {w:World} (dO:Nat) (k:Str) (n:Int) (tx:Str) (d1:Str) (dn:Nat) (h:EntAt w S ⟨ek,es,ec,ei,(x1,x2,x3)⟩ (.slice A1 es.length n1) (.slice A2 ec.length n2) (.slice A3 ei.length n3)) (hk:keyS k=true) (he:ek=k) (hd:(d1 == [])=false) (h2:¬ (dn:Int) < 1) (h3:(dn:Int) > 281474976710656) :
  Calls Tryz.prog 42 #[.agg #[St ek,.slice A1 es.length n1,.slice A2 ec.length n2,.slice A3 ei.length n3,U x1,St x2,.bool x3],.agg #[K8 dO,St k,I n,St tx],.agg #[St d1,U dn]] w fun r w'=>r = .returned (.tuple #[entV zad (.slice none 0 0) (.slice none 0 0) (.slice none 0 0),I 2])∧Ext w w':=by
 subst he
 obtain⟨W0,hW0⟩:∃ W0,W0=(((w.alloc (.cells #[St ek,.slice A1 es.length n1,.slice A2 ec.length n2,.slice A3 ei.length n3,U x1,St x2,.bool x3] 37)).alloc (.cells #[K8 dO,St ek,I n,St tx] 42)).alloc (.cells #[St d1,U dn] 97)).alloc (.cells #[St [],.slice none 0 0,.slice none 0 0,.slice none 0 0,.int .u64 0,St [],.bool false] 37):=⟨_,rfl⟩
 have hx0:Ext w W0:=by rw [hW0];exact ((((Ext.refl w).alloc _).alloc _).alloc _).alloc _
 have hz0:W0.heap.size=w.heap.size+1+1+1+1:=by rw [hW0];simp
 have rE0:RowIs W0 w.heap.size 37 [St ek,.slice A1 es.length n1,.slice A2 ec.length n2,.slice A3 ei.length n3,U x1,St x2,.bool x3] []:=by rw [hW0];exact (((zab w _ _).alloc _).alloc _).alloc _
 have rO0:RowIs W0 (w.heap.size+1) 42 [K8 dO,St ek,I n,St tx] []:=by rw [hW0];have h:=zab (w.alloc (.cells #[St ek,.slice A1 es.length n1,.slice A2 ec.length n2,.slice A3 ei.length n3,U x1,St x2,.bool x3] 37)) 42 [K8 dO,St ek,I n,St tx];simp only [World.size_alloc] at h;exact (h.alloc _).alloc _
 have rD0:RowIs W0 (w.heap.size+1+1) 97 [St d1,U dn] []:=by rw [hW0];have h:=zab ((w.alloc (.cells #[St ek,.slice A1 es.length n1,.slice A2 ec.length n2,.slice A3 ei.length n3,U x1,St x2,.bool x3] 37)).alloc (.cells #[K8 dO,St ek,I n,St tx] 42)) 97 [St d1,U dn];simp only [World.size_alloc] at h;exact h.alloc _
 have rR0:RowIs W0 (w.heap.size+1+1+1) 37 [St [],.slice none 0 0,.slice none 0 0,.slice none 0 0,.int .u64 0,St [],.bool false] []:=by rw [hW0];have h:=zab (((w.alloc (.cells #[St ek,.slice A1 es.length n1,.slice A2 ec.length n2,.slice A3 ei.length n3,U x1,St x2,.bool x3] 37)).alloc (.cells #[K8 dO,St ek,I n,St tx] 42)).alloc (.cells #[St d1,U dn] 97)) 37 [St [],.slice none 0 0,.slice none 0 0,.slice none 0 0,.int .u64 0,St [],.bool false];simp only [World.size_alloc] at h;exact h
 have H1:=Lib.hid (zdb ek W0)
 have HE:=Lib.hid h
 rw [hW0] at H1
 clear h
 go_enter Tryz.func42,Tryz.ntmps42
 go_wp2_with fail
 refine H1.out.mono ?_
 rintro r V ⟨rfl,hx1⟩
 obtain⟨hx1,hzz,rE,rO,rD,rR⟩:Ext w V∧w.heap.size+4≤V.heap.size∧RowIs V w.heap.size 37 [St ek,.slice A1 es.length n1,.slice A2 ec.length n2,.slice A3 ei.length n3,U x1,St x2,.bool x3] []∧RowIs V (w.heap.size+1) 42 [K8 dO,St ek,I n,St tx] []∧RowIs V (w.heap.size+1+1) 97 [St d1,U dn] []∧RowIs V (w.heap.size+1+1+1) 37 [St [],.slice none 0 0,.slice none 0 0,.slice none 0 0,.int .u64 0,St [],.bool false] []:=by
  have H0:Ext W0 V:=by rw [hW0];exact hx1
  exact⟨hx0.trans H0,by have:=H0.size;omega,rE0.ext H0,rO0.ext H0,rD0.ext H0,rR0.ext H0⟩
 clear hx0 hz0 rE0 rO0 rD0 rR0 H1 hW0
 rw [hk]
 have e0:=rE.cell (j:=0) rfl
 have e1:=rE.cell (j:=1) rfl
 have e2:=rE.cell (j:=2) rfl
 have e3:=rE.cell (j:=3) rfl
 have e4:=rE.cell (j:=4) rfl
 have e5:=rE.cell (j:=5) rfl
 have e6:=rE.cell (j:=6) rfl
 have o0:=rO.cell (j:=0) rfl
 have o1:=rO.cell (j:=1) rfl
 have o2:=rO.cell (j:=2) rfl
 have o3:=rO.cell (j:=3) rfl
 have dc0:=rD.cell (j:=0) rfl
 have dc1:=rD.cell (j:=1) rfl
 have r0:=rR.cell (j:=0) rfl
 have r1:=rR.cell (j:=1) rfl
 have r2:=rR.cell (j:=2) rfl
 have r3:=rR.cell (j:=3) rfl
 have r4:=rR.cell (j:=4) rfl
 have r5:=rR.cell (j:=5) rfl
 have r6:=rR.cell (j:=6) rfl
 have f0:=rR.frozen 0
 have f1:=rR.frozen 1
 have f2:=rR.frozen 2
 have f3:=rR.frozen 3
 have f4:=rR.frozen 4
 have f5:=rR.frozen 5
 have f6:=rR.frozen 6
 have HX:=Lib.hid hx1
 clear hx1 rR
 go_wp2_with fail
 (try simp only [Exit.inBlock,Exit.then])
 refine bodyPost_ret (v:=.tuple #[entV zad (.slice none 0 0) (.slice none 0 0) (.slice none 0 0),I 2]) (by simp [results,Tryz.f42,go_sem,entV,entC,zad,r0,r1,r2,r3,r4,r5,r6]) rfl ?_
 have hp:=za8 (q:=w.heap.size+1+1+1) HX.out (by omega) zad (.slice none 0 0) (.slice none 0 0) (.slice none 0 0)
 exact⟨rfl,hp⟩
theorem znm {S:Nat→Prop} {ek:Str} {es:List Mark} {ec:List zak} {ei:List Item} {x1:Nat} {x2:Str} {x3:Bool} {A1 A2 A3:Option Addr} {n1 n2 n3:Nat} {w:World} (dO:Nat) (k:Str) (n:Int) (tx:Str) (d1:Str) (dn:Nat) (h:EntAt w S ⟨ek,es,ec,ei,(x1,x2,x3)⟩ (.slice A1 es.length n1) (.slice A2 ec.length n2) (.slice A3 ei.length n3)) (hk:keyS k=true) (hne:(ek == k)=false) (hs:zav ⟨ek,es,ec,ei,(x1,x2,x3)⟩ zad=true) (hd:(d1 == [])=false) (h2:¬ (dn:Int) < 1) (h3:(dn:Int) > 281474976710656) :
  Calls Tryz.prog 42 #[.agg #[St ek,.slice A1 es.length n1,.slice A2 ec.length n2,.slice A3 ei.length n3,U x1,St x2,.bool x3],.agg #[K8 dO,St k,I n,St tx],.agg #[St d1,U dn]] w fun r w'=>r = .returned (.tuple #[entV zad (.slice none 0 0) (.slice none 0 0) (.slice none 0 0),I 2])∧Ext w w':=by
 obtain⟨W0,hW0⟩:∃ W0,W0=(((w.alloc (.cells #[St ek,.slice A1 es.length n1,.slice A2 ec.length n2,.slice A3 ei.length n3,U x1,St x2,.bool x3] 37)).alloc (.cells #[K8 dO,St k,I n,St tx] 42)).alloc (.cells #[St d1,U dn] 97)).alloc (.cells #[St [],.slice none 0 0,.slice none 0 0,.slice none 0 0,.int .u64 0,St [],.bool false] 37):=⟨_,rfl⟩
 have hx0:Ext w W0:=by rw [hW0];exact ((((Ext.refl w).alloc _).alloc _).alloc _).alloc _
 have hz0:W0.heap.size=w.heap.size+1+1+1+1:=by rw [hW0];simp
 have rE0:RowIs W0 w.heap.size 37 [St ek,.slice A1 es.length n1,.slice A2 ec.length n2,.slice A3 ei.length n3,U x1,St x2,.bool x3] []:=by rw [hW0];exact (((zab w _ _).alloc _).alloc _).alloc _
 have rO0:RowIs W0 (w.heap.size+1) 42 [K8 dO,St k,I n,St tx] []:=by rw [hW0];have h:=zab (w.alloc (.cells #[St ek,.slice A1 es.length n1,.slice A2 ec.length n2,.slice A3 ei.length n3,U x1,St x2,.bool x3] 37)) 42 [K8 dO,St k,I n,St tx];simp only [World.size_alloc] at h;exact (h.alloc _).alloc _
 have rD0:RowIs W0 (w.heap.size+1+1) 97 [St d1,U dn] []:=by rw [hW0];have h:=zab ((w.alloc (.cells #[St ek,.slice A1 es.length n1,.slice A2 ec.length n2,.slice A3 ei.length n3,U x1,St x2,.bool x3] 37)).alloc (.cells #[K8 dO,St k,I n,St tx] 42)) 97 [St d1,U dn];simp only [World.size_alloc] at h;exact h.alloc _
 have rR0:RowIs W0 (w.heap.size+1+1+1) 37 [St [],.slice none 0 0,.slice none 0 0,.slice none 0 0,.int .u64 0,St [],.bool false] []:=by rw [hW0];have h:=zab (((w.alloc (.cells #[St ek,.slice A1 es.length n1,.slice A2 ec.length n2,.slice A3 ei.length n3,U x1,St x2,.bool x3] 37)).alloc (.cells #[K8 dO,St k,I n,St tx] 42)).alloc (.cells #[St d1,U dn] 97)) 37 [St [],.slice none 0 0,.slice none 0 0,.slice none 0 0,.int .u64 0,St [],.bool false];simp only [World.size_alloc] at h;exact h
 have H1:=Lib.hid (zdb k W0)
 have HE:=Lib.hid h
 rw [hW0] at H1
 clear h
 go_enter Tryz.func42,Tryz.ntmps42
 go_wp2_with fail
 refine H1.out.mono ?_
 rintro r V ⟨rfl,hx1⟩
 obtain⟨hx1,hzz,rE,rO,rD,rR⟩:Ext w V∧w.heap.size+4≤V.heap.size∧RowIs V w.heap.size 37 [St ek,.slice A1 es.length n1,.slice A2 ec.length n2,.slice A3 ei.length n3,U x1,St x2,.bool x3] []∧RowIs V (w.heap.size+1) 42 [K8 dO,St k,I n,St tx] []∧RowIs V (w.heap.size+1+1) 97 [St d1,U dn] []∧RowIs V (w.heap.size+1+1+1) 37 [St [],.slice none 0 0,.slice none 0 0,.slice none 0 0,.int .u64 0,St [],.bool false] []:=by
  have H0:Ext W0 V:=by rw [hW0];exact hx1
  exact⟨hx0.trans H0,by have:=H0.size;omega,rE0.ext H0,rO0.ext H0,rD0.ext H0,rR0.ext H0⟩
 clear hx0 hz0 rE0 rO0 rD0 rR0 H1 hW0
 rw [hk]
 have HN:=Lib.hid (zec (HE.out.ext hx1))
 have e0:=rE.cell (j:=0) rfl
 have e1:=rE.cell (j:=1) rfl
 have e2:=rE.cell (j:=2) rfl
 have e3:=rE.cell (j:=3) rfl
 have e4:=rE.cell (j:=4) rfl
 have e5:=rE.cell (j:=5) rfl
 have e6:=rE.cell (j:=6) rfl
 have o0:=rO.cell (j:=0) rfl
 have o1:=rO.cell (j:=1) rfl
 have o2:=rO.cell (j:=2) rfl
 have o3:=rO.cell (j:=3) rfl
 go_wp2_with fail
 refine HN.out.mono ?_
 rintro r V2 ⟨rfl,hx2⟩
 rw [hs]
 obtain⟨hx1,hzz,rE,rO,rD,rR⟩:Ext w V2∧w.heap.size+4≤V2.heap.size∧RowIs V2 w.heap.size 37 [St ek,.slice A1 es.length n1,.slice A2 ec.length n2,.slice A3 ei.length n3,U x1,St x2,.bool x3] []∧RowIs V2 (w.heap.size+1) 42 [K8 dO,St k,I n,St tx] []∧RowIs V2 (w.heap.size+1+1) 97 [St d1,U dn] []∧RowIs V2 (w.heap.size+1+1+1) 37 [St [],.slice none 0 0,.slice none 0 0,.slice none 0 0,.int .u64 0,St [],.bool false] []:=⟨hx1.trans hx2,by have:=hx2.size;omega,rE.ext hx2,rO.ext hx2,rD.ext hx2,rR.ext hx2⟩
 clear hx2 e0 e1 e2 e3 e4 e5 e6 o0 o1 o2 o3 HN
 have o0:=rO.cell (j:=0) rfl
 have o1:=rO.cell (j:=1) rfl
 have o2:=rO.cell (j:=2) rfl
 have o3:=rO.cell (j:=3) rfl
 have dc0:=rD.cell (j:=0) rfl
 have dc1:=rD.cell (j:=1) rfl
 have r0:=rR.cell (j:=0) rfl
 have r1:=rR.cell (j:=1) rfl
 have r2:=rR.cell (j:=2) rfl
 have r3:=rR.cell (j:=3) rfl
 have r4:=rR.cell (j:=4) rfl
 have r5:=rR.cell (j:=5) rfl
 have r6:=rR.cell (j:=6) rfl
 have f0:=rR.frozen 0
 have f1:=rR.frozen 1
 have f2:=rR.frozen 2
 have f3:=rR.frozen 3
 have f4:=rR.frozen 4
 have f5:=rR.frozen 5
 have f6:=rR.frozen 6
 have HX:=Lib.hid hx1
 clear hx1 rR
 go_wp2_with fail
 (try simp only [Exit.inBlock,Exit.then])
 refine bodyPost_ret (v:=.tuple #[entV zad (.slice none 0 0) (.slice none 0 0) (.slice none 0 0),I 2]) (by simp [results,Tryz.f42,go_sem,entV,entC,zad,r0,r1,r2,r3,r4,r5,r6]) rfl ?_
 have hp:=za8 (q:=w.heap.size+1+1+1) HX.out (by omega) zad (.slice none 0 0) (.slice none 0 0) (.slice none 0 0)
 exact⟨rfl,hp⟩
end
section
open Go.RowKit Go.Shelf
theorem ztb {S:Nat→Prop} {ek:Str} {es:List Mark} {ec:List zak} {ei:List Item} {x1:Nat} {x2:Str} {x3:Bool} {A1 A2 A3:Option Addr} {n1 n2 n3:Nat} {w:World} (dO:Nat) (k:Str) (n:Int) (tx:Str) (d1:Str) (dn:Nat) (h:EntAt w S ⟨ek,es,ec,ei,(x1,x2,x3)⟩ (.slice A1 es.length n1) (.slice A2 ec.length n2) (.slice A3 ei.length n3)) (hk:keyS k=true) (he:ek=k) (hd:(d1 == [])=false) (h2:¬ (dn:Int) < 1) (h3:¬ (dn:Int) > 281474976710656) (hh:hasM es (d1,dn)=true) :
  Calls Tryz.prog 42 #[.agg #[St ek,.slice A1 es.length n1,.slice A2 ec.length n2,.slice A3 ei.length n3,U x1,St x2,.bool x3],.agg #[K8 dO,St k,I n,St tx],.agg #[St d1,U dn]] w fun r w'=>r = .returned (.tuple #[entV zad (.slice none 0 0) (.slice none 0 0) (.slice none 0 0),I 2])∧Ext w w':=by
 subst he
 obtain⟨W0,hW0⟩:∃ W0,W0=(((w.alloc (.cells #[St ek,.slice A1 es.length n1,.slice A2 ec.length n2,.slice A3 ei.length n3,U x1,St x2,.bool x3] 37)).alloc (.cells #[K8 dO,St ek,I n,St tx] 42)).alloc (.cells #[St d1,U dn] 97)).alloc (.cells #[St [],.slice none 0 0,.slice none 0 0,.slice none 0 0,.int .u64 0,St [],.bool false] 37):=⟨_,rfl⟩
 have hx0:Ext w W0:=by rw [hW0];exact ((((Ext.refl w).alloc _).alloc _).alloc _).alloc _
 have hz0:W0.heap.size=w.heap.size+1+1+1+1:=by rw [hW0];simp
 have rE0:RowIs W0 w.heap.size 37 [St ek,.slice A1 es.length n1,.slice A2 ec.length n2,.slice A3 ei.length n3,U x1,St x2,.bool x3] []:=by rw [hW0];exact (((zab w _ _).alloc _).alloc _).alloc _
 have rO0:RowIs W0 (w.heap.size+1) 42 [K8 dO,St ek,I n,St tx] []:=by rw [hW0];have h:=zab (w.alloc (.cells #[St ek,.slice A1 es.length n1,.slice A2 ec.length n2,.slice A3 ei.length n3,U x1,St x2,.bool x3] 37)) 42 [K8 dO,St ek,I n,St tx];simp only [World.size_alloc] at h;exact (h.alloc _).alloc _
 have rD0:RowIs W0 (w.heap.size+1+1) 97 [St d1,U dn] []:=by rw [hW0];have h:=zab ((w.alloc (.cells #[St ek,.slice A1 es.length n1,.slice A2 ec.length n2,.slice A3 ei.length n3,U x1,St x2,.bool x3] 37)).alloc (.cells #[K8 dO,St ek,I n,St tx] 42)) 97 [St d1,U dn];simp only [World.size_alloc] at h;exact h.alloc _
 have rR0:RowIs W0 (w.heap.size+1+1+1) 37 [St [],.slice none 0 0,.slice none 0 0,.slice none 0 0,.int .u64 0,St [],.bool false] []:=by rw [hW0];have h:=zab (((w.alloc (.cells #[St ek,.slice A1 es.length n1,.slice A2 ec.length n2,.slice A3 ei.length n3,U x1,St x2,.bool x3] 37)).alloc (.cells #[K8 dO,St ek,I n,St tx] 42)).alloc (.cells #[St d1,U dn] 97)) 37 [St [],.slice none 0 0,.slice none 0 0,.slice none 0 0,.int .u64 0,St [],.bool false];simp only [World.size_alloc] at h;exact h
 have H1:=Lib.hid (zdb ek W0)
 have HE:=Lib.hid h
 rw [hW0] at H1
 clear h
 go_enter Tryz.func42,Tryz.ntmps42
 go_wp2_with fail
 refine H1.out.mono ?_
 rintro r V ⟨rfl,hx1⟩
 obtain⟨hx1,hzz,rE,rO,rD,rR⟩:Ext w V∧w.heap.size+4≤V.heap.size∧RowIs V w.heap.size 37 [St ek,.slice A1 es.length n1,.slice A2 ec.length n2,.slice A3 ei.length n3,U x1,St x2,.bool x3] []∧RowIs V (w.heap.size+1) 42 [K8 dO,St ek,I n,St tx] []∧RowIs V (w.heap.size+1+1) 97 [St d1,U dn] []∧RowIs V (w.heap.size+1+1+1) 37 [St [],.slice none 0 0,.slice none 0 0,.slice none 0 0,.int .u64 0,St [],.bool false] []:=by
  have H0:Ext W0 V:=by rw [hW0];exact hx1
  exact⟨hx0.trans H0,by have:=H0.size;omega,rE0.ext H0,rO0.ext H0,rD0.ext H0,rR0.ext H0⟩
 clear hx0 hz0 rE0 rO0 rD0 rR0 H1 hW0
 rw [hk]
 have HH:=Lib.hid (zgr (d1,dn) (HE.out.seen.ext (by decide) hx1))
 have e0:=rE.cell (j:=0) rfl
 have e1:=rE.cell (j:=1) rfl
 have e2:=rE.cell (j:=2) rfl
 have e3:=rE.cell (j:=3) rfl
 have e4:=rE.cell (j:=4) rfl
 have e5:=rE.cell (j:=5) rfl
 have e6:=rE.cell (j:=6) rfl
 have o0:=rO.cell (j:=0) rfl
 have o1:=rO.cell (j:=1) rfl
 have o2:=rO.cell (j:=2) rfl
 have o3:=rO.cell (j:=3) rfl
 have dc0:=rD.cell (j:=0) rfl
 have dc1:=rD.cell (j:=1) rfl
 go_wp2_with fail
 refine HH.out.mono ?_
 rintro r V3 ⟨rfl,hx3⟩
 rw [hh]
 obtain⟨hx1,hzz,rE,rO,rD,rR⟩:Ext w V3∧w.heap.size+4≤V3.heap.size∧RowIs V3 w.heap.size 37 [St ek,.slice A1 es.length n1,.slice A2 ec.length n2,.slice A3 ei.length n3,U x1,St x2,.bool x3] []∧RowIs V3 (w.heap.size+1) 42 [K8 dO,St ek,I n,St tx] []∧RowIs V3 (w.heap.size+1+1) 97 [St d1,U dn] []∧RowIs V3 (w.heap.size+1+1+1) 37 [St [],.slice none 0 0,.slice none 0 0,.slice none 0 0,.int .u64 0,St [],.bool false] []:=⟨hx1.trans hx3,by have:=hx3.size;omega,rE.ext hx3,rO.ext hx3,rD.ext hx3,rR.ext hx3⟩
 clear hx3
 have r0:=rR.cell (j:=0) rfl
 have r1:=rR.cell (j:=1) rfl
 have r2:=rR.cell (j:=2) rfl
 have r3:=rR.cell (j:=3) rfl
 have r4:=rR.cell (j:=4) rfl
 have r5:=rR.cell (j:=5) rfl
 have r6:=rR.cell (j:=6) rfl
 have f0:=rR.frozen 0
 have f1:=rR.frozen 1
 have f2:=rR.frozen 2
 have f3:=rR.frozen 3
 have f4:=rR.frozen 4
 have f5:=rR.frozen 5
 have f6:=rR.frozen 6
 have HX:=Lib.hid hx1
 clear hx1 rR
 go_wp2_with fail
 (try simp only [Exit.inBlock,Exit.then])
 refine bodyPost_ret (v:=.tuple #[entV zad (.slice none 0 0) (.slice none 0 0) (.slice none 0 0),I 2]) (by simp [results,Tryz.f42,go_sem,entV,entC,zad,r0,r1,r2,r3,r4,r5,r6]) rfl ?_
 have hp:=za8 (q:=w.heap.size+1+1+1) HX.out (by omega) zad (.slice none 0 0) (.slice none 0 0) (.slice none 0 0)
 exact⟨rfl,hp⟩
theorem zpk {S:Nat→Prop} {ek:Str} {es:List Mark} {ec:List zak} {ei:List Item} {x1:Nat} {x2:Str} {x3:Bool} {A1 A2 A3:Option Addr} {n1 n2 n3:Nat} {w:World} (dO:Nat) (k:Str) (n:Int) (tx:Str) (d1:Str) (dn:Nat) (h:EntAt w S ⟨ek,es,ec,ei,(x1,x2,x3)⟩ (.slice A1 es.length n1) (.slice A2 ec.length n2) (.slice A3 ei.length n3)) (hk:keyS k=true) (hne:(ek == k)=false) (hs:zav ⟨ek,es,ec,ei,(x1,x2,x3)⟩ zad=true) (hd:(d1 == [])=false) (h2:¬ (dn:Int) < 1) (h3:¬ (dn:Int) > 281474976710656) (hh:hasM es (d1,dn)=true) :
  Calls Tryz.prog 42 #[.agg #[St ek,.slice A1 es.length n1,.slice A2 ec.length n2,.slice A3 ei.length n3,U x1,St x2,.bool x3],.agg #[K8 dO,St k,I n,St tx],.agg #[St d1,U dn]] w fun r w'=>r = .returned (.tuple #[entV zad (.slice none 0 0) (.slice none 0 0) (.slice none 0 0),I 2])∧Ext w w':=by
 obtain⟨W0,hW0⟩:∃ W0,W0=(((w.alloc (.cells #[St ek,.slice A1 es.length n1,.slice A2 ec.length n2,.slice A3 ei.length n3,U x1,St x2,.bool x3] 37)).alloc (.cells #[K8 dO,St k,I n,St tx] 42)).alloc (.cells #[St d1,U dn] 97)).alloc (.cells #[St [],.slice none 0 0,.slice none 0 0,.slice none 0 0,.int .u64 0,St [],.bool false] 37):=⟨_,rfl⟩
 have hx0:Ext w W0:=by rw [hW0];exact ((((Ext.refl w).alloc _).alloc _).alloc _).alloc _
 have hz0:W0.heap.size=w.heap.size+1+1+1+1:=by rw [hW0];simp
 have rE0:RowIs W0 w.heap.size 37 [St ek,.slice A1 es.length n1,.slice A2 ec.length n2,.slice A3 ei.length n3,U x1,St x2,.bool x3] []:=by rw [hW0];exact (((zab w _ _).alloc _).alloc _).alloc _
 have rO0:RowIs W0 (w.heap.size+1) 42 [K8 dO,St k,I n,St tx] []:=by rw [hW0];have h:=zab (w.alloc (.cells #[St ek,.slice A1 es.length n1,.slice A2 ec.length n2,.slice A3 ei.length n3,U x1,St x2,.bool x3] 37)) 42 [K8 dO,St k,I n,St tx];simp only [World.size_alloc] at h;exact (h.alloc _).alloc _
 have rD0:RowIs W0 (w.heap.size+1+1) 97 [St d1,U dn] []:=by rw [hW0];have h:=zab ((w.alloc (.cells #[St ek,.slice A1 es.length n1,.slice A2 ec.length n2,.slice A3 ei.length n3,U x1,St x2,.bool x3] 37)).alloc (.cells #[K8 dO,St k,I n,St tx] 42)) 97 [St d1,U dn];simp only [World.size_alloc] at h;exact h.alloc _
 have rR0:RowIs W0 (w.heap.size+1+1+1) 37 [St [],.slice none 0 0,.slice none 0 0,.slice none 0 0,.int .u64 0,St [],.bool false] []:=by rw [hW0];have h:=zab (((w.alloc (.cells #[St ek,.slice A1 es.length n1,.slice A2 ec.length n2,.slice A3 ei.length n3,U x1,St x2,.bool x3] 37)).alloc (.cells #[K8 dO,St k,I n,St tx] 42)).alloc (.cells #[St d1,U dn] 97)) 37 [St [],.slice none 0 0,.slice none 0 0,.slice none 0 0,.int .u64 0,St [],.bool false];simp only [World.size_alloc] at h;exact h
 have H1:=Lib.hid (zdb k W0)
 have HE:=Lib.hid h
 rw [hW0] at H1
 clear h
 go_enter Tryz.func42,Tryz.ntmps42
 go_wp2_with fail
 refine H1.out.mono ?_
 rintro r V ⟨rfl,hx1⟩
 obtain⟨hx1,hzz,rE,rO,rD,rR⟩:Ext w V∧w.heap.size+4≤V.heap.size∧RowIs V w.heap.size 37 [St ek,.slice A1 es.length n1,.slice A2 ec.length n2,.slice A3 ei.length n3,U x1,St x2,.bool x3] []∧RowIs V (w.heap.size+1) 42 [K8 dO,St k,I n,St tx] []∧RowIs V (w.heap.size+1+1) 97 [St d1,U dn] []∧RowIs V (w.heap.size+1+1+1) 37 [St [],.slice none 0 0,.slice none 0 0,.slice none 0 0,.int .u64 0,St [],.bool false] []:=by
  have H0:Ext W0 V:=by rw [hW0];exact hx1
  exact⟨hx0.trans H0,by have:=H0.size;omega,rE0.ext H0,rO0.ext H0,rD0.ext H0,rR0.ext H0⟩
 clear hx0 hz0 rE0 rO0 rD0 rR0 H1 hW0
 rw [hk]
 have HN:=Lib.hid (zec (HE.out.ext hx1))
 have e0:=rE.cell (j:=0) rfl
 have e1:=rE.cell (j:=1) rfl
 have e2:=rE.cell (j:=2) rfl
 have e3:=rE.cell (j:=3) rfl
 have e4:=rE.cell (j:=4) rfl
 have e5:=rE.cell (j:=5) rfl
 have e6:=rE.cell (j:=6) rfl
 have o0:=rO.cell (j:=0) rfl
 have o1:=rO.cell (j:=1) rfl
 have o2:=rO.cell (j:=2) rfl
 have o3:=rO.cell (j:=3) rfl
 go_wp2_with fail
 refine HN.out.mono ?_
 rintro r V2 ⟨rfl,hx2⟩
 rw [hs]
 obtain⟨hx1,hzz,rE,rO,rD,rR⟩:Ext w V2∧w.heap.size+4≤V2.heap.size∧RowIs V2 w.heap.size 37 [St ek,.slice A1 es.length n1,.slice A2 ec.length n2,.slice A3 ei.length n3,U x1,St x2,.bool x3] []∧RowIs V2 (w.heap.size+1) 42 [K8 dO,St k,I n,St tx] []∧RowIs V2 (w.heap.size+1+1) 97 [St d1,U dn] []∧RowIs V2 (w.heap.size+1+1+1) 37 [St [],.slice none 0 0,.slice none 0 0,.slice none 0 0,.int .u64 0,St [],.bool false] []:=⟨hx1.trans hx2,by have:=hx2.size;omega,rE.ext hx2,rO.ext hx2,rD.ext hx2,rR.ext hx2⟩
 clear hx2 e0 e1 e2 e3 e4 e5 e6 o0 o1 o2 o3 HN
 have HH:=Lib.hid (zgr (d1,dn) (HE.out.seen.ext (by decide) hx1))
 have e0:=rE.cell (j:=0) rfl
 have e1:=rE.cell (j:=1) rfl
 have e2:=rE.cell (j:=2) rfl
 have e3:=rE.cell (j:=3) rfl
 have e4:=rE.cell (j:=4) rfl
 have e5:=rE.cell (j:=5) rfl
 have e6:=rE.cell (j:=6) rfl
 have o0:=rO.cell (j:=0) rfl
 have o1:=rO.cell (j:=1) rfl
 have o2:=rO.cell (j:=2) rfl
 have o3:=rO.cell (j:=3) rfl
 have dc0:=rD.cell (j:=0) rfl
 have dc1:=rD.cell (j:=1) rfl
 go_wp2_with fail
 refine HH.out.mono ?_
 rintro r V3 ⟨rfl,hx3⟩
 rw [hh]
 obtain⟨hx1,hzz,rE,rO,rD,rR⟩:Ext w V3∧w.heap.size+4≤V3.heap.size∧RowIs V3 w.heap.size 37 [St ek,.slice A1 es.length n1,.slice A2 ec.length n2,.slice A3 ei.length n3,U x1,St x2,.bool x3] []∧RowIs V3 (w.heap.size+1) 42 [K8 dO,St k,I n,St tx] []∧RowIs V3 (w.heap.size+1+1) 97 [St d1,U dn] []∧RowIs V3 (w.heap.size+1+1+1) 37 [St [],.slice none 0 0,.slice none 0 0,.slice none 0 0,.int .u64 0,St [],.bool false] []:=⟨hx1.trans hx3,by have:=hx3.size;omega,rE.ext hx3,rO.ext hx3,rD.ext hx3,rR.ext hx3⟩
 clear hx3
 have r0:=rR.cell (j:=0) rfl
 have r1:=rR.cell (j:=1) rfl
 have r2:=rR.cell (j:=2) rfl
 have r3:=rR.cell (j:=3) rfl
 have r4:=rR.cell (j:=4) rfl
 have r5:=rR.cell (j:=5) rfl
 have r6:=rR.cell (j:=6) rfl
 have f0:=rR.frozen 0
 have f1:=rR.frozen 1
 have f2:=rR.frozen 2
 have f3:=rR.frozen 3
 have f4:=rR.frozen 4
 have f5:=rR.frozen 5
 have f6:=rR.frozen 6
 have HX:=Lib.hid hx1
 clear hx1 rR
 go_wp2_with fail
 (try simp only [Exit.inBlock,Exit.then])
 refine bodyPost_ret (v:=.tuple #[entV zad (.slice none 0 0) (.slice none 0 0) (.slice none 0 0),I 2]) (by simp [results,Tryz.f42,go_sem,entV,entC,zad,r0,r1,r2,r3,r4,r5,r6]) rfl ?_
 have hp:=za8 (q:=w.heap.size+1+1+1) HX.out (by omega) zad (.slice none 0 0) (.slice none 0 0) (.slice none 0 0)
 exact⟨rfl,hp⟩
theorem zu6 {S:Nat→Prop} {ek:Str} {es:List Mark} {ec:List zak} {ei:List Item} {x1:Nat} {x2:Str} {x3:Bool} {A1 A2 A3:Option Addr} {n1 n2 n3:Nat} {w:World} (dO:Nat) (k:Str) (n:Int) (tx:Str) (d1:Str) (dn:Nat) (h:EntAt w S ⟨ek,es,ec,ei,(x1,x2,x3)⟩ (.slice A1 es.length n1) (.slice A2 ec.length n2) (.slice A3 ei.length n3)) (hk:keyS k=true) (he:ek=k) (hd:(d1 == [])=false) (h2:1≤(dn:Int)) (h3:(dn:Int)≤281474976710656) (hh:hasM es (d1,dn)=false) (sm:SmallE ⟨ek,es,ec,ei,(x1,x2,x3)⟩) (hn1:-9223372036854775808≤n) (hn2:n≤9223372036854775807) :
  Calls Tryz.prog 42 #[.agg #[St ek,.slice A1 es.length n1,.slice A2 ec.length n2,.slice A3 ei.length n3,U x1,St x2,.bool x3],.agg #[K8 dO,St k,I n,St tx],.agg #[St d1,U dn]] w fun r w'=>∃ u1 u2 u3,r = .returned (.tuple #[entV (zch ⟨k,es,ec,ei,(x1,x2,x3)⟩ (dO,k,n,tx) (d1,dn)).1 u1 u2 u3,I (zch ⟨k,es,ec,ei,(x1,x2,x3)⟩ (dO,k,n,tx) (d1,dn)).2])∧EntAt w' (fun b=>w.heap.size≤b) (zch ⟨k,es,ec,ei,(x1,x2,x3)⟩ (dO,k,n,tx) (d1,dn)).1 u1 u2 u3∧Ext w w':=by
 subst he
 obtain⟨W0,hW0⟩:∃ W0,W0=(((w.alloc (.cells #[St ek,.slice A1 es.length n1,.slice A2 ec.length n2,.slice A3 ei.length n3,U x1,St x2,.bool x3] 37)).alloc (.cells #[K8 dO,St ek,I n,St tx] 42)).alloc (.cells #[St d1,U dn] 97)).alloc (.cells #[St [],.slice none 0 0,.slice none 0 0,.slice none 0 0,.int .u64 0,St [],.bool false] 37):=⟨_,rfl⟩
 have hx0:Ext w W0:=by rw [hW0];exact ((((Ext.refl w).alloc _).alloc _).alloc _).alloc _
 have hz0:W0.heap.size=w.heap.size+1+1+1+1:=by rw [hW0];simp
 have rE0:RowIs W0 w.heap.size 37 [St ek,.slice A1 es.length n1,.slice A2 ec.length n2,.slice A3 ei.length n3,U x1,St x2,.bool x3] []:=by rw [hW0];exact (((zab w _ _).alloc _).alloc _).alloc _
 have rO0:RowIs W0 (w.heap.size+1) 42 [K8 dO,St ek,I n,St tx] []:=by rw [hW0];have h:=zab (w.alloc (.cells #[St ek,.slice A1 es.length n1,.slice A2 ec.length n2,.slice A3 ei.length n3,U x1,St x2,.bool x3] 37)) 42 [K8 dO,St ek,I n,St tx];simp only [World.size_alloc] at h;exact (h.alloc _).alloc _
 have rD0:RowIs W0 (w.heap.size+1+1) 97 [St d1,U dn] []:=by rw [hW0];have h:=zab ((w.alloc (.cells #[St ek,.slice A1 es.length n1,.slice A2 ec.length n2,.slice A3 ei.length n3,U x1,St x2,.bool x3] 37)).alloc (.cells #[K8 dO,St ek,I n,St tx] 42)) 97 [St d1,U dn];simp only [World.size_alloc] at h;exact h.alloc _
 have rR0:RowIs W0 (w.heap.size+1+1+1) 37 [St [],.slice none 0 0,.slice none 0 0,.slice none 0 0,.int .u64 0,St [],.bool false] []:=by rw [hW0];have h:=zab (((w.alloc (.cells #[St ek,.slice A1 es.length n1,.slice A2 ec.length n2,.slice A3 ei.length n3,U x1,St x2,.bool x3] 37)).alloc (.cells #[K8 dO,St ek,I n,St tx] 42)).alloc (.cells #[St d1,U dn] 97)) 37 [St [],.slice none 0 0,.slice none 0 0,.slice none 0 0,.int .u64 0,St [],.bool false];simp only [World.size_alloc] at h;exact h
 have H1:=Lib.hid (zdb ek W0)
 have HE:=Lib.hid h
 rw [hW0] at H1
 clear h
 go_enter Tryz.func42,Tryz.ntmps42
 go_wp2_with fail
 refine H1.out.mono ?_
 rintro r V ⟨rfl,hx1⟩
 obtain⟨hx1,hzz,rE,rO,rD,rR⟩:Ext w V∧w.heap.size+4≤V.heap.size∧RowIs V w.heap.size 37 [St ek,.slice A1 es.length n1,.slice A2 ec.length n2,.slice A3 ei.length n3,U x1,St x2,.bool x3] []∧RowIs V (w.heap.size+1) 42 [K8 dO,St ek,I n,St tx] []∧RowIs V (w.heap.size+1+1) 97 [St d1,U dn] []∧RowIs V (w.heap.size+1+1+1) 37 [St [],.slice none 0 0,.slice none 0 0,.slice none 0 0,.int .u64 0,St [],.bool false] []:=by
  have H0:Ext W0 V:=by rw [hW0];exact hx1
  exact⟨hx0.trans H0,by have:=H0.size;omega,rE0.ext H0,rO0.ext H0,rD0.ext H0,rR0.ext H0⟩
 clear hx0 hz0 rE0 rO0 rD0 rR0 H1 hW0
 rw [hk]
 have HH:=Lib.hid (zgr (d1,dn) (HE.out.seen.ext (by decide) hx1))
 have e0:=rE.cell (j:=0) rfl
 have e1:=rE.cell (j:=1) rfl
 have e2:=rE.cell (j:=2) rfl
 have e3:=rE.cell (j:=3) rfl
 have e4:=rE.cell (j:=4) rfl
 have e5:=rE.cell (j:=5) rfl
 have e6:=rE.cell (j:=6) rfl
 have o0:=rO.cell (j:=0) rfl
 have o1:=rO.cell (j:=1) rfl
 have o2:=rO.cell (j:=2) rfl
 have o3:=rO.cell (j:=3) rfl
 have dc0:=rD.cell (j:=0) rfl
 have dc1:=rD.cell (j:=1) rfl
 go_wp2_with fail
 all_goals (try (exfalso;omega))
 refine HH.out.mono ?_
 rintro r V3 ⟨rfl,hx3⟩
 rw [hh]
 obtain⟨hx1,hzz,rE,rO,rD,rR⟩:Ext w V3∧w.heap.size+4≤V3.heap.size∧RowIs V3 w.heap.size 37 [St ek,.slice A1 es.length n1,.slice A2 ec.length n2,.slice A3 ei.length n3,U x1,St x2,.bool x3] []∧RowIs V3 (w.heap.size+1) 42 [K8 dO,St ek,I n,St tx] []∧RowIs V3 (w.heap.size+1+1) 97 [St d1,U dn] []∧RowIs V3 (w.heap.size+1+1+1) 37 [St [],.slice none 0 0,.slice none 0 0,.slice none 0 0,.int .u64 0,St [],.bool false] []:=⟨hx1.trans hx3,by have:=hx3.size;omega,rE.ext hx3,rO.ext hx3,rD.ext hx3,rR.ext hx3⟩
 clear hx3 HH
 have HCP:=Lib.hid (zee (HE.out.ext hx1) (Nat.le_trans sm.seen (by decide)) (Nat.le_trans sm.counts (by decide)) (Nat.le_trans sm.items (by decide)) (fun it hit=>Nat.le_trans (sm.dots it hit) (by omega)))
 have p0:=rE.cell (j:=0) rfl
 have p1:=rE.cell (j:=1) rfl
 have p2:=rE.cell (j:=2) rfl
 have p3:=rE.cell (j:=3) rfl
 have p4:=rE.cell (j:=4) rfl
 have p5:=rE.cell (j:=5) rfl
 have p6:=rE.cell (j:=6) rfl
 go_wp2_with fail
 refine HCP.out.mono ?_
 rintro r V4 ⟨u1,u2,u3,rfl,hu,hx4⟩
 have hzb:=hx4.size
 obtain⟨hx1,hzz,rE,rO,rD,rR⟩:Ext w V4∧w.heap.size+4≤V4.heap.size∧RowIs V4 w.heap.size 37 [St ek,.slice A1 es.length n1,.slice A2 ec.length n2,.slice A3 ei.length n3,U x1,St x2,.bool x3] []∧RowIs V4 (w.heap.size+1) 42 [K8 dO,St ek,I n,St tx] []∧RowIs V4 (w.heap.size+1+1) 97 [St d1,U dn] []∧RowIs V4 (w.heap.size+1+1+1) 37 [St [],.slice none 0 0,.slice none 0 0,.slice none 0 0,.int .u64 0,St [],.bool false] []:=⟨hx1.trans hx4,by have:=hx4.size;omega,rE.ext hx4,rO.ext hx4,rD.ext hx4,rR.ext hx4⟩
 obtain⟨B1,m1,rfl,-,-⟩:=hu.seen.form
 obtain⟨B2,m2,rfl,-,-⟩:=hu.counts.form
 obtain⟨B3,m3,rfl,-,-⟩:=hu.items.form
 have HU:=Lib.hid (show EntAt V4 (fun b=>V3.heap.size≤b∧b < V4.heap.size) ⟨ek,es,ec,ei,(x1,x2,x3)⟩ (.slice B1 es.length m1) (.slice B2 ec.length m2) (.slice B3 ei.length m3) from (show EntAt V4 (fun b=>V3.heap.size≤b) ⟨ek,es,ec,ei,(x1,x2,x3)⟩ _ _ _ from ⟨hu.at.seen,hu.at.counts,hu.at.items⟩).mono fun b hb h=>⟨h,hb⟩)
 clear hx4 hu HCP
 have hlt1:w.heap.size+1 < V4.heap.size:=by omega
 have q0:=rO.cell (j:=0) rfl
 have q1:=rO.cell (j:=1) rfl
 have q2:=rO.cell (j:=2) rfl
 have q3:=rO.cell (j:=3) rfl
 go_wp2_with fail
 have rN:=zab V4 37 [St ek,.slice B1 es.length m1,.slice B2 ec.length m2,.slice B3 ei.length m3,U x1,St x2,.bool x3]
 have hxa:=(Ext.refl V4).alloc (.cells #[St ek,.slice B1 es.length m1,.slice B2 ec.length m2,.slice B3 ei.length m3,U x1,St x2,.bool x3] 37)
 have rO4:=rO.ext hxa
 have rD4:=rD.ext hxa
 have rR4:=rR.ext hxa
 have HU4:=Lib.hid (HU.out.ext hxa)
 have hx4:=hx1.trans hxa
 have hzn:=rN.lt
 generalize hW4:V4.alloc (.cells #[St ek,.slice B1 es.length m1,.slice B2 ec.length m2,.slice B3 ei.length m3,U x1,St x2,.bool x3] 37)=W4 at *
 have hv4:=hxa.size
 clear hW4 rO rD rR rE hx1 hxa HU q0 q1 q2 q3
 refine zaz [fun v _=>v=opV (dO,ek,n,tx),
  fun v _=>v=dotV (d1,dn),
  fun v W2=>∃ B m,W4.heap.size≤B∧B+6≤W2.heap.size∧UpdAt W2 B V4.heap.size n tx (d1,dn) m∧v = .map (some m),
  fun v _=>v = .pointer (some ⟨w.heap.size+1,1,none⟩),
  fun v _=>v=St ek,
  fun v _=>v=K8 (zaj ek),
  fun v W2=>∃ B m,W4.heap.size≤B∧B+6≤W2.heap.size∧UpdAt W2 B V4.heap.size n tx (d1,dn) m∧InnerIs W2 B (zaj ek) v,
  fun v _=>v = .pointer (some ⟨w.heap.size+1,0,none⟩),
  fun v _=>v=K8 dO,
  fun v W2=>∃ B m,W4.heap.size≤B∧B+6≤W2.heap.size∧UpdAt W2 B V4.heap.size n tx (d1,dn) m∧v = .tuple #[(za5 B (zaj ek) dO).getD .nilFunc,.bool (za5 B (zaj ek) dO).isSome],
  fun v W2=>∃ B m,W4.heap.size≤B∧B+6≤W2.heap.size∧UpdAt W2 B V4.heap.size n tx (d1,dn) m∧v = .tuple #[(za5 B (zaj ek) dO).getD .nilFunc,.bool (za5 B (zaj ek) dO).isSome],
  fun v W2=>∃ B m,W4.heap.size≤B∧B+6≤W2.heap.size∧UpdAt W2 B V4.heap.size n tx (d1,dn) m∧v=(za5 B (zaj ek) dO).getD .nilFunc,
  fun v _=>v = .bool (doE (zaj ek) ⟨ek,es,ec,ei,(x1,x2,x3)⟩ (dO,ek,n,tx) (d1,dn)).isSome,
  fun v W2=>∃ B m,W4.heap.size≤B∧B+6≤W2.heap.size∧UpdAt W2 B V4.heap.size n tx (d1,dn) m∧v=(za5 B (zaj ek) dO).getD .nilFunc] rfl (by kernel_rfl) ?hR ?hstep ?hend
 case hR =>
  simp only [List.mem_cons,List.not_mem_nil,or_false,forall_eq_or_imp,forall_eq]
  exact⟨fun v _ _ h _=>h,fun v _ _ h _=>h,fun v _ _ h he=>by obtain⟨B,m,h1,h2,h3,h4⟩:=h;exact⟨B,m,h1,Nat.le_trans h2 he.size,h3.ext he,h4⟩,fun v _ _ h _=>h,fun v _ _ h _=>h,fun v _ _ h _=>h,fun v _ _ h he=>by obtain⟨B,m,h1,h2,h3,h4⟩:=h;exact⟨B,m,h1,Nat.le_trans h2 he.size,h3.ext he,h4.ext he⟩,fun v _ _ h _=>h,fun v _ _ h _=>h,fun v _ _ h he=>by obtain⟨B,m,h1,h2,h3,h4⟩:=h;exact⟨B,m,h1,Nat.le_trans h2 he.size,h3.ext he,h4⟩,fun v _ _ h he=>by obtain⟨B,m,h1,h2,h3,h4⟩:=h;exact⟨B,m,h1,Nat.le_trans h2 he.size,h3.ext he,h4⟩,fun v _ _ h he=>by obtain⟨B,m,h1,h2,h3,h4⟩:=h;exact⟨B,m,h1,Nat.le_trans h2 he.size,h3.ext he,h4⟩,fun v _ _ h _=>h,fun v _ _ h he=>by obtain⟨B,m,h1,h2,h3,h4⟩:=h;exact⟨B,m,h1,Nat.le_trans h2 he.size,h3.ext he,h4⟩⟩
 case hstep =>
  simp only [List.length_cons,List.length_nil,Nat.reduceAdd,List.take_succ_cons,List.take_zero,zbn,and_true]
  refine ⟨?_,?_,?_,?_,?_,?_,?_,?_,?_,?_,?_,?_,?_,?_⟩
  ·intro x W he f
   have h:x 4 = .pointer (some ⟨w.heap.size+1,0,none⟩):=f.1
   have q0:=(rO4.ext he).cell (j:=0) rfl
   have q1:=(rO4.ext he).cell (j:=1) rfl
   have q2:=(rO4.ext he).cell (j:=2) rfl
   have q3:=(rO4.ext he).cell (j:=3) rfl
   go_wp
   exact zaa rfl (Ext.refl _)
  ·intro x W he f
   have h:x 5 = .pointer (some ⟨w.heap.size+1+1,0,none⟩):=f.1
   have q0:=(rD4.ext he).cell (j:=0) rfl
   have q1:=(rD4.ext he).cell (j:=1) rfl
   go_wp
   exact zaa rfl (Ext.refl _)
  ·intro x W he f
   have h8:x 8 = .pointer (some ⟨V4.heap.size,0,none⟩):=f.1
   have h54:x 54=opV (dO,ek,n,tx):=f.2.1
   have h55:x 55=dotV (d1,dn):=f.2.2.1
   have hs:=he.size
   have HC:=Lib.hid (zkd (W:=W) (E:=V4.heap.size) ek dO n tx (d1,dn))
   go_wp
   refine HC.out.mono ?_
   rintro r W2 ⟨m,rfl,hU,hz,hx2⟩
   dsimp only
   go_wp
   exact zaa (v:=.map (some m)) ⟨W.heap.size,m,hs,hz,hU,rfl⟩ hx2
  ·intro x W he f
   have h:x 4 = .pointer (some ⟨w.heap.size+1,0,none⟩):=f.1
   go_wp
   exact zaa rfl (Ext.refl _)
  ·intro x W he f
   have h:x 57 = .pointer (some ⟨w.heap.size+1,1,none⟩):=f.1
   have q1:=(rO4.ext he).cell (j:=1) rfl
   go_wp
   exact zaa rfl (Ext.refl _)
  ·intro x W he f
   have h:x 58=St ek:=f.1
   have HC:=Lib.hid (zhc ek W)
   go_wp
   refine HC.out.mono ?_
   rintro r W2 ⟨rfl,hx2⟩
   dsimp only
   go_wp
   exact zaa rfl hx2
  ·intro x W he f
   obtain⟨B,m,b1,b2,hU,h⟩:∃ B m,W4.heap.size≤B∧B+6≤W.heap.size∧UpdAt W B V4.heap.size n tx (d1,dn) m∧x 56 = .map (some m):=f.1
   have h59:x 59=K8 (zaj ek):=f.2.1
   obtain⟨u,hu1,hu2⟩:=zoe hU (zaj ek)
   have hl:=hu1 W (Ext.refl _)
   go_wp
   exact zaa (v:=u) ⟨B,m,b1,b2,hU,hu2⟩ (Ext.refl _)
  ·intro x W he f
   have h:x 4 = .pointer (some ⟨w.heap.size+1,0,none⟩):=f.1
   go_wp
   exact zaa rfl (Ext.refl _)
  ·intro x W he f
   have h:x 61 = .pointer (some ⟨w.heap.size+1,0,none⟩):=f.1
   have q0:=(rO4.ext he).cell (j:=0) rfl
   go_wp
   exact zaa rfl (Ext.refl _)
  ·intro x W he f
   obtain⟨B,m,b1,b2,hU,hI⟩:∃ B m,W4.heap.size≤B∧B+6≤W.heap.size∧UpdAt W B V4.heap.size n tx (d1,dn) m∧InnerIs W B (zaj ek) (x 60):=f.1
   have h62:x 62=K8 dO:=f.2.1
   have hl:=hI W (Ext.refl _) dO
   go_wp
   exact zaa ⟨B,m,b1,b2,hU,rfl⟩ (Ext.refl _)
  ·intro x W he f
   obtain⟨B,m,b1,b2,hU,h⟩:∃ B m,W4.heap.size≤B∧B+6≤W.heap.size∧UpdAt W B V4.heap.size n tx (d1,dn) m∧x 63 = .tuple #[(za5 B (zaj ek) dO).getD .nilFunc,.bool (za5 B (zaj ek) dO).isSome]:=f.1
   go_wp
   exact zaa ⟨B,m,b1,b2,hU,rfl⟩ (Ext.refl _)
  ·intro x W he f
   obtain⟨B,m,b1,b2,hU,h⟩:∃ B m,W4.heap.size≤B∧B+6≤W.heap.size∧UpdAt W B V4.heap.size n tx (d1,dn) m∧x 53 = .tuple #[(za5 B (zaj ek) dO).getD .nilFunc,.bool (za5 B (zaj ek) dO).isSome]:=f.1
   go_wp
   exact zaa ⟨B,m,b1,b2,hU,rfl⟩ (Ext.refl _)
  ·intro x W he f
   obtain⟨B,m,b1,b2,hU,h⟩:∃ B m,W4.heap.size≤B∧B+6≤W.heap.size∧UpdAt W B V4.heap.size n tx (d1,dn) m∧x 53 = .tuple #[(za5 B (zaj ek) dO).getD .nilFunc,.bool (za5 B (zaj ek) dO).isSome]:=f.1
   rw [zlj B (zaj ek) ⟨ek,es,ec,ei,(x1,x2,x3)⟩ (dO,ek,n,tx) (d1,dn)] at h
   go_wp
   exact zaa rfl (Ext.refl _)
  ·intro x W he f
   obtain⟨B,m,b1,b2,hU,h⟩:∃ B m,W4.heap.size≤B∧B+6≤W.heap.size∧UpdAt W B V4.heap.size n tx (d1,dn) m∧x 64=(za5 B (zaj ek) dO).getD .nilFunc:=f.1
   go_wp
   first | exact zaa ⟨B,m,b1,b2,hU,rfl⟩ (Ext.refl _) | exact zaa ⟨B,m,b1,b2,hU,h⟩ (Ext.refl _)
 case hend =>
  intro x W he f
  obtain⟨B,m,hB1,hB2,hU,h9⟩:∃ B m,W4.heap.size≤B∧B+6≤W.heap.size∧UpdAt W B V4.heap.size n tx (d1,dn) m∧x 9=(za5 B (zaj ek) dO).getD .nilFunc:=f.2.2.2.2.2.2.2.2.2.2.2.2.2.1
  have h65:x 65 = .bool (doE (zaj ek) ⟨ek,es,ec,ei,(x1,x2,x3)⟩ (dO,ek,n,tx) (d1,dn)).isSome:=f.2.2.2.2.2.2.2.2.2.2.2.2.1
  clear f
  have hx5:=hx4.trans he
  have rN5:=rN.ext he
  have rD5:=rD4.ext he
  have rR:=rR4.ext he
  have HU5:=Lib.hid (HU4.out.ext he)
  have HRE:=Lib.hid (show zch ⟨ek,es,ec,ei,(x1,x2,x3)⟩ (dO,ek,n,tx) (d1,dn)=match (doE (zaj ek) ⟨ek,es,ec,ei,(x1,x2,x3)⟩ (dO,ek,n,tx) (d1,dn)) with | none=>(zad,150) | some p=>if p.2=0 then ({ p.1 with seen:=setM p.1.seen d1 dn },0) else (zad,p.2) from rfl)
  have HDO:=zs8 (kk:=zaj ek) (o:=(dO,ek,n,tx)) (d:=(d1,dn)) (e:=⟨ek,es,ec,ei,(x1,x2,x3)⟩) hU hn1 hn2 (Nat.lt_of_le_of_lt sm.counts (by decide)) (Nat.lt_of_le_of_lt sm.places (by decide)) rN5 HU5.out (fun b hb=>⟨by omega,by omega⟩) (by omega)
  have hse:=@zhe (zaj ek) ⟨ek,es,ec,ei,(x1,x2,x3)⟩ (dO,ek,n,tx) (d1,dn)
  generalize doE (zaj ek) ⟨ek,es,ec,ei,(x1,x2,x3)⟩ (dO,ek,n,tx) (d1,dn)=Dd at *
  clear hU he rO4 rD4 rR4 HU4 rN hx4
  cases Dd with
  | none =>
   clear HDO h9 hse
   have HRE2:=Lib.hid HRE.out
   have r0:=rR.cell (j:=0) rfl
   have r1:=rR.cell (j:=1) rfl
   have r2:=rR.cell (j:=2) rfl
   have r3:=rR.cell (j:=3) rfl
   have r4:=rR.cell (j:=4) rfl
   have r5:=rR.cell (j:=5) rfl
   have r6:=rR.cell (j:=6) rfl
   have f0:=rR.frozen 0
   have f1:=rR.frozen 1
   have f2:=rR.frozen 2
   have f3:=rR.frozen 3
   have f4:=rR.frozen 4
   have f5:=rR.frozen 5
   have f6:=rR.frozen 6
   have HX:=Lib.hid hx5
   simp only [Option.isSome_none] at h65
   clear rN5 rD5 HU5 HRE
   simp only [List.length_cons,List.length_nil,Nat.reduceAdd,List.take_succ_cons,List.take_zero,List.filterMap_cons,List.filterMap_nil,List.drop_succ_cons,List.drop_zero,zau,Act.put,List.setIfInBounds_toArray,List.set_cons_succ,List.set_cons_zero,h65]
   go_wp
   go_wp2_with fail
   (try simp only [Exit.inBlock,Exit.then])
   refine bodyPost_ret (v:=.tuple #[entV zad (.slice none 0 0) (.slice none 0 0) (.slice none 0 0),I 150]) (by simp [results,Tryz.f42,go_sem,entV,entC,zad,r0,r1,r2,r3,r4,r5,r6]) rfl ?_
   have hp:=za8 (q:=w.heap.size+1+1+1) HX.out (by omega) zad (.slice none 0 0) (.slice none 0 0) (.slice none 0 0)
   refine ⟨.slice none 0 0,.slice none 0 0,.slice none 0 0,by (rw [HRE2.out];try rfl),?_⟩
   rw [HRE2.out]
   exact⟨EntAt.none _ _ _ _ _,hp⟩
  | some p =>
   obtain⟨e1,err⟩:=p
   have HS1:=Lib.hid (hse rfl)
   simp only [Option.isSome_some] at h65
   cases hc:za5 B (zaj ek) dO with
   | none=>rw [hc] at HDO;exact HDO.elim
   | some c =>
    rw [hc] at HDO h9
    obtain⟨fn,cap,rfl,hen,HCC⟩:=HDO
    simp only [Option.getD_some] at h9
    have HC:=Lib.hid HCC
    clear HCC hc hse
    simp only [List.length_cons,List.length_nil,Nat.reduceAdd,List.take_succ_cons,List.take_zero,List.filterMap_cons,List.filterMap_nil,List.drop_succ_cons,List.drop_zero,zau,Act.put,List.setIfInBounds_toArray,List.set_cons_succ,List.set_cons_zero,h65,h9]
    go_wp
    go_wp2_with fail
    refine HC.out.mono ?_
    rintro r W6 ⟨rfl,hD⟩
    obtain⟨t2,t3,hE6,hA6,hk6⟩:=hD
    have hx6:=hx5.kept2 hk6 (by omega) (by omega)
    have rR6:=rR.keep (hk6.other _ rR.lt (by omega) (by omega))
    have rD6:=rD5.keep (hk6.other _ rD5.lt (by omega) (by omega))
    have hz6:=hk6.size
    clear HC rR rD5 rN5 HU5 hx5 hk6 hen
    by_cases herr:err=0
    ·subst herr
     have HRE2:=Lib.hid (show zch ⟨ek,es,ec,ei,(x1,x2,x3)⟩ (dO,ek,n,tx) (d1,dn)=({ e1 with seen:=setM e1.seen d1 dn },0) from HRE.out)
     have HS:=Lib.hid (zh1 d1 dn hA6.seen (by rw [HS1.out.1];exact Nat.le_trans sm.seen (by decide)))
     obtain⟨T2,t2n,rfl,-,-⟩:=hA6.counts.form
     obtain⟨T3,t3n,rfl,-,-⟩:=hA6.items.form
     have k1:=hE6.cell (j:=1) rfl
     have dd0:=rD6.cell (j:=0) rfl
     have dd1:=rD6.cell (j:=1) rfl
     have HA6:=Lib.hid hA6
     clear hA6 HRE
     go_wp2_with fail
     refine HS.out.mono ?_
     rintro r W7 ⟨u,rfl,ho,hx7⟩
     obtain⟨U1,un,rfl,-,-⟩:=ho.form
     have hE7:=hE6.ext hx7
     have rR7:=rR6.ext hx7
     have hf7:=hE7.frozen 1
     have hc7:=hE7.cell (j:=1) rfl
     have hsz7:=hx7.size
     have hE8:=hE7.set (j:=1) (by simp) (.slice U1 (setM e1.seen d1 dn).length un)
     have rR8:=rR7.other (p:=⟨V4.heap.size,1,none⟩) (by simp;omega) (.slice U1 (setM e1.seen d1 dn).length un)
     simp only [List.set_cons_succ,List.set_cons_zero] at hE8
     have y0:=hE7.cell (j:=0) rfl
     have y1:=hE7.cell (j:=1) rfl
     have y2:=hE7.cell (j:=2) rfl
     have y3:=hE7.cell (j:=3) rfl
     have y4:=hE7.cell (j:=4) rfl
     have y5:=hE7.cell (j:=5) rfl
     have y6:=hE7.cell (j:=6) rfl
     have rr0:=rR7.cell (j:=0) rfl
     have rr1:=rR7.cell (j:=1) rfl
     have rr2:=rR7.cell (j:=2) rfl
     have rr3:=rR7.cell (j:=3) rfl
     have rr4:=rR7.cell (j:=4) rfl
     have rr5:=rR7.cell (j:=5) rfl
     have rr6:=rR7.cell (j:=6) rfl
     have ff0:=rR7.frozen 0
     have ff1:=rR7.frozen 1
     have ff2:=rR7.frozen 2
     have ff3:=rR7.frozen 3
     have ff4:=rR7.frozen 4
     have ff5:=rR7.frozen 5
     have ff6:=rR7.frozen 6
     have z0:=hE8.cell (j:=0) rfl
     have z1:=hE8.cell (j:=1) rfl
     have z2:=hE8.cell (j:=2) rfl
     have z3:=hE8.cell (j:=3) rfl
     have z4:=hE8.cell (j:=4) rfl
     have z5:=hE8.cell (j:=5) rfl
     have z6:=hE8.cell (j:=6) rfl
     have r0:=rR8.cell (j:=0) rfl
     have r1:=rR8.cell (j:=1) rfl
     have r2:=rR8.cell (j:=2) rfl
     have r3:=rR8.cell (j:=3) rfl
     have r4:=rR8.cell (j:=4) rfl
     have r5:=rR8.cell (j:=5) rfl
     have r6:=rR8.cell (j:=6) rfl
     have f0:=rR8.frozen 0
     have f1:=rR8.frozen 1
     have f2:=rR8.frozen 2
     have f3:=rR8.frozen 3
     have f4:=rR8.frozen 4
     have f5:=rR8.frozen 5
     have f6:=rR8.frozen 6
     have HX:=Lib.hid (((hx6.trans hx7).set (p:=⟨V4.heap.size,1,none⟩) (by simp;omega) (.slice U1 (setM e1.seen d1 dn).length un)))
     have HO:=Lib.hid ho
     have HX7:=Lib.hid hx7
     clear hE6 hE7 hE8 rR6 rR7 rR8 rD6 ho hx7 hx6 HS k1 dd0 dd1
     go_wp2_with fail
     (try simp only [Exit.inBlock,Exit.then])
     refine bodyPost_ret (v:=.tuple #[entV { e1 with seen:=setM e1.seen d1 dn } (.slice U1 (setM e1.seen d1 dn).length un) (.slice T2 e1.counts.length t2n) (.slice T3 e1.items.length t3n),I 0]) (by simp [results,Tryz.f42,go_sem,entV,entC,r0,r1,r2,r3,r4,r5,r6,rr0,rr1,rr2,rr3,rr4,rr5,rr6]) rfl ?_
     have hp:=za8 (q:=w.heap.size+1+1+1) HX.out (by omega) { e1 with seen:=setM e1.seen d1 dn } (.slice U1 (setM e1.seen d1 dn).length un) (.slice T2 e1.counts.length t2n) (.slice T3 e1.items.length t3n)
     refine ⟨.slice U1 (setM e1.seen d1 dn).length un,.slice T2 e1.counts.length t2n,.slice T3 e1.items.length t3n,by (rw [HRE2.out];try rfl),?_⟩
     rw [HRE2.out]
     refine ⟨?_,hp⟩
     have hkp:∀ b,b ≠ V4.heap.size→b ≠ w.heap.size+1+1+1→(put7 (W7.setCell ⟨V4.heap.size,1,none⟩ (.slice U1 (setM e1.seen d1 dn).length un)) (w.heap.size+1+1+1) { e1 with seen:=setM e1.seen d1 dn } (.slice U1 (setM e1.seen d1 dn).length un) (.slice T2 e1.counts.length t2n) (.slice T3 e1.items.length t3n)).heap[b]? = W7.heap[b]?:=fun b h1 h2 =>
      (zdi _ _ _ _ _ _ b h2).trans (Below.heap_setCell _ _ _ _ h1)
     have hA7:=HA6.out.ext HX7.out
     refine ⟨?_,?_,?_⟩
     ·exact (za6 (HO.out.keep fun b hb _=>hkp b (by have:=(HO.out.base_le hb).1;omega) (by have:=(HO.out.base_le hb).1;omega))).mono (by decide) fun b _ h=>by omega
     ·exact (hA7.counts.keep (by decide) fun b hb _=>hkp b (by rcases hb with hb | hb <;> omega) (by rcases hb with hb | hb <;> omega)).mono (by decide) fun b _ hb=>by rcases hb with hb | hb <;> omega
     ·exact (hA7.items.keep (by decide) fun b hb _=>hkp b (by rcases hb with hb | hb <;> omega) (by rcases hb with hb | hb <;> omega)).mono (by decide) fun b _ hb=>by rcases hb with hb | hb <;> omega
    ·have HRE2:=Lib.hid (show zch ⟨ek,es,ec,ei,(x1,x2,x3)⟩ (dO,ek,n,tx) (d1,dn)=(zad,err) by rw [HRE.out];exact if_neg herr)
     have hne2:((err:Int) == 0)=false:=neI (by omega)
     have r0:=rR6.cell (j:=0) rfl
     have r1:=rR6.cell (j:=1) rfl
     have r2:=rR6.cell (j:=2) rfl
     have r3:=rR6.cell (j:=3) rfl
     have r4:=rR6.cell (j:=4) rfl
     have r5:=rR6.cell (j:=5) rfl
     have r6:=rR6.cell (j:=6) rfl
     have f0:=rR6.frozen 0
     have f1:=rR6.frozen 1
     have f2:=rR6.frozen 2
     have f3:=rR6.frozen 3
     have f4:=rR6.frozen 4
     have f5:=rR6.frozen 5
     have f6:=rR6.frozen 6
     have HX:=Lib.hid hx6
     clear hE6 hA6 rD6 HRE hx6 rR6
     go_wp2_with fail
     (try simp only [Exit.inBlock,Exit.then])
     refine bodyPost_ret (v:=.tuple #[entV zad (.slice none 0 0) (.slice none 0 0) (.slice none 0 0),I err]) (by simp [results,Tryz.f42,go_sem,entV,entC,zad,r0,r1,r2,r3,r4,r5,r6]) rfl ?_
     have hp:=za8 (q:=w.heap.size+1+1+1) HX.out (by omega) zad (.slice none 0 0) (.slice none 0 0) (.slice none 0 0)
     refine ⟨.slice none 0 0,.slice none 0 0,.slice none 0 0,by (rw [HRE2.out];try rfl),?_⟩
     rw [HRE2.out]
     exact⟨EntAt.none _ _ _ _ _,hp⟩
theorem zq3 {S:Nat→Prop} {ek:Str} {es:List Mark} {ec:List zak} {ei:List Item} {x1:Nat} {x2:Str} {x3:Bool} {A1 A2 A3:Option Addr} {n1 n2 n3:Nat} {w:World} (dO:Nat) (k:Str) (n:Int) (tx:Str) (d1:Str) (dn:Nat) (h:EntAt w S ⟨ek,es,ec,ei,(x1,x2,x3)⟩ (.slice A1 es.length n1) (.slice A2 ec.length n2) (.slice A3 ei.length n3)) (hk:keyS k=true) (hne:(ek == k)=false) (hs:zav ⟨ek,es,ec,ei,(x1,x2,x3)⟩ zad=true) (hd:(d1 == [])=false) (h2:1≤(dn:Int)) (h3:(dn:Int)≤281474976710656) (hh:hasM es (d1,dn)=false) (sm:SmallE ⟨ek,es,ec,ei,(x1,x2,x3)⟩) (hn1:-9223372036854775808≤n) (hn2:n≤9223372036854775807) :
  Calls Tryz.prog 42 #[.agg #[St ek,.slice A1 es.length n1,.slice A2 ec.length n2,.slice A3 ei.length n3,U x1,St x2,.bool x3],.agg #[K8 dO,St k,I n,St tx],.agg #[St d1,U dn]] w fun r w'=>∃ u1 u2 u3,r = .returned (.tuple #[entV (zch ⟨k,es,ec,ei,(x1,x2,x3)⟩ (dO,k,n,tx) (d1,dn)).1 u1 u2 u3,I (zch ⟨k,es,ec,ei,(x1,x2,x3)⟩ (dO,k,n,tx) (d1,dn)).2])∧EntAt w' (fun b=>w.heap.size≤b) (zch ⟨k,es,ec,ei,(x1,x2,x3)⟩ (dO,k,n,tx) (d1,dn)).1 u1 u2 u3∧Ext w w':=by
 obtain⟨W0,hW0⟩:∃ W0,W0=(((w.alloc (.cells #[St ek,.slice A1 es.length n1,.slice A2 ec.length n2,.slice A3 ei.length n3,U x1,St x2,.bool x3] 37)).alloc (.cells #[K8 dO,St k,I n,St tx] 42)).alloc (.cells #[St d1,U dn] 97)).alloc (.cells #[St [],.slice none 0 0,.slice none 0 0,.slice none 0 0,.int .u64 0,St [],.bool false] 37):=⟨_,rfl⟩
 have hx0:Ext w W0:=by rw [hW0];exact ((((Ext.refl w).alloc _).alloc _).alloc _).alloc _
 have hz0:W0.heap.size=w.heap.size+1+1+1+1:=by rw [hW0];simp
 have rE0:RowIs W0 w.heap.size 37 [St ek,.slice A1 es.length n1,.slice A2 ec.length n2,.slice A3 ei.length n3,U x1,St x2,.bool x3] []:=by rw [hW0];exact (((zab w _ _).alloc _).alloc _).alloc _
 have rO0:RowIs W0 (w.heap.size+1) 42 [K8 dO,St k,I n,St tx] []:=by rw [hW0];have h:=zab (w.alloc (.cells #[St ek,.slice A1 es.length n1,.slice A2 ec.length n2,.slice A3 ei.length n3,U x1,St x2,.bool x3] 37)) 42 [K8 dO,St k,I n,St tx];simp only [World.size_alloc] at h;exact (h.alloc _).alloc _
 have rD0:RowIs W0 (w.heap.size+1+1) 97 [St d1,U dn] []:=by rw [hW0];have h:=zab ((w.alloc (.cells #[St ek,.slice A1 es.length n1,.slice A2 ec.length n2,.slice A3 ei.length n3,U x1,St x2,.bool x3] 37)).alloc (.cells #[K8 dO,St k,I n,St tx] 42)) 97 [St d1,U dn];simp only [World.size_alloc] at h;exact h.alloc _
 have rR0:RowIs W0 (w.heap.size+1+1+1) 37 [St [],.slice none 0 0,.slice none 0 0,.slice none 0 0,.int .u64 0,St [],.bool false] []:=by rw [hW0];have h:=zab (((w.alloc (.cells #[St ek,.slice A1 es.length n1,.slice A2 ec.length n2,.slice A3 ei.length n3,U x1,St x2,.bool x3] 37)).alloc (.cells #[K8 dO,St k,I n,St tx] 42)).alloc (.cells #[St d1,U dn] 97)) 37 [St [],.slice none 0 0,.slice none 0 0,.slice none 0 0,.int .u64 0,St [],.bool false];simp only [World.size_alloc] at h;exact h
 have H1:=Lib.hid (zdb k W0)
 have HE:=Lib.hid h
 rw [hW0] at H1
 clear h
 go_enter Tryz.func42,Tryz.ntmps42
 go_wp2_with fail
 refine H1.out.mono ?_
 rintro r V ⟨rfl,hx1⟩
 obtain⟨hx1,hzz,rE,rO,rD,rR⟩:Ext w V∧w.heap.size+4≤V.heap.size∧RowIs V w.heap.size 37 [St ek,.slice A1 es.length n1,.slice A2 ec.length n2,.slice A3 ei.length n3,U x1,St x2,.bool x3] []∧RowIs V (w.heap.size+1) 42 [K8 dO,St k,I n,St tx] []∧RowIs V (w.heap.size+1+1) 97 [St d1,U dn] []∧RowIs V (w.heap.size+1+1+1) 37 [St [],.slice none 0 0,.slice none 0 0,.slice none 0 0,.int .u64 0,St [],.bool false] []:=by
  have H0:Ext W0 V:=by rw [hW0];exact hx1
  exact⟨hx0.trans H0,by have:=H0.size;omega,rE0.ext H0,rO0.ext H0,rD0.ext H0,rR0.ext H0⟩
 clear hx0 hz0 rE0 rO0 rD0 rR0 H1 hW0
 rw [hk]
 have HN:=Lib.hid (zec (HE.out.ext hx1))
 have e0:=rE.cell (j:=0) rfl
 have e1:=rE.cell (j:=1) rfl
 have e2:=rE.cell (j:=2) rfl
 have e3:=rE.cell (j:=3) rfl
 have e4:=rE.cell (j:=4) rfl
 have e5:=rE.cell (j:=5) rfl
 have e6:=rE.cell (j:=6) rfl
 have o0:=rO.cell (j:=0) rfl
 have o1:=rO.cell (j:=1) rfl
 have o2:=rO.cell (j:=2) rfl
 have o3:=rO.cell (j:=3) rfl
 go_wp2_with fail
 refine HN.out.mono ?_
 rintro r V2 ⟨rfl,hx2⟩
 rw [hs]
 obtain⟨hx1,hzz,rE,rO,rD,rR⟩:Ext w V2∧w.heap.size+4≤V2.heap.size∧RowIs V2 w.heap.size 37 [St ek,.slice A1 es.length n1,.slice A2 ec.length n2,.slice A3 ei.length n3,U x1,St x2,.bool x3] []∧RowIs V2 (w.heap.size+1) 42 [K8 dO,St k,I n,St tx] []∧RowIs V2 (w.heap.size+1+1) 97 [St d1,U dn] []∧RowIs V2 (w.heap.size+1+1+1) 37 [St [],.slice none 0 0,.slice none 0 0,.slice none 0 0,.int .u64 0,St [],.bool false] []:=⟨hx1.trans hx2,by have:=hx2.size;omega,rE.ext hx2,rO.ext hx2,rD.ext hx2,rR.ext hx2⟩
 clear hx2 e0 e1 e2 e3 e4 e5 e6 o0 o1 o2 o3 HN
 have HH:=Lib.hid (zgr (d1,dn) (HE.out.seen.ext (by decide) hx1))
 have e0:=rE.cell (j:=0) rfl
 have e1:=rE.cell (j:=1) rfl
 have e2:=rE.cell (j:=2) rfl
 have e3:=rE.cell (j:=3) rfl
 have e4:=rE.cell (j:=4) rfl
 have e5:=rE.cell (j:=5) rfl
 have e6:=rE.cell (j:=6) rfl
 have o0:=rO.cell (j:=0) rfl
 have o1:=rO.cell (j:=1) rfl
 have o2:=rO.cell (j:=2) rfl
 have o3:=rO.cell (j:=3) rfl
 have dc0:=rD.cell (j:=0) rfl
 have dc1:=rD.cell (j:=1) rfl
 go_wp2_with fail
 all_goals (try (exfalso;omega))
 refine HH.out.mono ?_
 rintro r V3 ⟨rfl,hx3⟩
 rw [hh]
 obtain⟨hx1,hzz,rE,rO,rD,rR⟩:Ext w V3∧w.heap.size+4≤V3.heap.size∧RowIs V3 w.heap.size 37 [St ek,.slice A1 es.length n1,.slice A2 ec.length n2,.slice A3 ei.length n3,U x1,St x2,.bool x3] []∧RowIs V3 (w.heap.size+1) 42 [K8 dO,St k,I n,St tx] []∧RowIs V3 (w.heap.size+1+1) 97 [St d1,U dn] []∧RowIs V3 (w.heap.size+1+1+1) 37 [St [],.slice none 0 0,.slice none 0 0,.slice none 0 0,.int .u64 0,St [],.bool false] []:=⟨hx1.trans hx3,by have:=hx3.size;omega,rE.ext hx3,rO.ext hx3,rD.ext hx3,rR.ext hx3⟩
 clear hx3 HH
 have HCP:=Lib.hid (zee (HE.out.ext hx1) (Nat.le_trans sm.seen (by decide)) (Nat.le_trans sm.counts (by decide)) (Nat.le_trans sm.items (by decide)) (fun it hit=>Nat.le_trans (sm.dots it hit) (by omega)))
 have p0:=rE.cell (j:=0) rfl
 have p1:=rE.cell (j:=1) rfl
 have p2:=rE.cell (j:=2) rfl
 have p3:=rE.cell (j:=3) rfl
 have p4:=rE.cell (j:=4) rfl
 have p5:=rE.cell (j:=5) rfl
 have p6:=rE.cell (j:=6) rfl
 go_wp2_with fail
 refine HCP.out.mono ?_
 rintro r V4 ⟨u1,u2,u3,rfl,hu,hx4⟩
 have hzb:=hx4.size
 obtain⟨hx1,hzz,rE,rO,rD,rR⟩:Ext w V4∧w.heap.size+4≤V4.heap.size∧RowIs V4 w.heap.size 37 [St ek,.slice A1 es.length n1,.slice A2 ec.length n2,.slice A3 ei.length n3,U x1,St x2,.bool x3] []∧RowIs V4 (w.heap.size+1) 42 [K8 dO,St k,I n,St tx] []∧RowIs V4 (w.heap.size+1+1) 97 [St d1,U dn] []∧RowIs V4 (w.heap.size+1+1+1) 37 [St [],.slice none 0 0,.slice none 0 0,.slice none 0 0,.int .u64 0,St [],.bool false] []:=⟨hx1.trans hx4,by have:=hx4.size;omega,rE.ext hx4,rO.ext hx4,rD.ext hx4,rR.ext hx4⟩
 obtain⟨B1,m1,rfl,-,-⟩:=hu.seen.form
 obtain⟨B2,m2,rfl,-,-⟩:=hu.counts.form
 obtain⟨B3,m3,rfl,-,-⟩:=hu.items.form
 have HU:=Lib.hid (show EntAt V4 (fun b=>V3.heap.size≤b∧b < V4.heap.size) ⟨k,es,ec,ei,(x1,x2,x3)⟩ (.slice B1 es.length m1) (.slice B2 ec.length m2) (.slice B3 ei.length m3) from (show EntAt V4 (fun b=>V3.heap.size≤b) ⟨k,es,ec,ei,(x1,x2,x3)⟩ _ _ _ from ⟨hu.at.seen,hu.at.counts,hu.at.items⟩).mono fun b hb h=>⟨h,hb⟩)
 clear hx4 hu HCP
 have hlt1:w.heap.size+1 < V4.heap.size:=by omega
 have q0:=rO.cell (j:=0) rfl
 have q1:=rO.cell (j:=1) rfl
 have q2:=rO.cell (j:=2) rfl
 have q3:=rO.cell (j:=3) rfl
 go_wp2_with fail
 have rN:=zab V4 37 [St k,.slice B1 es.length m1,.slice B2 ec.length m2,.slice B3 ei.length m3,U x1,St x2,.bool x3]
 have hxa:=(Ext.refl V4).alloc (.cells #[St k,.slice B1 es.length m1,.slice B2 ec.length m2,.slice B3 ei.length m3,U x1,St x2,.bool x3] 37)
 have rO4:=rO.ext hxa
 have rD4:=rD.ext hxa
 have rR4:=rR.ext hxa
 have HU4:=Lib.hid (HU.out.ext hxa)
 have hx4:=hx1.trans hxa
 have hzn:=rN.lt
 generalize hW4:V4.alloc (.cells #[St k,.slice B1 es.length m1,.slice B2 ec.length m2,.slice B3 ei.length m3,U x1,St x2,.bool x3] 37)=W4 at *
 have hv4:=hxa.size
 clear hW4 rO rD rR rE hx1 hxa HU q0 q1 q2 q3
 refine zaz [fun v _=>v=opV (dO,k,n,tx),
  fun v _=>v=dotV (d1,dn),
  fun v W2=>∃ B m,W4.heap.size≤B∧B+6≤W2.heap.size∧UpdAt W2 B V4.heap.size n tx (d1,dn) m∧v = .map (some m),
  fun v _=>v = .pointer (some ⟨w.heap.size+1,1,none⟩),
  fun v _=>v=St k,
  fun v _=>v=K8 (zaj k),
  fun v W2=>∃ B m,W4.heap.size≤B∧B+6≤W2.heap.size∧UpdAt W2 B V4.heap.size n tx (d1,dn) m∧InnerIs W2 B (zaj k) v,
  fun v _=>v = .pointer (some ⟨w.heap.size+1,0,none⟩),
  fun v _=>v=K8 dO,
  fun v W2=>∃ B m,W4.heap.size≤B∧B+6≤W2.heap.size∧UpdAt W2 B V4.heap.size n tx (d1,dn) m∧v = .tuple #[(za5 B (zaj k) dO).getD .nilFunc,.bool (za5 B (zaj k) dO).isSome],
  fun v W2=>∃ B m,W4.heap.size≤B∧B+6≤W2.heap.size∧UpdAt W2 B V4.heap.size n tx (d1,dn) m∧v = .tuple #[(za5 B (zaj k) dO).getD .nilFunc,.bool (za5 B (zaj k) dO).isSome],
  fun v W2=>∃ B m,W4.heap.size≤B∧B+6≤W2.heap.size∧UpdAt W2 B V4.heap.size n tx (d1,dn) m∧v=(za5 B (zaj k) dO).getD .nilFunc,
  fun v _=>v = .bool (doE (zaj k) ⟨k,es,ec,ei,(x1,x2,x3)⟩ (dO,k,n,tx) (d1,dn)).isSome,
  fun v W2=>∃ B m,W4.heap.size≤B∧B+6≤W2.heap.size∧UpdAt W2 B V4.heap.size n tx (d1,dn) m∧v=(za5 B (zaj k) dO).getD .nilFunc] rfl (by kernel_rfl) ?hR ?hstep ?hend
 case hR =>
  simp only [List.mem_cons,List.not_mem_nil,or_false,forall_eq_or_imp,forall_eq]
  exact⟨fun v _ _ h _=>h,fun v _ _ h _=>h,fun v _ _ h he=>by obtain⟨B,m,h1,h2,h3,h4⟩:=h;exact⟨B,m,h1,Nat.le_trans h2 he.size,h3.ext he,h4⟩,fun v _ _ h _=>h,fun v _ _ h _=>h,fun v _ _ h _=>h,fun v _ _ h he=>by obtain⟨B,m,h1,h2,h3,h4⟩:=h;exact⟨B,m,h1,Nat.le_trans h2 he.size,h3.ext he,h4.ext he⟩,fun v _ _ h _=>h,fun v _ _ h _=>h,fun v _ _ h he=>by obtain⟨B,m,h1,h2,h3,h4⟩:=h;exact⟨B,m,h1,Nat.le_trans h2 he.size,h3.ext he,h4⟩,fun v _ _ h he=>by obtain⟨B,m,h1,h2,h3,h4⟩:=h;exact⟨B,m,h1,Nat.le_trans h2 he.size,h3.ext he,h4⟩,fun v _ _ h he=>by obtain⟨B,m,h1,h2,h3,h4⟩:=h;exact⟨B,m,h1,Nat.le_trans h2 he.size,h3.ext he,h4⟩,fun v _ _ h _=>h,fun v _ _ h he=>by obtain⟨B,m,h1,h2,h3,h4⟩:=h;exact⟨B,m,h1,Nat.le_trans h2 he.size,h3.ext he,h4⟩⟩
 case hstep =>
  simp only [List.length_cons,List.length_nil,Nat.reduceAdd,List.take_succ_cons,List.take_zero,zbn,and_true]
  refine ⟨?_,?_,?_,?_,?_,?_,?_,?_,?_,?_,?_,?_,?_,?_⟩
  ·intro x W he f
   have h:x 4 = .pointer (some ⟨w.heap.size+1,0,none⟩):=f.1
   have q0:=(rO4.ext he).cell (j:=0) rfl
   have q1:=(rO4.ext he).cell (j:=1) rfl
   have q2:=(rO4.ext he).cell (j:=2) rfl
   have q3:=(rO4.ext he).cell (j:=3) rfl
   go_wp
   exact zaa rfl (Ext.refl _)
  ·intro x W he f
   have h:x 5 = .pointer (some ⟨w.heap.size+1+1,0,none⟩):=f.1
   have q0:=(rD4.ext he).cell (j:=0) rfl
   have q1:=(rD4.ext he).cell (j:=1) rfl
   go_wp
   exact zaa rfl (Ext.refl _)
  ·intro x W he f
   have h8:x 8 = .pointer (some ⟨V4.heap.size,0,none⟩):=f.1
   have h54:x 54=opV (dO,k,n,tx):=f.2.1
   have h55:x 55=dotV (d1,dn):=f.2.2.1
   have hs:=he.size
   have HC:=Lib.hid (zkd (W:=W) (E:=V4.heap.size) k dO n tx (d1,dn))
   go_wp
   refine HC.out.mono ?_
   rintro r W2 ⟨m,rfl,hU,hz,hx2⟩
   dsimp only
   go_wp
   exact zaa (v:=.map (some m)) ⟨W.heap.size,m,hs,hz,hU,rfl⟩ hx2
  ·intro x W he f
   have h:x 4 = .pointer (some ⟨w.heap.size+1,0,none⟩):=f.1
   go_wp
   exact zaa rfl (Ext.refl _)
  ·intro x W he f
   have h:x 57 = .pointer (some ⟨w.heap.size+1,1,none⟩):=f.1
   have q1:=(rO4.ext he).cell (j:=1) rfl
   go_wp
   exact zaa rfl (Ext.refl _)
  ·intro x W he f
   have h:x 58=St k:=f.1
   have HC:=Lib.hid (zhc k W)
   go_wp
   refine HC.out.mono ?_
   rintro r W2 ⟨rfl,hx2⟩
   dsimp only
   go_wp
   exact zaa rfl hx2
  ·intro x W he f
   obtain⟨B,m,b1,b2,hU,h⟩:∃ B m,W4.heap.size≤B∧B+6≤W.heap.size∧UpdAt W B V4.heap.size n tx (d1,dn) m∧x 56 = .map (some m):=f.1
   have h59:x 59=K8 (zaj k):=f.2.1
   obtain⟨u,hu1,hu2⟩:=zoe hU (zaj k)
   have hl:=hu1 W (Ext.refl _)
   go_wp
   exact zaa (v:=u) ⟨B,m,b1,b2,hU,hu2⟩ (Ext.refl _)
  ·intro x W he f
   have h:x 4 = .pointer (some ⟨w.heap.size+1,0,none⟩):=f.1
   go_wp
   exact zaa rfl (Ext.refl _)
  ·intro x W he f
   have h:x 61 = .pointer (some ⟨w.heap.size+1,0,none⟩):=f.1
   have q0:=(rO4.ext he).cell (j:=0) rfl
   go_wp
   exact zaa rfl (Ext.refl _)
  ·intro x W he f
   obtain⟨B,m,b1,b2,hU,hI⟩:∃ B m,W4.heap.size≤B∧B+6≤W.heap.size∧UpdAt W B V4.heap.size n tx (d1,dn) m∧InnerIs W B (zaj k) (x 60):=f.1
   have h62:x 62=K8 dO:=f.2.1
   have hl:=hI W (Ext.refl _) dO
   go_wp
   exact zaa ⟨B,m,b1,b2,hU,rfl⟩ (Ext.refl _)
  ·intro x W he f
   obtain⟨B,m,b1,b2,hU,h⟩:∃ B m,W4.heap.size≤B∧B+6≤W.heap.size∧UpdAt W B V4.heap.size n tx (d1,dn) m∧x 63 = .tuple #[(za5 B (zaj k) dO).getD .nilFunc,.bool (za5 B (zaj k) dO).isSome]:=f.1
   go_wp
   exact zaa ⟨B,m,b1,b2,hU,rfl⟩ (Ext.refl _)
  ·intro x W he f
   obtain⟨B,m,b1,b2,hU,h⟩:∃ B m,W4.heap.size≤B∧B+6≤W.heap.size∧UpdAt W B V4.heap.size n tx (d1,dn) m∧x 53 = .tuple #[(za5 B (zaj k) dO).getD .nilFunc,.bool (za5 B (zaj k) dO).isSome]:=f.1
   go_wp
   exact zaa ⟨B,m,b1,b2,hU,rfl⟩ (Ext.refl _)
  ·intro x W he f
   obtain⟨B,m,b1,b2,hU,h⟩:∃ B m,W4.heap.size≤B∧B+6≤W.heap.size∧UpdAt W B V4.heap.size n tx (d1,dn) m∧x 53 = .tuple #[(za5 B (zaj k) dO).getD .nilFunc,.bool (za5 B (zaj k) dO).isSome]:=f.1
   rw [zlj B (zaj k) ⟨k,es,ec,ei,(x1,x2,x3)⟩ (dO,k,n,tx) (d1,dn)] at h
   go_wp
   exact zaa rfl (Ext.refl _)
  ·intro x W he f
   obtain⟨B,m,b1,b2,hU,h⟩:∃ B m,W4.heap.size≤B∧B+6≤W.heap.size∧UpdAt W B V4.heap.size n tx (d1,dn) m∧x 64=(za5 B (zaj k) dO).getD .nilFunc:=f.1
   go_wp
   first | exact zaa ⟨B,m,b1,b2,hU,rfl⟩ (Ext.refl _) | exact zaa ⟨B,m,b1,b2,hU,h⟩ (Ext.refl _)
 case hend =>
  intro x W he f
  obtain⟨B,m,hB1,hB2,hU,h9⟩:∃ B m,W4.heap.size≤B∧B+6≤W.heap.size∧UpdAt W B V4.heap.size n tx (d1,dn) m∧x 9=(za5 B (zaj k) dO).getD .nilFunc:=f.2.2.2.2.2.2.2.2.2.2.2.2.2.1
  have h65:x 65 = .bool (doE (zaj k) ⟨k,es,ec,ei,(x1,x2,x3)⟩ (dO,k,n,tx) (d1,dn)).isSome:=f.2.2.2.2.2.2.2.2.2.2.2.2.1
  clear f
  have hx5:=hx4.trans he
  have rN5:=rN.ext he
  have rD5:=rD4.ext he
  have rR:=rR4.ext he
  have HU5:=Lib.hid (HU4.out.ext he)
  have HRE:=Lib.hid (show zch ⟨k,es,ec,ei,(x1,x2,x3)⟩ (dO,k,n,tx) (d1,dn)=match (doE (zaj k) ⟨k,es,ec,ei,(x1,x2,x3)⟩ (dO,k,n,tx) (d1,dn)) with | none=>(zad,150) | some p=>if p.2=0 then ({ p.1 with seen:=setM p.1.seen d1 dn },0) else (zad,p.2) from rfl)
  have HDO:=zs8 (kk:=zaj k) (o:=(dO,k,n,tx)) (d:=(d1,dn)) (e:=⟨k,es,ec,ei,(x1,x2,x3)⟩) hU hn1 hn2 (Nat.lt_of_le_of_lt sm.counts (by decide)) (Nat.lt_of_le_of_lt sm.places (by decide)) rN5 HU5.out (fun b hb=>⟨by omega,by omega⟩) (by omega)
  have hse:=@zhe (zaj k) ⟨k,es,ec,ei,(x1,x2,x3)⟩ (dO,k,n,tx) (d1,dn)
  generalize doE (zaj k) ⟨k,es,ec,ei,(x1,x2,x3)⟩ (dO,k,n,tx) (d1,dn)=Dd at *
  clear hU he rO4 rD4 rR4 HU4 rN hx4
  cases Dd with
  | none =>
   clear HDO h9 hse
   have HRE2:=Lib.hid HRE.out
   have r0:=rR.cell (j:=0) rfl
   have r1:=rR.cell (j:=1) rfl
   have r2:=rR.cell (j:=2) rfl
   have r3:=rR.cell (j:=3) rfl
   have r4:=rR.cell (j:=4) rfl
   have r5:=rR.cell (j:=5) rfl
   have r6:=rR.cell (j:=6) rfl
   have f0:=rR.frozen 0
   have f1:=rR.frozen 1
   have f2:=rR.frozen 2
   have f3:=rR.frozen 3
   have f4:=rR.frozen 4
   have f5:=rR.frozen 5
   have f6:=rR.frozen 6
   have HX:=Lib.hid hx5
   simp only [Option.isSome_none] at h65
   clear rN5 rD5 HU5 HRE
   simp only [List.length_cons,List.length_nil,Nat.reduceAdd,List.take_succ_cons,List.take_zero,List.filterMap_cons,List.filterMap_nil,List.drop_succ_cons,List.drop_zero,zau,Act.put,List.setIfInBounds_toArray,List.set_cons_succ,List.set_cons_zero,h65]
   go_wp
   go_wp2_with fail
   (try simp only [Exit.inBlock,Exit.then])
   refine bodyPost_ret (v:=.tuple #[entV zad (.slice none 0 0) (.slice none 0 0) (.slice none 0 0),I 150]) (by simp [results,Tryz.f42,go_sem,entV,entC,zad,r0,r1,r2,r3,r4,r5,r6]) rfl ?_
   have hp:=za8 (q:=w.heap.size+1+1+1) HX.out (by omega) zad (.slice none 0 0) (.slice none 0 0) (.slice none 0 0)
   refine ⟨.slice none 0 0,.slice none 0 0,.slice none 0 0,by (rw [HRE2.out];try rfl),?_⟩
   rw [HRE2.out]
   exact⟨EntAt.none _ _ _ _ _,hp⟩
  | some p =>
   obtain⟨e1,err⟩:=p
   have HS1:=Lib.hid (hse rfl)
   simp only [Option.isSome_some] at h65
   cases hc:za5 B (zaj k) dO with
   | none=>rw [hc] at HDO;exact HDO.elim
   | some c =>
    rw [hc] at HDO h9
    obtain⟨fn,cap,rfl,hen,HCC⟩:=HDO
    simp only [Option.getD_some] at h9
    have HC:=Lib.hid HCC
    clear HCC hc hse
    simp only [List.length_cons,List.length_nil,Nat.reduceAdd,List.take_succ_cons,List.take_zero,List.filterMap_cons,List.filterMap_nil,List.drop_succ_cons,List.drop_zero,zau,Act.put,List.setIfInBounds_toArray,List.set_cons_succ,List.set_cons_zero,h65,h9]
    go_wp
    go_wp2_with fail
    refine HC.out.mono ?_
    rintro r W6 ⟨rfl,hD⟩
    obtain⟨t2,t3,hE6,hA6,hk6⟩:=hD
    have hx6:=hx5.kept2 hk6 (by omega) (by omega)
    have rR6:=rR.keep (hk6.other _ rR.lt (by omega) (by omega))
    have rD6:=rD5.keep (hk6.other _ rD5.lt (by omega) (by omega))
    have hz6:=hk6.size
    clear HC rR rD5 rN5 HU5 hx5 hk6 hen
    by_cases herr:err=0
    ·subst herr
     have HRE2:=Lib.hid (show zch ⟨k,es,ec,ei,(x1,x2,x3)⟩ (dO,k,n,tx) (d1,dn)=({ e1 with seen:=setM e1.seen d1 dn },0) from HRE.out)
     have HS:=Lib.hid (zh1 d1 dn hA6.seen (by rw [HS1.out.1];exact Nat.le_trans sm.seen (by decide)))
     obtain⟨T2,t2n,rfl,-,-⟩:=hA6.counts.form
     obtain⟨T3,t3n,rfl,-,-⟩:=hA6.items.form
     have k1:=hE6.cell (j:=1) rfl
     have dd0:=rD6.cell (j:=0) rfl
     have dd1:=rD6.cell (j:=1) rfl
     have HA6:=Lib.hid hA6
     clear hA6 HRE
     go_wp2_with fail
     refine HS.out.mono ?_
     rintro r W7 ⟨u,rfl,ho,hx7⟩
     obtain⟨U1,un,rfl,-,-⟩:=ho.form
     have hE7:=hE6.ext hx7
     have rR7:=rR6.ext hx7
     have hf7:=hE7.frozen 1
     have hc7:=hE7.cell (j:=1) rfl
     have hsz7:=hx7.size
     have hE8:=hE7.set (j:=1) (by simp) (.slice U1 (setM e1.seen d1 dn).length un)
     have rR8:=rR7.other (p:=⟨V4.heap.size,1,none⟩) (by simp;omega) (.slice U1 (setM e1.seen d1 dn).length un)
     simp only [List.set_cons_succ,List.set_cons_zero] at hE8
     have y0:=hE7.cell (j:=0) rfl
     have y1:=hE7.cell (j:=1) rfl
     have y2:=hE7.cell (j:=2) rfl
     have y3:=hE7.cell (j:=3) rfl
     have y4:=hE7.cell (j:=4) rfl
     have y5:=hE7.cell (j:=5) rfl
     have y6:=hE7.cell (j:=6) rfl
     have rr0:=rR7.cell (j:=0) rfl
     have rr1:=rR7.cell (j:=1) rfl
     have rr2:=rR7.cell (j:=2) rfl
     have rr3:=rR7.cell (j:=3) rfl
     have rr4:=rR7.cell (j:=4) rfl
     have rr5:=rR7.cell (j:=5) rfl
     have rr6:=rR7.cell (j:=6) rfl
     have ff0:=rR7.frozen 0
     have ff1:=rR7.frozen 1
     have ff2:=rR7.frozen 2
     have ff3:=rR7.frozen 3
     have ff4:=rR7.frozen 4
     have ff5:=rR7.frozen 5
     have ff6:=rR7.frozen 6
     have z0:=hE8.cell (j:=0) rfl
     have z1:=hE8.cell (j:=1) rfl
     have z2:=hE8.cell (j:=2) rfl
     have z3:=hE8.cell (j:=3) rfl
     have z4:=hE8.cell (j:=4) rfl
     have z5:=hE8.cell (j:=5) rfl
     have z6:=hE8.cell (j:=6) rfl
     have r0:=rR8.cell (j:=0) rfl
     have r1:=rR8.cell (j:=1) rfl
     have r2:=rR8.cell (j:=2) rfl
     have r3:=rR8.cell (j:=3) rfl
     have r4:=rR8.cell (j:=4) rfl
     have r5:=rR8.cell (j:=5) rfl
     have r6:=rR8.cell (j:=6) rfl
     have f0:=rR8.frozen 0
     have f1:=rR8.frozen 1
     have f2:=rR8.frozen 2
     have f3:=rR8.frozen 3
     have f4:=rR8.frozen 4
     have f5:=rR8.frozen 5
     have f6:=rR8.frozen 6
     have HX:=Lib.hid (((hx6.trans hx7).set (p:=⟨V4.heap.size,1,none⟩) (by simp;omega) (.slice U1 (setM e1.seen d1 dn).length un)))
     have HO:=Lib.hid ho
     have HX7:=Lib.hid hx7
     clear hE6 hE7 hE8 rR6 rR7 rR8 rD6 ho hx7 hx6 HS k1 dd0 dd1
     go_wp2_with fail
     (try simp only [Exit.inBlock,Exit.then])
     refine bodyPost_ret (v:=.tuple #[entV { e1 with seen:=setM e1.seen d1 dn } (.slice U1 (setM e1.seen d1 dn).length un) (.slice T2 e1.counts.length t2n) (.slice T3 e1.items.length t3n),I 0]) (by simp [results,Tryz.f42,go_sem,entV,entC,r0,r1,r2,r3,r4,r5,r6,rr0,rr1,rr2,rr3,rr4,rr5,rr6]) rfl ?_
     have hp:=za8 (q:=w.heap.size+1+1+1) HX.out (by omega) { e1 with seen:=setM e1.seen d1 dn } (.slice U1 (setM e1.seen d1 dn).length un) (.slice T2 e1.counts.length t2n) (.slice T3 e1.items.length t3n)
     refine ⟨.slice U1 (setM e1.seen d1 dn).length un,.slice T2 e1.counts.length t2n,.slice T3 e1.items.length t3n,by (rw [HRE2.out];try rfl),?_⟩
     rw [HRE2.out]
     refine ⟨?_,hp⟩
     have hkp:∀ b,b ≠ V4.heap.size→b ≠ w.heap.size+1+1+1→(put7 (W7.setCell ⟨V4.heap.size,1,none⟩ (.slice U1 (setM e1.seen d1 dn).length un)) (w.heap.size+1+1+1) { e1 with seen:=setM e1.seen d1 dn } (.slice U1 (setM e1.seen d1 dn).length un) (.slice T2 e1.counts.length t2n) (.slice T3 e1.items.length t3n)).heap[b]? = W7.heap[b]?:=fun b h1 h2 =>
      (zdi _ _ _ _ _ _ b h2).trans (Below.heap_setCell _ _ _ _ h1)
     have hA7:=HA6.out.ext HX7.out
     refine ⟨?_,?_,?_⟩
     ·exact (za6 (HO.out.keep fun b hb _=>hkp b (by have:=(HO.out.base_le hb).1;omega) (by have:=(HO.out.base_le hb).1;omega))).mono (by decide) fun b _ h=>by omega
     ·exact (hA7.counts.keep (by decide) fun b hb _=>hkp b (by rcases hb with hb | hb <;> omega) (by rcases hb with hb | hb <;> omega)).mono (by decide) fun b _ hb=>by rcases hb with hb | hb <;> omega
     ·exact (hA7.items.keep (by decide) fun b hb _=>hkp b (by rcases hb with hb | hb <;> omega) (by rcases hb with hb | hb <;> omega)).mono (by decide) fun b _ hb=>by rcases hb with hb | hb <;> omega
    ·have HRE2:=Lib.hid (show zch ⟨k,es,ec,ei,(x1,x2,x3)⟩ (dO,k,n,tx) (d1,dn)=(zad,err) by rw [HRE.out];exact if_neg herr)
     have hne2:((err:Int) == 0)=false:=neI (by omega)
     have r0:=rR6.cell (j:=0) rfl
     have r1:=rR6.cell (j:=1) rfl
     have r2:=rR6.cell (j:=2) rfl
     have r3:=rR6.cell (j:=3) rfl
     have r4:=rR6.cell (j:=4) rfl
     have r5:=rR6.cell (j:=5) rfl
     have r6:=rR6.cell (j:=6) rfl
     have f0:=rR6.frozen 0
     have f1:=rR6.frozen 1
     have f2:=rR6.frozen 2
     have f3:=rR6.frozen 3
     have f4:=rR6.frozen 4
     have f5:=rR6.frozen 5
     have f6:=rR6.frozen 6
     have HX:=Lib.hid hx6
     clear hE6 hA6 rD6 HRE hx6 rR6
     go_wp2_with fail
     (try simp only [Exit.inBlock,Exit.then])
     refine bodyPost_ret (v:=.tuple #[entV zad (.slice none 0 0) (.slice none 0 0) (.slice none 0 0),I err]) (by simp [results,Tryz.f42,go_sem,entV,entC,zad,r0,r1,r2,r3,r4,r5,r6]) rfl ?_
     have hp:=za8 (q:=w.heap.size+1+1+1) HX.out (by omega) zad (.slice none 0 0) (.slice none 0 0) (.slice none 0 0)
     refine ⟨.slice none 0 0,.slice none 0 0,.slice none 0 0,by (rw [HRE2.out];try rfl),?_⟩
     rw [HRE2.out]
     exact⟨EntAt.none _ _ _ _ _,hp⟩
theorem SmallE.key {e:Entry} (h:SmallE e) (k:Str):SmallE { e with key:=k }:=⟨h.seen,h.counts,h.items,h.dots,h.places⟩
theorem zu7 {S:Nat→Prop} {e:Entry} {v1 v2 v3:Value} {w:World} (o:OpD) (d:Dot) (h:EntAt w S e v1 v2 v3) (sm:SmallE e) (hn1:-9223372036854775808≤o.2.2.1) (hn2:o.2.2.1≤9223372036854775807) :
  Calls Tryz.prog 42 #[entV e v1 v2 v3,opV o,dotV d] w fun r w'=>∃ u1 u2 u3,r = .returned (.tuple #[entV (updE e o d).1 u1 u2 u3,I (updE e o d).2])∧EntAt w' (fun b=>w.heap.size≤b) (updE e o d).1 u1 u2 u3∧Ext w w':=by
 obtain⟨ek,es,ec,ei,x1,x2,x3⟩:=e
 obtain⟨dO,k,n,tx⟩:=o
 obtain⟨d1,dn⟩:=d
 obtain⟨A1,n1,rfl,-,-⟩:=h.seen.form
 obtain⟨A2,n2,rfl,-,-⟩:=h.counts.form
 obtain⟨A3,n3,rfl,-,-⟩:=h.items.form
 have bad:∀ c:Nat,updE ⟨ek,es,ec,ei,x1,x2,x3⟩ (dO,k,n,tx) (d1,dn)=(zad,c)→Calls Tryz.prog 42 #[.agg #[St ek,.slice A1 es.length n1,.slice A2 ec.length n2,.slice A3 ei.length n3,U x1,St x2,.bool x3],.agg #[K8 dO,St k,I n,St tx],.agg #[St d1,U dn]] w (fun r w'=>r = .returned (.tuple #[entV zad (.slice none 0 0) (.slice none 0 0) (.slice none 0 0),I c])∧Ext w w') →
   Calls Tryz.prog 42 #[.agg #[St ek,.slice A1 es.length n1,.slice A2 ec.length n2,.slice A3 ei.length n3,U x1,St x2,.bool x3],.agg #[K8 dO,St k,I n,St tx],.agg #[St d1,U dn]] w fun r w'=>∃ u1 u2 u3,r = .returned (.tuple #[entV (updE ⟨ek,es,ec,ei,x1,x2,x3⟩ (dO,k,n,tx) (d1,dn)).1 u1 u2 u3,I (updE ⟨ek,es,ec,ei,x1,x2,x3⟩ (dO,k,n,tx) (d1,dn)).2])∧EntAt w' (fun b=>w.heap.size≤b) (updE ⟨ek,es,ec,ei,x1,x2,x3⟩ (dO,k,n,tx) (d1,dn)).1 u1 u2 u3∧Ext w w':=fun c hc H=>by
  rw [hc]
  refine H.mono ?_
  rintro r w' ⟨rfl,hx⟩
  exact⟨_,_,_,rfl,EntAt.none _ _ _ _ _,hx⟩
 cases hk:keyS k with
 | false=>exact bad 10 (by simp [updE,hk]) (zq2 dO k n tx d1 dn h hk)
 | true =>
  have ways:ek=k ∨ ((ek == k)=false∧zav ⟨ek,es,ec,ei,x1,x2,x3⟩ zad=true) ∨ ((ek == k)=false∧zav ⟨ek,es,ec,ei,x1,x2,x3⟩ zad=false):=by
   by_cases he:ek=k
   ·exact .inl he
   ·cases hs:zav ⟨ek,es,ec,ei,x1,x2,x3⟩ zad
    ·exact .inr (.inr ⟨by simpa using he,rfl⟩)
    ·exact .inr (.inl ⟨by simpa using he,rfl⟩)
  have hok:ek=k ∨ ((ek == k)=false∧zav ⟨ek,es,ec,ei,x1,x2,x3⟩ zad=true)→¬ (ek ≠ k∧zav ⟨ek,es,ec,ei,x1,x2,x3⟩ zad=false):=by
   rintro (h | ⟨-,h⟩) ⟨h1,h2⟩
   ·exact h1 h
   ·rw [h] at h2;cases h2
  rcases ways with he | ⟨hne,hs⟩ | ⟨hne,hs⟩
  ·have hno:=hok (.inl he)
   by_cases hd:d1 = []
   ·exact bad 2 (by simp only [updE,hk,if_neg hno,hd];simp) (zph dO k n tx d1 dn h hk he hd)
   ·have hdb:(d1 == [])=false:=by simpa using hd
    by_cases h2:dn < 1
    ·exact bad 2 (by simp only [updE,hk,if_neg hno,h2];simp) (zpi dO k n tx d1 dn h hk he hdb (by omega))
    ·by_cases h3:281474976710656 < dn
     ·exact bad 2 (by simp only [updE,hk,if_neg hno,h3];simp) (zpj dO k n tx d1 dn h hk he hdb (by omega) (by omega))
     ·cases hh:hasM es (d1,dn)
      ·have hu:updE ⟨ek,es,ec,ei,x1,x2,x3⟩ (dO,k,n,tx) (d1,dn)=zch ⟨k,es,ec,ei,x1,x2,x3⟩ (dO,k,n,tx) (d1,dn):=by
        unfold updE
        rw [if_neg (by simp [hk]),if_neg hno,if_neg (by simp [hd,h2,h3,hh])]
       rw [hu]
       exact zu6 dO k n tx d1 dn h hk he hdb (by omega) (by omega) hh sm hn1 hn2
      ·exact bad 2 (by simp only [updE,hk,if_neg hno,hh];simp) (ztb dO k n tx d1 dn h hk he hdb (by omega) (by omega) hh)
  ·have hno:=hok (.inr ⟨hne,hs⟩)
   by_cases hd:d1 = []
   ·exact bad 2 (by simp only [updE,hk,if_neg hno,hd];simp) (znk dO k n tx d1 dn h hk hne hs hd)
   ·have hdb:(d1 == [])=false:=by simpa using hd
    by_cases h2:dn < 1
    ·exact bad 2 (by simp only [updE,hk,if_neg hno,h2];simp) (znl dO k n tx d1 dn h hk hne hs hdb (by omega))
    ·by_cases h3:281474976710656 < dn
     ·exact bad 2 (by simp only [updE,hk,if_neg hno,h3];simp) (znm dO k n tx d1 dn h hk hne hs hdb (by omega) (by omega))
     ·cases hh:hasM es (d1,dn)
      ·have hu:updE ⟨ek,es,ec,ei,x1,x2,x3⟩ (dO,k,n,tx) (d1,dn)=zch ⟨k,es,ec,ei,x1,x2,x3⟩ (dO,k,n,tx) (d1,dn):=by
        unfold updE
        rw [if_neg (by simp [hk]),if_neg hno,if_neg (by simp [hd,h2,h3,hh])]
       rw [hu]
       exact zq3 dO k n tx d1 dn h hk hne hs hdb (by omega) (by omega) hh sm hn1 hn2
      ·exact bad 2 (by simp only [updE,hk,if_neg hno,hh];simp) (zpk dO k n tx d1 dn h hk hne hs hdb (by omega) (by omega) hh)
  ·exact bad 2 (by simp only [updE,hk];rw [if_neg (by simp),if_pos ⟨by simpa using hne,hs⟩]) (zta dO k n tx d1 dn h hk hne hs)
end
section
open Go.RowKit Go.Shelf
abbrev valC (k:Nat) (n:Int) (l:Value) (t:Str) (is:Bool):Value:=.agg #[K8 k,I n,l,St t,.bool is]
theorem zw2 (n N:Int) (A:Option Addr) (a c:Nat) (t:Str) (z:Bool) (w:World) :
  Calls Tryz.prog 38 #[.iface 2 (I n),valC 1 N (.slice A a c) t z] w fun r w'=>r = .returned (.bool (decide (n=N)))∧Ext w w':=by
 have hta:=fun W=>zls (P:=Tryz.prog) (x:=20) (v:=I n) W Tryz.underlying2 (by simp)
 by_cases h:n=N
 ·subst h
  go_enter Tryz.func38,Tryz.ntmps38
  go_wp2
  go_ret
  exact⟨by simp,(Ext.refl _).alloc _⟩
 ·have h':(n == N)=false:=by simpa using h
  go_enter Tryz.func38,Tryz.ntmps38
  go_wp2
  go_ret
  exact⟨by simp [h],(Ext.refl _).alloc _⟩
end
section
def zme (l:List zak):Prop:=l.Pairwise fun a b=>ltS a.1 b.1=true
def zht (l:List zak):Prop:=zme l∧∀ c ∈ l,¬ (c.2.1=0∧c.2.2=0)
theorem zjk:∀ (l:List zak) (o:Option Str),zck o l=true↔zht l∧∀ s,o=some s→∀ c ∈ l,ltS s c.1=true
 | [],o=>by simp [zck,zht,zme]
 | c :: r,o=>by
  have ih:=zjk r (some c.1)
  unfold zck
  rw [Bool.and_eq_true,Bool.and_eq_true,ih]
  have h0:((!(c.2.1 == 0 && c.2.2 == 0))=true)↔¬ (c.2.1=0∧c.2.2=0):=by simp only [Bool.not_eq_true',Bool.and_eq_false_iff,beq_eq_false_iff_ne];omega
  rw [h0]
  constructor
  ·rintro⟨⟨h1,h2⟩,⟨h3,h4⟩,h5⟩
   have h5':=h5 c.1 rfl
   refine ⟨⟨List.pairwise_cons.2 ⟨h5',h3⟩,fun x hx=>?_⟩,fun s hs x hx=>?_⟩
   ·rcases List.mem_cons.1 hx with rfl | hx
    ·exact h1
    ·exact h4 x hx
   ·subst hs
    rcases List.mem_cons.1 hx with rfl | hx
    ·exact h2
    ·exact zax h2 (h5' x hx)
  ·rintro⟨⟨h1,h2⟩,h3⟩
   refine ⟨⟨h2 c (by simp),?_⟩,⟨(List.pairwise_cons.1 h1).2,fun x hx=>h2 x (by simp [hx])⟩,fun s hs=>?_⟩
   ·cases o with
    | none=>rfl
    | some s=>exact h3 s rfl c (by simp)
   ·cases hs
    exact (List.pairwise_cons.1 h1).1
theorem mayL_iff {l:List zak}:mayL l=true↔zht l:=by
 unfold mayL
 rw [zjk]
 simp
theorem zrf {l:List Str} (hn:l.Nodup):(zbf l).Pairwise fun a b=>ltS a b=true:=by
 have h1:=zfw l
 have h2:(zbf l).Nodup:=(zde l).nodup_iff.2 hn
 exact (h1.and h2).imp fun {a b} h=>by
  rcases zcj a b with k | k | k
  ·exact k
  ·exact absurd k h.2
  ·rw [h.1] at k;cases k
theorem listL_mem {Lp Lm:List (Str × Nat)} {c:zak}:c ∈ zew Lp Lm↔c.1 ∈ Lp.map Prod.fst∧¬ (getL 0 Lp c.1=0∧getL 0 Lm c.1=0)∧c.2=(getL 0 Lp c.1,getL 0 Lm c.1):=by
 obtain⟨k,n,m⟩:=c
 unfold zew zbm
 rw [List.mem_map]
 constructor
 ·rintro⟨x,hx,he⟩
  obtain⟨h1,h2⟩:=List.mem_filter.1 hx
  injection he with e1 e2
  subst e1
  refine ⟨(zde _).mem_iff.1 h1,?_,e2.symm⟩
  rintro⟨h3,h4⟩
  simp [h3,h4] at h2
 ·rintro⟨h1,h2,h3⟩
  refine ⟨k,List.mem_filter.2 ⟨(zde _).mem_iff.2 h1,?_⟩,by simp only at h3;rw [h3]⟩
  by_cases h:getL 0 Lp k=0
  ·have:getL 0 Lm k ≠ 0:=fun h'=>h2 ⟨h,h'⟩
   simp [this]
  ·simp [h]
theorem zrg {Lp Lm:List (Str × Nat)} (hn:(Lp.map Prod.fst).Nodup):zht (zew Lp Lm):=by
 refine ⟨?_,fun c hc=>?_⟩
 ·unfold zew zbm zme
  rw [List.pairwise_map]
  exact (zrf hn).filter _
 ·obtain⟨-,h2,h3⟩:=listL_mem.1 hc
  rw [h3]
  exact h2
theorem zlu (f:Nat→Nat→Nat) {L:List (Str × Nat)} (h:(L.map Prod.fst).Nodup) (c:zak):((putP f L c).map Prod.fst).Nodup:=zih h _ _
theorem zol {L:List (Str × Nat)} {k s:Str} {v:Nat}:s ∈ (putL L k v).map Prod.fst↔s=k ∨ s ∈ L.map Prod.fst:=by
 rw [zhl]
 by_cases h:k ∈ L.map Prod.fst
 ·rw [if_pos h]
  constructor
  ·exact .inr
  ·rintro (rfl | h')
   ·exact h
   ·exact h'
 ·rw [if_neg h,List.mem_append,List.mem_singleton]
  exact⟨fun h=>h.symm,fun h=>h.symm⟩
theorem zhz:∀ (cs:List zak) (L:List (Str × Nat)),(L.map Prod.fst).Nodup→((cs.foldl (putP max) L).map Prod.fst).Nodup∧∀ s,s ∈ (cs.foldl (putP max) L).map Prod.fst↔(∃ c ∈ cs,c.1=s) ∨ s ∈ L.map Prod.fst
 | [],L,h=>⟨h,fun s=>by simp⟩
 | c :: r,L,h=>by
  obtain⟨h1,h2⟩:=zhz r (putP max L c) (zlu _ h c)
  refine ⟨h1,fun s=>?_⟩
  rw [List.foldl_cons,h2]
  unfold putP
  rw [zol]
  constructor
  ·rintro (⟨x,hx,he⟩ | h | h)
   ·exact .inl ⟨x,by simp [hx],he⟩
   ·exact .inl ⟨c,by simp,h.symm⟩
   ·exact .inr h
  ·rintro (⟨x,hx,he⟩ | h)
   ·rcases List.mem_cons.1 hx with rfl | hx
    ·exact .inr (.inl he.symm)
    ·exact .inl ⟨x,hx,he⟩
   ·exact .inr (.inr h)
theorem zom (cs:List zak):((zbe cs).map Prod.fst).Nodup:=(zhz cs [] (by simp)).1
theorem plusOf_key {cs:List zak} {s:Str}:s ∈ (zbe cs).map Prod.fst↔∃ c ∈ cs,c.1=s:=by
 rw [show zbe cs=cs.foldl (putP max) [] from rfl,(zhz cs [] (by simp)).2]
 simp
theorem ztr (l:List zak) (s:Str) (n:Int):zht (addL l s n):=zrg (zlu _ (zom l) _)
theorem zts {l:List zak} {s:Str} {n:Int} {c:zak} (h:c ∈ addL l s n):c.1=s ∨ ∃ x ∈ l,x.1=c.1:=by
 have h1:=(listL_mem.1 h).1
 unfold putP at h1
 rw [zol] at h1
 rcases h1 with h1 | h1
 ·exact .inl h1
 ·exact .inr (plusOf_key.1 h1)
theorem zna {l:List zak} {s:Str} {n:Int} (h:(addC l s n).2=0):zht (addC l s n).1∧∀ c ∈ (addC l s n).1,c.1=s ∨ ∃ x ∈ l,x.1=c.1:=by
 unfold addC at h ⊢
 by_cases ha:zlb l s n=true
 ·rw [if_pos ha]
  exact⟨ztr l s n,fun c hc=>zts hc⟩
 ·rw [if_neg ha] at h
  cases h
theorem ztt {l:List zak} {s:Str} (h:(delC l s).2=0):zht (delC l s).1∧∀ c ∈ (delC l s).1,c.1=s ∨ ∃ x ∈ l,x.1=c.1:=by
 unfold delC at h ⊢
 by_cases ha:zcu l = -9223372036854775808
 ·rw [if_pos ha] at h
  cases h
 ·rw [if_neg ha] at h ⊢
  exact zna h
theorem zlv {c:Cell} {t:Str} {g:Bool} (h:(zar c t g).2=0):mayC (zar c t g).1=true:=by
 unfold zar at h ⊢
 by_cases h1:4096 < t.length
 ·rw [if_pos h1] at h;cases h
 ·rw [if_neg h1] at h ⊢
  by_cases h2:281474976710656≤c.1
  ·rw [if_pos h2] at h;cases h
  ·rw [if_neg h2]
   unfold mayC
   simp only [Nat.add_eq_zero_iff,Nat.one_ne_zero,and_false,if_false]
   cases g
   ·simp;omega
   ·simp;omega
end
section
theorem ztu {κ:Type} [DecidableEq κ] {l:List κ} (h:l.Nodup):setL l=l:=by
 have:=ziv l [] (by simpa using h)
 simpa [setL] using this
theorem zjn {l:List Item} {s:Str} (h:(zb5 l).Nodup):((zbc l s).map (·.2)).Nodup∧∀ p ∈ zbc l s,p ∈ zal l:=by
 rw [zes] at h
 have h0:(zal l).Nodup:=(List.pairwise_map.1 h).imp fun h e=>h (by rw [e])
 unfold zbc
 rw [ztu h0]
 exact⟨List.Nodup.sublist ((List.filter_sublist).map _) h,fun p hp=>(List.mem_filter.1 hp).1⟩
theorem zeh {l:List Item} (h:zfq l) {p:zan} (hp:p ∈ zal l):OkD p.2∧p.1.length≤4096∧p.2 ∈ zb5 l:=by
 have hd:p.2 ∈ zb5 l:=by rw [zes];exact List.mem_map.2 ⟨p,hp,rfl⟩
 obtain⟨it,hit,hm⟩:=List.mem_flatMap.1 hp
 obtain⟨d,hd2,rfl⟩:=List.mem_map.1 hm
 exact⟨h.2.2.1 _ hd,(h.2.1 it hit).1,hd⟩
theorem zlx {l:List Item} (s:Str) (h:zfq l):zfq (zd5 l s)∧∀ d ∈ zb5 (zd5 l s),d ∈ zb5 l:=by
 obtain⟨h1,h2⟩:=zjn (s:=s) h.2.2.2
 refine ⟨zki h1 (fun p hp=>(zeh h (h2 p hp)).1) (fun p hp=>(zeh h (h2 p hp)).2.1),fun d hd=>?_⟩
 obtain⟨p,hp,rfl⟩:=zlw hd
 exact (zeh h (h2 p hp)).2.2
theorem ztv {l:List Item} {s:Str} {d:Dot} (h:zfq l) (hd:OkD d) (hn:d ∉ zb5 l) (h0:(putB l s d).2=0):zfq (putB l s d).1∧∀ x ∈ zb5 (putB l s d).1,x=d ∨ x ∈ zb5 l:=by
 unfold putB at h0 ⊢
 by_cases hs:4096 < s.length
 ·rw [if_pos hs] at h0;cases h0
 ·rw [if_neg hs] at h0 ⊢
  by_cases hf:256≤(zep (zbc l s)).length
  ·rw [if_pos hf] at h0;cases h0
  ·rw [if_neg hf]
   obtain⟨h1,h2⟩:=zjn (s:=s) h.2.2.2
   have hnew:(s,d) ∉ zbc l s:=fun hm=>hn (zeh h (h2 _ hm)).2.2
   have ha:addK (zbc l s) (s,d)=zbc l s++[(s,d)]:=by unfold addK;rw [if_neg hnew]
   rw [ha]
   have hp:∀ p ∈ zbc l s++[(s,d)],p ∈ zbc l s ∨ p=(s,d):=fun p hp=>by
    rcases List.mem_append.1 hp with hp | hp
    ·exact .inl hp
    ·exact .inr (by simpa using hp)
   refine ⟨zki ?_ (fun p hpm=>?_) (fun p hpm=>?_),fun x hx=>?_⟩
   ·rw [List.map_append,List.nodup_append]
    refine ⟨h1,by simp,fun a haa b hb=>?_⟩
    simp only [List.map_cons,List.map_nil,List.mem_singleton] at hb
    subst hb
    obtain⟨p,hpm,rfl⟩:=List.mem_map.1 haa
    intro e
    exact hn (e ▸ (zeh h (h2 p hpm)).2.2)
   ·rcases hp p hpm with hpm | rfl
    ·exact (zeh h (h2 p hpm)).1
    ·exact hd
   ·rcases hp p hpm with hpm | rfl
    ·exact (zeh h (h2 p hpm)).2.1
    ·exact Nat.not_lt.1 hs
   ·obtain⟨p,hpm,rfl⟩:=zlw hx
    rcases hp p hpm with hpm | rfl
    ·exact .inr (zeh h (h2 p hpm)).2.2
    ·exact .inl rfl
structure PreE (e:Entry):Prop where
 good:GoodM e.seen
 most:∀ m ∈ e.seen,m.2≤281474976710656
 one:zaj e.key=1→e.items = []∧e.cell=zjx∧∀ c ∈ e.counts,c.1 = [] ∨ ofM e.seen c.1 ≠ 0
 two:zaj e.key=2→zfq e.items∧(∀ d ∈ zb5 e.items,hasM e.seen d=true)∧e.counts = []∧e.cell=zjx
 three:zaj e.key=3→e.counts = []∧e.items = []
theorem znb:zfq []:=⟨.nil,by simp,by simp [zb5],by simp [zb5]⟩
theorem ztw (k:Str):PreE { zad with key:=k } where
 good:=zms
 most:=by intro m hm;cases hm
 one:=fun _=>⟨rfl,rfl,by intro c hc;cases hc⟩
 two:=fun _=>⟨znb,(by intro d hd;cases hd),rfl,rfl⟩
 three:=fun _=>⟨rfl,rfl⟩
theorem zvk {e:Entry} (h:mayE e=true):PreE e:=by
 unfold mayE at h
 rw [Bool.and_eq_true,Bool.and_eq_true] at h
 obtain⟨h1,h2,h3⟩:=h
 obtain⟨-,g1,g2⟩:=mayM_iff.1 h1
 refine ⟨g1,g2,fun hk=>?_,fun hk=>?_,fun hk=>?_⟩
 ·rw [if_pos hk] at h3
  simp only [may1,Bool.and_eq_true,decide_eq_true_eq,List.length_eq_zero_iff] at h3
  obtain⟨k1,k2,k3,k4⟩:=h3
  refine ⟨k3,k4,fun c hc=>?_⟩
  have:=List.all_eq_true.1 k2 c hc
  by_cases h:c.1 = []
  ·exact .inl h
  ·refine .inr fun h0=>?_
   simp [h,h0] at this
 ·rw [if_neg (by omega),if_pos hk] at h3
  simp only [may2,Bool.and_eq_true,decide_eq_true_eq,List.length_eq_zero_iff] at h3
  obtain⟨k1,k2,k3,k4⟩:=h3
  refine ⟨mayB_iff.1 k1,fun d hd=>?_,k3,k4⟩
  obtain⟨it,hit,hdd⟩:=List.mem_flatMap.1 hd
  exact List.all_eq_true.1 (List.all_eq_true.1 k2 it hit) d hdd
 ·rw [if_neg (by omega),if_neg (by omega),if_pos hk] at h3
  simp only [may3,Bool.and_eq_true,decide_eq_true_eq,List.length_eq_zero_iff] at h3
  exact h3.2
theorem zoo {l:List Mark} {d:Mark} (hg:GoodM l) (hm:∀ m ∈ l,m.2≤281474976710656) (h0:d.1 ≠ []) (h1:1≤d.2) (h2:d.2≤281474976710656) (hl:(setM l d.1 d.2).length≤512):mayM (setM l d.1 d.2)=true∧(setM l d.1 d.2).length ≠ 0:=by
 have hgs:=zhk l d.1 d.2
 refine ⟨mayM_iff.2 ⟨hl,hgs,fun m hmm=>?_⟩,fun h=>?_⟩
 ·have:=hgs.1.of hmm (hgs.2 m hmm).1
  rw [zc8] at this
  by_cases he:m.1=d.1
  ·rw [if_pos he,if_neg h0] at this
   omega
  ·rw [if_neg he] at this
   have h3:ofM l m.1≤281474976710656:=ofM_le.2 fun x hx _ _=>hm x hx
   omega
 ·have h3:=zc8 l d.1 d.2 d.1
  rw [if_pos rfl,if_neg h0,List.length_eq_zero_iff.1 h,zh2] at h3
  omega
theorem zir {l:List Mark} {d:Mark} (h0:d.1 ≠ []) (hgt:ofM l d.1 < d.2) (s:Str):ofM l s≤ofM (setM l d.1 d.2) s:=by
 rw [zc8]
 by_cases he:s=d.1
 ·subst he;rw [if_pos rfl,if_neg h0];omega
 ·rw [if_neg he];omega
theorem zvl {l:List Mark} {d x:Mark} (h0:d.1 ≠ []) (hgt:ofM l d.1 < d.2) (h:hasM l x=true):hasM (setM l d.1 d.2) x=true:=by
 have:=zir h0 hgt x.1
 simp only [hasM,Bool.and_eq_true,decide_eq_true_eq] at h ⊢
 omega
theorem ztx {e:Entry} {o:OpD} {d:Dot} (hp:PreE e) (hk:e.key=o.2.1) (hd:OkD d) (hgt:ofM e.seen d.1 < d.2) (hl:(setM e.seen d.1 d.2).length≤512) (h:(zch e o d).2=0) :
  mayE (zch e o d).1=true∧(zch e o d).1.key=o.2.1∧(zch e o d).1.seen=setM e.seen d.1 d.2:=by
 obtain⟨h0,h1,h2⟩:=hd
 obtain⟨m1,m2⟩:=zoo hp.good hp.most h0 h1 h2 hl
 unfold zch at h ⊢
 cases hdo:doE (zaj o.2.1) e o d with
 | none=>rw [hdo] at h;cases h
 | some p =>
  rw [hdo] at h
  obtain⟨s1,s2⟩:=zhe hdo
  simp only at h ⊢
  by_cases hz:p.2=0
  ·rw [if_pos hz]
   refine ⟨?_,by rw [← hk];exact s2,by simp only;rw [s1]⟩
   unfold mayE
   simp only [s1,s2,m1,m2,decide_false,Bool.not_false,Bool.true_and,Bool.and_true]
   unfold doE at hdo
   rw [← hk] at hdo
   by_cases k1:zaj e.key=1
   ·obtain⟨i1,i2,i3⟩:=hp.one k1
    rw [if_pos k1] at hdo ⊢
    have key:∀ r:List zak × Nat,p=({ e with counts:=r.1 },r.2)→(r.2=0→zht r.1∧∀ c ∈ r.1,c.1=d.1 ∨ ∃ x ∈ e.counts,x.1=c.1)→may1 { p.1 with seen:=setM e.seen d.1 d.2 }=true:=by
     rintro r rfl hr
     obtain⟨r1,r2⟩:=hr hz
     simp only [may1,i1,i2,mayL_iff.2 r1,Bool.true_and,List.length_nil,decide_true,Bool.and_true,Bool.and_eq_true,ze3]
     refine List.all_eq_true.2 fun c hc=>?_
     rcases r2 c hc with hcd | ⟨x,hx,hxc⟩
     ·have:=zc8 e.seen d.1 d.2 d.1
      rw [if_pos rfl,if_neg h0] at this
      rw [hcd,this]
      have:d.2 ≠ 0:=by omega
      simp [this]
     ·rcases i3 x hx with h | h
      ·rw [hxc] at h;simp [h]
      ·have:=zir h0 hgt c.1
       rw [hxc] at h
       have:ofM (setM e.seen d.1 d.2) c.1 ≠ 0:=by omega
       simp [this]
    split at hdo
    ·exact key _ (Option.some.inj hdo).symm zna
    ·split at hdo
     ·exact key _ (Option.some.inj hdo).symm ztt
     ·cases hdo
   ·by_cases k2:zaj e.key=2
    ·obtain⟨i1,i2,i3,i4⟩:=hp.two k2
     rw [if_neg k1,if_pos k2] at hdo ⊢
     have hnew:d ∉ zb5 e.items:=fun hm=>by
      have:=i2 d hm
      simp only [hasM,Bool.and_eq_true,decide_eq_true_eq] at this
      omega
     have key:∀ r:List Item × Nat,p=({ e with items:=r.1 },r.2)→(r.2=0→zfq r.1∧∀ x ∈ zb5 r.1,x=d ∨ x ∈ zb5 e.items)→may2 { p.1 with seen:=setM e.seen d.1 d.2 }=true:=by
      rintro r rfl hr
      obtain⟨r1,r2⟩:=hr hz
      simp only [may2,i3,i4,mayB_iff.2 r1,Bool.true_and,List.length_nil,decide_true,Bool.and_true,Bool.and_eq_true,zfx]
      refine List.all_eq_true.2 fun it hit=>List.all_eq_true.2 fun x hx=>?_
      rcases r2 x (List.mem_flatMap.2 ⟨it,hit,hx⟩) with rfl | hx2
      ·have:=zc8 e.seen x.1 x.2 x.1
       rw [if_pos rfl,if_neg h0] at this
       simp only [hasM,Bool.and_eq_true,decide_eq_true_eq]
       omega
      ·exact zvl h0 hgt (i2 x hx2)
     split at hdo
     ·exact key _ (Option.some.inj hdo).symm (ztv i1 ⟨h0,h1,h2⟩ hnew)
     ·split at hdo
      ·exact key (_,0) (Option.some.inj hdo).symm (fun _=>⟨(zlx _ i1).1,fun x hx=>.inr ((zlx _ i1).2 x hx)⟩)
      ·split at hdo
       ·exact key ([],0) (Option.some.inj hdo).symm (fun _=>⟨znb,fun x hx=>by cases hx⟩)
       ·cases hdo
    ·by_cases k3:zaj e.key=3
     ·obtain⟨i1,i2⟩:=hp.three k3
      rw [if_neg k1,if_neg k2,if_pos k3] at hdo ⊢
      have key:∀ r:Cell × Nat,p=({ e with cell:=r.1 },r.2)→(r.2=0→mayC r.1=true)→may3 { p.1 with seen:=setM e.seen d.1 d.2 }=true:=by
       rintro r rfl hr
       simp only [may3,i1,i2,hr hz,Bool.true_and,List.length_nil,decide_true,Bool.and_true]
      split at hdo
      ·exact key _ (Option.some.inj hdo).symm zlv
      ·split at hdo
       ·exact key _ (Option.some.inj hdo).symm zlv
       ·cases hdo
     ·rw [if_neg k1,if_neg k2,if_neg k3] at hdo
      cases hdo
  ·rw [if_neg hz] at h
   exact absurd h hz
theorem zvm {e:Entry} {o:OpD} {d:Dot} (he:mayE e=true ∨ e=zad) (hgt:ofM e.seen d.1 < d.2) (hl:(setM e.seen d.1 d.2).length≤512) (h:(updE e o d).2=0) :
  mayE (updE e o d).1=true∧(updE e o d).1.key=o.2.1∧(updE e o d).1.seen=setM e.seen d.1 d.2:=by
 unfold updE at h ⊢
 by_cases c1:keyS o.2.1=false
 ·rw [if_pos c1] at h;cases h
 ·rw [if_neg c1] at h ⊢
  by_cases c2:e.key ≠ o.2.1∧zav e zad=false
  ·rw [if_pos c2] at h;cases h
  ·rw [if_neg c2] at h ⊢
   by_cases c3:d.1 = [] ∨ d.2 < 1 ∨ 281474976710656 < d.2 ∨ hasM e.seen d=true
   ·rw [if_pos c3] at h;cases h
   ·rw [if_neg c3] at h ⊢
    have hp:PreE { e with key:=o.2.1 }:=by
     by_cases hn:e=zad
     ·subst hn;exact ztw _
     ·have hk:e.key=o.2.1:=by
       refine Classical.byContradiction fun hk=>c2 ⟨hk,?_⟩
       exact Bool.eq_false_iff.2 fun hs=>hn (sameE_iff.1 hs)
      have:=zvk (he.resolve_right hn)
      rw [show { e with key:=o.2.1 }=e by rw [← hk]]
      exact this
    have hok:OkD d:=⟨fun h=>c3 (.inl h),by omega,by omega⟩
    exact ztx (e:={ e with key:=o.2.1 }) hp rfl hok hgt hl h
end
end Go.Proofs.YtdikcgmdmcfpfaaGreat
