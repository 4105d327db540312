/- Contracts and plain laws. -/
import Derived.Test.YtdikcgmdmcfpfaaGreatMo26
import Derived.Test.YtdikcgmdmcfpfaaGreatMo02
import Derived.Test.YtdikcgmdmcfpfaaGreatMo11
import Derived.Test.YtdikcgmdmcfpfaaGreatMo22
import Derived.Test.YtdikcgmdmcfpfaaGreatMo27
import Derived.Test.YtdikcgmdmcfpfaaGreatMo05
import Derived.Test.YtdikcgmdmcfpfaaGreatMo17
import Derived.Test.YtdikcgmdmcfpfaaGreatMo06
import Derived.Test.YtdikcgmdmcfpfaaGreatMo25
import Derived.Test.YtdikcgmdmcfpfaaGreatMo15
import Derived.Test.YtdikcgmdmcfpfaaGreatMo24
import Derived.Test.YtdikcgmdmcfpfaaGreatMo01
set_option linter.unusedVariables false
set_option linter.unusedSimpArgs false
set_option maxRecDepth 100000
set_option maxHeartbeats 40000000
namespace Go.Proofs.YtdikcgmdmcfpfaaGreat
section
open Go.RowKit Go.Shelf
def zgh:Cell:=(0,[],false)
def may1 (e:Entry):Bool:=mayL e.counts && (zfw e && (decide (e.items.length=0) && decide (e.cell=zgh)))
def may2 (e:Entry):Bool:=mayB e.items && (zgt e && (decide (e.counts.length=0) && decide (e.cell=zgh)))
def may3 (e:Entry):Bool:=mayC e.cell && (decide (e.counts.length=0) && decide (e.items.length=0))
def mayE (e:Entry):Bool:=mayM e.seen && (!decide (e.seen.length=0) && (if zap e.key=1 then may1 e else if zap e.key=2 then may2 e else if zap e.key=3 then may3 e else false))
theorem zx4 {S:Nat→Prop} {e:Entry} {v1 v2 v3:Value} {W:World} {B:Nat} (hb:RowIs W B 37 (entL e v1 v2 v3) []) (h:EntAt W S e v1 v2 v3) :
  Calls Tryz.prog 118 #[.pointer (some ⟨B,0,none⟩)] W fun r w'=>r=.returned (.bool (may1 e))∧Ext W w':=by
 obtain⟨ek,es,ec,ei,x1,x2,x3⟩:=e
 have HM:=zH (show may1 ⟨ek,es,ec,ei,(x1,x2,x3)⟩=(mayL ec && (zfw ⟨ek,es,ec,ei,(x1,x2,x3)⟩ && (decide (ei.length=0) && decide ((x1,x2,x3)=zgh)))) from rfl)
 have HC:=zH (zxi h.counts)
 have H:=zH h
 obtain⟨A1,n1,rfl,-,-⟩:=h.seen.form
 obtain⟨A2,n2,rfl,-,-⟩:=h.counts.form
 obtain⟨A3,n3,rfl,-,-⟩:=h.items.form
 have k2:=hb.cell (j:=2) rfl
 have hq:=fun w=>zp7 (x1,x2,x3) (0,[],false) w
 simp only at hq
 clear h
 go_enter Tryz.func118,Tryz.ntmps118
 go_wp2_with fail
 refine HC.out.mono ?_
 rintro r W1 ⟨rfl,hx1⟩
 have hb1:=hb.ext hx1
 cases hm:mayL ec with
 | false =>
  have HR:=zH (show may1 ⟨ek,es,ec,ei,(x1,x2,x3)⟩=false by rw [HM.out,hm];rfl)
  go_wp2_with fail
  go_ret
  exact⟨by rw [HR.out];rfl,hx1⟩
 | true =>
  obtain⟨c0,c1,c2,c3,c4,c5,c6⟩:=hb1.p7
  have HS:=zH (zp8 (H.out.ext hx1))
  go_wp2_with fail
  refine HS.out.mono ?_
  rintro r W2 ⟨rfl,hx2⟩
  have hb2:=hb1.ext hx2
  have d2:=hb2.cell (j:=2) rfl
  have d3:=hb2.cell (j:=3) rfl
  have d4:=hb2.cell (j:=4) rfl
  have d5:=hb2.cell (j:=5) rfl
  have d6:=hb2.cell (j:=6) rfl
  have HX:=zH (hx1.trans hx2)
  cases hs:zfw ⟨ek,es,ec,ei,(x1,x2,x3)⟩ with
  | false =>
   have HR:=zH (show may1 ⟨ek,es,ec,ei,(x1,x2,x3)⟩=false by rw [HM.out,hm,hs];rfl)
   go_wp2_with fail
   go_ret
   exact⟨by rw [HR.out];rfl,HX.out⟩
  | true =>
   cases ei with
   | nil =>
    have HR:=zH (show may1 ⟨ek,es,ec,[],(x1,x2,x3)⟩=decide ((x1,x2,x3)=((0,[],false):Cell)) by rw [HM.out,hm,hs];rfl)
    go_wp2_with fail
    all_goals
     go_ret
     refine ⟨?_,HX.out⟩
     rw [HR.out]
     simp [*]
   | cons it ei =>
    have HR:=zH (show may1 ⟨ek,es,ec,it :: ei,(x1,x2,x3)⟩=false by rw [HM.out,hm,hs];rfl)
    go_wp2_with fail
    go_ret
    exact⟨by rw [HR.out];rfl,HX.out⟩
theorem zx5 {S:Nat→Prop} {e:Entry} {v1 v2 v3:Value} {W:World} {B:Nat} (hl40:e.items.length≤1099511627776) (hb:RowIs W B 37 (entL e v1 v2 v3) []) (h:EntAt W S e v1 v2 v3) :
  Calls Tryz.prog 121 #[.pointer (some ⟨B,0,none⟩)] W fun r w'=>r=.returned (.bool (may2 e))∧Ext W w':=by
 obtain⟨ek,es,ec,ei,x1,x2,x3⟩:=e
 have HM:=zH (show may2 ⟨ek,es,ec,ei,(x1,x2,x3)⟩=(mayB ei && (zgt ⟨ek,es,ec,ei,(x1,x2,x3)⟩ && (decide (ec.length=0) && decide ((x1,x2,x3)=zgh)))) from rfl)
 have HC:=zH (zxy h.items hl40)
 have H:=zH h
 obtain⟨A1,n1,rfl,-,-⟩:=h.seen.form
 obtain⟨A2,n2,rfl,-,-⟩:=h.counts.form
 obtain⟨A3,n3,rfl,-,-⟩:=h.items.form
 have k3:=hb.cell (j:=3) rfl
 have hq:=fun w=>zp7 (x1,x2,x3) (0,[],false) w
 simp only at hq
 clear h
 go_enter Tryz.func121,Tryz.ntmps121
 go_wp2_with fail
 refine HC.out.mono ?_
 rintro r W1 ⟨rfl,hx1⟩
 have hb1:=hb.ext hx1
 cases hm:mayB ei with
 | false =>
  have HR:=zH (show may2 ⟨ek,es,ec,ei,(x1,x2,x3)⟩=false by rw [HM.out,hm];rfl)
  go_wp2_with fail
  go_ret
  exact⟨by rw [HR.out];rfl,hx1⟩
 | true =>
  obtain⟨c0,c1,c2,c3,c4,c5,c6⟩:=hb1.p7
  have HS:=zH (zrr (H.out.ext hx1))
  go_wp2_with fail
  refine HS.out.mono ?_
  rintro r W2 ⟨rfl,hx2⟩
  have hb2:=hb1.ext hx2
  have d2:=hb2.cell (j:=2) rfl
  have d3:=hb2.cell (j:=3) rfl
  have d4:=hb2.cell (j:=4) rfl
  have d5:=hb2.cell (j:=5) rfl
  have d6:=hb2.cell (j:=6) rfl
  have HX:=zH (hx1.trans hx2)
  cases hs:zgt ⟨ek,es,ec,ei,(x1,x2,x3)⟩ with
  | false =>
   have HR:=zH (show may2 ⟨ek,es,ec,ei,(x1,x2,x3)⟩=false by rw [HM.out,hm,hs];rfl)
   go_wp2_with fail
   go_ret
   exact⟨by rw [HR.out];rfl,HX.out⟩
  | true =>
   cases ec with
   | nil =>
    have HR:=zH (show may2 ⟨ek,es,[],ei,(x1,x2,x3)⟩=decide ((x1,x2,x3)=((0,[],false):Cell)) by rw [HM.out,hm,hs];rfl)
    go_wp2_with fail
    all_goals
     go_ret
     refine ⟨?_,HX.out⟩
     rw [HR.out]
     simp [*]
   | cons it ec =>
    have HR:=zH (show may2 ⟨ek,es,it :: ec,ei,(x1,x2,x3)⟩=false by rw [HM.out,hm,hs];rfl)
    go_wp2_with fail
    go_ret
    exact⟨by rw [HR.out];rfl,HX.out⟩
theorem zx6 {S:Nat→Prop} {e:Entry} {v1 v2 v3:Value} {W:World} {B:Nat} (hb:RowIs W B 37 (entL e v1 v2 v3) []) (h:EntAt W S e v1 v2 v3) :
  Calls Tryz.prog 124 #[.pointer (some ⟨B,0,none⟩)] W fun r w'=>r=.returned (.bool (may3 e))∧Ext W w':=by
 obtain⟨ek,es,ec,ei,x1,x2,x3⟩:=e
 have HM:=zH (show may3 ⟨ek,es,ec,ei,(x1,x2,x3)⟩=(mayC (x1,x2,x3) && (decide (ec.length=0) && decide (ei.length=0))) from rfl)
 have HC:=zH (zx0 (x1,x2,x3) W)
 obtain⟨A1,n1,rfl,-,-⟩:=h.seen.form
 obtain⟨A2,n2,rfl,-,-⟩:=h.counts.form
 obtain⟨A3,n3,rfl,-,-⟩:=h.items.form
 have k4:=hb.cell (j:=4) rfl
 have k5:=hb.cell (j:=5) rfl
 have k6:=hb.cell (j:=6) rfl
 clear h
 go_enter Tryz.func124,Tryz.ntmps124
 go_wp2_with fail
 refine HC.out.mono ?_
 rintro r W1 ⟨rfl,hx1⟩
 have hb1:=hb.ext hx1
 have c2:=hb1.cell (j:=2) rfl
 have c3:=hb1.cell (j:=3) rfl
 cases hm:mayC (x1,x2,x3) with
 | false =>
  have HR:=zH (show may3 ⟨ek,es,ec,ei,(x1,x2,x3)⟩=false by rw [HM.out,hm];rfl)
  go_wp2_with fail
  go_ret
  exact⟨by rw [HR.out];rfl,hx1⟩
 | true =>
  cases ec with
  | nil =>
   cases ei with
   | nil =>
    have HR:=zH (show may3 ⟨ek,es,[],[],(x1,x2,x3)⟩=true by rw [HM.out,hm];rfl)
    go_wp2_with fail
    go_ret
    exact⟨by rw [HR.out];rfl,hx1⟩
   | cons it ei =>
    have HR:=zH (show may3 ⟨ek,es,[],it :: ei,(x1,x2,x3)⟩=false by rw [HM.out,hm];rfl)
    go_wp2_with fail
    go_ret
    exact⟨by rw [HR.out];rfl,hx1⟩
  | cons c ec =>
   have HR:=zH (show may3 ⟨ek,es,c :: ec,ei,(x1,x2,x3)⟩=false by rw [HM.out,hm];rfl)
   go_wp2_with fail
   go_ret
   exact⟨by rw [HR.out];rfl,hx1⟩
end
section
open Go.RowKit Go.Shelf
def mayV (B:Nat):Option Nat→Value
 | none=>.nilFunc
 | some f=>.func (.func f) #[] #[.pointer (some ⟨B,0,none⟩)]
theorem yau (B:Nat) (w:World):(zeroValue 43).run Tryz.prog w=.ok (mayV B none) w:=Tryz.zeroValue43 w
theorem keyOk8:KeyOk Tryz.prog 5 K8:=zx2 Tryz.underlying5
theorem zjk {S:Nat→Prop} {e:Entry} {v1 v2 v3:Value} {w:World} (h:EntAt w S e v1 v2 v3) (hl40:e.items.length≤1099511627776) :
  Calls Tryz.prog 65 #[entV e v1 v2 v3] w fun r w'=>r=.returned (.bool (mayE e))∧Ext w w':=by
 obtain⟨ek,es,ec,ei,x1,x2,x3⟩:=e
 have HM:=zH (show mayE ⟨ek,es,ec,ei,(x1,x2,x3)⟩=(mayM es && (!decide (es.length=0) && (if zap ek=1 then may1 ⟨ek,es,ec,ei,(x1,x2,x3)⟩ else if zap ek=2 then may2 ⟨ek,es,ec,ei,(x1,x2,x3)⟩ else if zap ek=3 then may3 ⟨ek,es,ec,ei,(x1,x2,x3)⟩ else false))) from rfl)
 generalize mayE ⟨ek,es,ec,ei,(x1,x2,x3)⟩=R at *
 have H:=zH h
 obtain⟨A1,n1,rfl,-,-⟩:=h.seen.form
 obtain⟨A2,n2,rfl,-,-⟩:=h.counts.form
 obtain⟨A3,n3,rfl,-,-⟩:=h.items.form
 have hx0:=(Ext.refl w).alloc (.cells #[St ek,.slice A1 es.length n1,.slice A2 ec.length n2,.slice A3 ei.length n3,U x1,St x2,.bool x3] 37)
 have hb0:=zah w 37 [St ek,.slice A1 es.length n1,.slice A2 ec.length n2,.slice A3 ei.length n3,U x1,St x2,.bool x3]
 have k1:=hb0.cell (j:=1) rfl
 have HMM:=zH (zsn (h.seen.ext (by decide) hx0))
 clear h
 have eg1:∀ args w,(callFunc 118 args).run Tryz.prog w=.ok (.enter 118 args) w:=enters_of Tryz.func118 (by kernel_rfl) rfl
 have eg2:∀ args w,(callFunc 121 args).run Tryz.prog w=.ok (.enter 121 args) w:=enters_of Tryz.func121 (by kernel_rfl) rfl
 have eg3:∀ args w,(callFunc 124 args).run Tryz.prog w=.ok (.enter 124 args) w:=enters_of Tryz.func124 (by kernel_rfl) rfl
 have hmm:=@run_makeMap Tryz.prog
 go_enter Tryz.func65,Tryz.ntmps65
 go_wp2_with fail
 generalize hW0:w.alloc (.cells #[St ek,.slice A1 es.length n1,.slice A2 ec.length n2,.slice A3 ei.length n3,U x1,St x2,.bool x3] 37)=W0 at *
 clear hW0
 refine HMM.out.mono ?_
 rintro r W1 ⟨rfl,hx1⟩
 have hb1:=hb0.ext hx1
 have c0:=hb1.cell (j:=0) rfl
 have c1:=hb1.cell (j:=1) rfl
 have hX1:=hx0.trans hx1
 cases hm:mayM es with
 | false =>
  have HR:=zH (show R=false by rw [HM.out,hm];rfl)
  go_wp2_with fail
  go_ret
  exact⟨by rw [HR.out];rfl,hX1⟩
 | true =>
  cases es with
  | nil =>
   have HR:=zH (show R=false by rw [HM.out,hm];rfl)
   go_wp2_with fail
   go_ret
   exact⟨by rw [HR.out];rfl,hX1⟩
  | cons m es =>
   have HR:=zH (show R=(if zap ek=1 then may1 ⟨ek,m :: es,ec,ei,(x1,x2,x3)⟩ else if zap ek=2 then may2 ⟨ek,m :: es,ec,ei,(x1,x2,x3)⟩ else if zap ek=3 then may3 ⟨ek,m :: es,ec,ei,(x1,x2,x3)⟩ else false) by rw [HM.out,hm];rfl)
   have hz1:=hb1.lt
   obtain⟨Wa,ua,ma,ta⟩:=zar (P:=Tryz.prog) (t:=186) Tryz.underlying186 keyOk8 (MapIs.new (K:=K8) (V:=mayV w.heap.size) W1) 1 (some 118)
   obtain⟨Wb,ub,mb,tb⟩:=zar (P:=Tryz.prog) (t:=186) Tryz.underlying186 keyOk8 ma 2 (some 121)
   obtain⟨Wc,uc,mc,tc⟩:=zar (P:=Tryz.prog) (t:=186) Tryz.underlying186 keyOk8 mb 3 (some 124)
   have hxa:=((Ext.refl W1).alloc (.map #[] 0)).turned ta (Nat.le_refl _)
   have hxb:=hxa.turned tb (Nat.le_refl _)
   have hxc:=hxb.turned tc (Nat.le_refl _)
   have d0:=(hb1.ext hxc).cell (j:=0) rfl
   have HK:=zH (zjj ek Wc)
   have HC:=zH mc
   have HXC:=zH hxc
   clear ta tb tc hxa hxb hxc ma mb mc
   have ua':(Instr.mapUpdate 186 (.map (some W1.heap.size)) (.int .u8 1) (.func (.func 118) #[] #[.pointer (some ⟨w.heap.size,0,none⟩)])).run Tryz.prog (W1.alloc (.map #[] 0))=.ok () Wa:=ua
   have ub':(Instr.mapUpdate 186 (.map (some W1.heap.size)) (.int .u8 2) (.func (.func 121) #[] #[.pointer (some ⟨w.heap.size,0,none⟩)])).run Tryz.prog Wa=.ok () Wb:=ub
   have uc':(Instr.mapUpdate 186 (.map (some W1.heap.size)) (.int .u8 3) (.func (.func 124) #[] #[.pointer (some ⟨w.heap.size,0,none⟩)])).run Tryz.prog Wb=.ok () Wc:=uc
   clear ua ub uc
   go_wp2_with fail
   refine HK.out.mono ?_
   rintro r W2 ⟨rfl,hx2⟩
   have hL:=(zbb (P:=Tryz.prog) (t:=186) (z:=none) Tryz.underlying186 keyOk8 (yau w.heap.size) (HC.out.ext hx2) (zap ek)).2
   have HB2:=zH (hb1.ext (HXC.out.trans hx2))
   have HX2:=zH (hX1.trans (HXC.out.trans hx2))
   generalize hkk:zap ek=kk at *
   have hL':(Instr.lookup 186 (.map (some W1.heap.size)) (U8 kk) true).run Tryz.prog W2=.ok (.tuple #[mayV w.heap.size (getL none (putL (putL (putL [] 1 (some 118)) 2 (some 121)) 3 (some 124)) kk),.bool (decide (kk ∈ [1,2,3]))]) W2:=hL
   clear hL
   rcases (show kk=1 ∨ kk=2 ∨ kk=3 ∨ (kk ≠ 1∧kk ≠ 2∧kk ≠ 3) by omega) with h1 | h1 | h1 | ⟨h1,h2,h3⟩
   ·subst h1
    have hl:(Instr.lookup 186 (.map (some W1.heap.size)) (U8 1) true).run Tryz.prog W2=.ok (.tuple #[.func (.func 118) #[] #[.pointer (some ⟨w.heap.size,0,none⟩)],.bool true]) W2:=hL'
    have HR2:=zH (show R=may1 ⟨ek,m :: es,ec,ei,(x1,x2,x3)⟩ by rw [HR.out];rfl)
    clear hL' hkk HR
    have HT:=zH (zx4 HB2.out (H.out.ext HX2.out))
    go_wp2_with fail
    refine HT.out.mono ?_
    rintro r W3 ⟨rfl,hx3⟩
    have HX3:=zH (HX2.out.trans hx3)
    clear hx3
    go_wp2_with fail
    go_ret
    exact⟨by rw [HR2.out];rfl,HX3.out⟩
   ·subst h1
    have hl:(Instr.lookup 186 (.map (some W1.heap.size)) (U8 2) true).run Tryz.prog W2=.ok (.tuple #[.func (.func 121) #[] #[.pointer (some ⟨w.heap.size,0,none⟩)],.bool true]) W2:=hL'
    have HR2:=zH (show R=may2 ⟨ek,m :: es,ec,ei,(x1,x2,x3)⟩ by rw [HR.out];rfl)
    clear hL' hkk HR
    have HT:=zH (zx5 hl40 HB2.out (H.out.ext HX2.out))
    go_wp2_with fail
    refine HT.out.mono ?_
    rintro r W3 ⟨rfl,hx3⟩
    have HX3:=zH (HX2.out.trans hx3)
    clear hx3
    go_wp2_with fail
    go_ret
    exact⟨by rw [HR2.out];rfl,HX3.out⟩
   ·subst h1
    have hl:(Instr.lookup 186 (.map (some W1.heap.size)) (U8 3) true).run Tryz.prog W2=.ok (.tuple #[.func (.func 124) #[] #[.pointer (some ⟨w.heap.size,0,none⟩)],.bool true]) W2:=hL'
    have HR2:=zH (show R=may3 ⟨ek,m :: es,ec,ei,(x1,x2,x3)⟩ by rw [HR.out];rfl)
    clear hL' hkk HR
    have HT:=zH (zx6 HB2.out (H.out.ext HX2.out))
    go_wp2_with fail
    refine HT.out.mono ?_
    rintro r W3 ⟨rfl,hx3⟩
    have HX3:=zH (HX2.out.trans hx3)
    clear hx3
    go_wp2_with fail
    go_ret
    exact⟨by rw [HR2.out];rfl,HX3.out⟩
   ·have hl:(Instr.lookup 186 (.map (some W1.heap.size)) (U8 kk) true).run Tryz.prog W2=.ok (.tuple #[.nilFunc,.bool false]) W2:=by
     rw [hL']
     have e1:(1 == kk)=false:=by simp;omega
     have e2:(kk == 1)=false:=by simp;omega
     have e3:(kk == 2)=false:=by simp;omega
     have e4:(kk == 3)=false:=by simp;omega
     simp [getL,putL,List.lookup,e2,e3,e4,h1,h2,h3,mayV]
    have HR2:=zH (show R=false by rw [HR.out,if_neg h1,if_neg h2,if_neg h3])
    clear hL' hkk HR
    go_wp2_with fail
    go_ret
    exact⟨by rw [HR2.out];rfl,HX2.out⟩
end
section
open Go.RowKit Go.Shelf
theorem zti {S:Nat→Prop} {e:Entry} {v1 v2 v3:Value} {W:World} {B:Nat} (hb:RowIs W B 37 (entL e v1 v2 v3) []) (h:EntAt W S e v1 v2 v3) :
  Calls Tryz.prog 146 #[.pointer (some ⟨B,0,none⟩)] W fun r w'=>r=.returned (.iface 2 (I (zcg e.counts)))∧Ext W w':=by
 have HC:=zH (zh2 h.counts)
 obtain⟨A2,n2,rfl,-,-⟩:=h.counts.form
 have k2:=hb.cell (j:=2) rfl
 clear h hb
 go_enter Tryz.func146,Tryz.ntmps146
 go_wp2_with fail
 refine HC.out.mono ?_
 rintro r W1 ⟨rfl,hx1⟩
 go_wp2_with fail
 go_ret
 exact⟨rfl,hx1⟩
theorem ztj {S:Nat→Prop} {e:Entry} {v1 v2 v3:Value} {W:World} {B:Nat} (hl:(zad e.items).length≤1099511627776) (hb:RowIs W B 37 (entL e v1 v2 v3) []) (h:EntAt W S e v1 v2 v3) :
  Calls Tryz.prog 148 #[.pointer (some ⟨B,0,none⟩)] W fun r w'=>∃ s,r=.returned (.iface 28 s)∧Own w' W.heap.size 9 1 s (zc2 e.items).length ((zc2 e.items).flatMap strC)∧Ext W w':=by
 have HC:=zH (zvo h.items hl)
 obtain⟨A3,n3,rfl,-,-⟩:=h.items.form
 have k3:=hb.cell (j:=3) rfl
 clear h hb
 go_enter Tryz.func148,Tryz.ntmps148
 go_wp2_with fail
 refine HC.out.mono ?_
 rintro r W1 ⟨v',rfl,ho,hx1⟩
 obtain⟨A,n,rfl,-,-⟩:=ho.form
 go_wp2_with fail
 go_ret
 exact⟨_,rfl,ho,hx1⟩
def zfg (c:Cell):Value:=if (zd2 c).2 then .iface 9 (St (zd2 c).1) else .nilIface
theorem ztk {S:Nat→Prop} {e:Entry} {v1 v2 v3:Value} {W:World} {B:Nat} (hb:RowIs W B 37 (entL e v1 v2 v3) []) (h:EntAt W S e v1 v2 v3) :
  Calls Tryz.prog 150 #[.pointer (some ⟨B,0,none⟩)] W fun r w'=>r=.returned (zfg e.cell)∧Ext W w':=by
 obtain⟨ek,es,ec,ei,x1,x2,x3⟩:=e
 have HC:=zH (zvy (x1,x2,x3) W)
 have HV:=zH (show zfg (x1,x2,x3)=if (zd2 (x1,x2,x3)).2 then .iface 9 (St (zd2 (x1,x2,x3)).1) else .nilIface from rfl)
 generalize zfg (x1,x2,x3)=V at *
 have k4:=hb.cell (j:=4) rfl
 have k5:=hb.cell (j:=5) rfl
 have k6:=hb.cell (j:=6) rfl
 clear h hb
 go_enter Tryz.func150,Tryz.ntmps150
 go_wp2_with fail
 refine HC.out.mono ?_
 rintro r W1 ⟨rfl,hx1⟩
 generalize zd2 (x1,x2,x3)=p at *
 obtain⟨p1,p2⟩:=p
 cases p2 with
 | false =>
  go_wp2_with fail
  go_ret
  exact⟨by rw [HV.out];rfl,hx1⟩
 | true =>
  go_wp2_with fail
  go_ret
  exact⟨by rw [HV.out];rfl,hx1⟩
def ValAt (W:World) (base:Nat) (e:Entry) (v:Value):Prop :=
 if zap e.key=1 then v=.iface 2 (I (zcg e.counts)) else
 if zap e.key=2 then (∃ s,v=.iface 28 s∧Own W base 9 1 s (zc2 e.items).length ((zc2 e.items).flatMap strC)) else
 if zap e.key=3 then v=zfg e.cell else v=.nilIface
theorem yaj (B:Nat) (w:World):(zeroValue 196).run Tryz.prog w=.ok (mayV B none) w:=Tryz.zeroValue196 w
theorem zmz {S:Nat→Prop} {e:Entry} {v1 v2 v3:Value} {w:World} (h:EntAt w S e v1 v2 v3) (hl40:(zad e.items).length≤1099511627776) :
  Calls Tryz.prog 86 #[entV e v1 v2 v3] w fun r w'=>∃ v,r=.returned v∧ValAt w' w.heap.size e v∧Ext w w':=by
 obtain⟨ek,es,ec,ei,x1,x2,x3⟩:=e
 have H:=zH h
 obtain⟨A1,n1,rfl,-,-⟩:=h.seen.form
 obtain⟨A2,n2,rfl,-,-⟩:=h.counts.form
 obtain⟨A3,n3,rfl,-,-⟩:=h.items.form
 have hx0:=(Ext.refl w).alloc (.cells #[St ek,.slice A1 es.length n1,.slice A2 ec.length n2,.slice A3 ei.length n3,U x1,St x2,.bool x3] 37)
 have hb0:=zah w 37 [St ek,.slice A1 es.length n1,.slice A2 ec.length n2,.slice A3 ei.length n3,U x1,St x2,.bool x3]
 clear h
 have eg1:∀ args w,(callFunc 146 args).run Tryz.prog w=.ok (.enter 146 args) w:=enters_of Tryz.func146 (by kernel_rfl) rfl
 have eg2:∀ args w,(callFunc 148 args).run Tryz.prog w=.ok (.enter 148 args) w:=enters_of Tryz.func148 (by kernel_rfl) rfl
 have eg3:∀ args w,(callFunc 150 args).run Tryz.prog w=.ok (.enter 150 args) w:=enters_of Tryz.func150 (by kernel_rfl) rfl
 have hmm:=@run_makeMap Tryz.prog
 obtain⟨W0,hW0⟩:∃ W0,w.alloc (.cells #[St ek,.slice A1 es.length n1,.slice A2 ec.length n2,.slice A3 ei.length n3,U x1,St x2,.bool x3] 37)=W0:=⟨_,rfl⟩
 rw [hW0] at hx0 hb0
 have hz1:=hb0.lt
 obtain⟨Wa,ua,ma,ta⟩:=zar (P:=Tryz.prog) (t:=197) Tryz.underlying197 keyOk8 (MapIs.new (K:=K8) (V:=mayV w.heap.size) W0) 1 (some 146)
 obtain⟨Wb,ub,mb,tb⟩:=zar (P:=Tryz.prog) (t:=197) Tryz.underlying197 keyOk8 ma 2 (some 148)
 obtain⟨Wc,uc,mc,tc⟩:=zar (P:=Tryz.prog) (t:=197) Tryz.underlying197 keyOk8 mb 3 (some 150)
 have hxa:=((Ext.refl W0).alloc (.map #[] 0)).turned ta (Nat.le_refl _)
 have hxb:=hxa.turned tb (Nat.le_refl _)
 have hxc:=hxb.turned tc (Nat.le_refl _)
 have d0:=(hb0.ext hxc).cell (j:=0) rfl
 have HK:=zH (zjj ek Wc)
 have HC:=zH mc
 have HXC:=zH hxc
 clear ta tb tc hxa hxb hxc ma mb mc
 have ua':(Instr.mapUpdate 197 (.map (some W0.heap.size)) (.int .u8 1) (.func (.func 146) #[] #[.pointer (some ⟨w.heap.size,0,none⟩)])).run Tryz.prog (W0.alloc (.map #[] 0))=.ok () Wa:=ua
 have ub':(Instr.mapUpdate 197 (.map (some W0.heap.size)) (.int .u8 2) (.func (.func 148) #[] #[.pointer (some ⟨w.heap.size,0,none⟩)])).run Tryz.prog Wa=.ok () Wb:=ub
 have uc':(Instr.mapUpdate 197 (.map (some W0.heap.size)) (.int .u8 3) (.func (.func 150) #[] #[.pointer (some ⟨w.heap.size,0,none⟩)])).run Tryz.prog Wb=.ok () Wc:=uc
 clear ua ub uc
 go_enter Tryz.func86,Tryz.ntmps86
 go_wp2_with fail
 refine HK.out.mono ?_
 rintro r W2 ⟨rfl,hx2⟩
 have hL:=(zbb (P:=Tryz.prog) (t:=197) (z:=none) Tryz.underlying197 keyOk8 (yaj w.heap.size) (HC.out.ext hx2) (zap ek)).2
 have HB2:=zH (hb0.ext (HXC.out.trans hx2))
 have HX2:=zH (hx0.trans (HXC.out.trans hx2))
 have HKK:=zH (show ∀ W b v,ValAt W b ⟨ek,es,ec,ei,(x1,x2,x3)⟩ v=(if zap ek=1 then v=.iface 2 (I (zcg ec)) else if zap ek=2 then (∃ s,v=.iface 28 s∧Own W b 9 1 s (zc2 ei).length ((zc2 ei).flatMap strC)) else if zap ek=3 then v=zfg (x1,x2,x3) else v=.nilIface) from fun _ _ _=>rfl)
 generalize zap ek=kk at *
 have hL':(Instr.lookup 197 (.map (some W0.heap.size)) (U8 kk) true).run Tryz.prog W2=.ok (.tuple #[mayV w.heap.size (getL none (putL (putL (putL [] 1 (some 146)) 2 (some 148)) 3 (some 150)) kk),.bool (decide (kk ∈ [1,2,3]))]) W2:=hL
 clear hL
 rcases (show kk=1 ∨ kk=2 ∨ kk=3 ∨ (kk ≠ 1∧kk ≠ 2∧kk ≠ 3) by omega) with h1 | h1 | h1 | ⟨h1,h2,h3⟩
 ·subst h1
  have hl:(Instr.lookup 197 (.map (some W0.heap.size)) (U8 1) true).run Tryz.prog W2=.ok (.tuple #[.func (.func 146) #[] #[.pointer (some ⟨w.heap.size,0,none⟩)],.bool true]) W2:=hL'
  clear hL'
  have HT:=zH (zti HB2.out (H.out.ext HX2.out))
  go_wp2_with fail
  refine HT.out.mono ?_
  rintro r W3 ⟨rfl,hx3⟩
  have HX3:=zH (HX2.out.trans hx3)
  have hsz:=HX2.out.size
  clear hx3
  go_wp2_with fail
  go_ret
  exact⟨_,rfl,by rw [HKK.out];exact rfl,HX3.out⟩
 ·subst h1
  have hl:(Instr.lookup 197 (.map (some W0.heap.size)) (U8 2) true).run Tryz.prog W2=.ok (.tuple #[.func (.func 148) #[] #[.pointer (some ⟨w.heap.size,0,none⟩)],.bool true]) W2:=hL'
  clear hL'
  have HT:=zH (ztj hl40 HB2.out (H.out.ext HX2.out))
  go_wp2_with fail
  refine HT.out.mono ?_
  rintro r W3 ⟨s,rfl,ho,hx3⟩
  have HX3:=zH (HX2.out.trans hx3)
  have hsz:=HX2.out.size
  clear hx3
  go_wp2_with fail
  go_ret
  exact⟨_,rfl,by rw [HKK.out];exact⟨_,rfl,ho.lower hsz⟩,HX3.out⟩
 ·subst h1
  have hl:(Instr.lookup 197 (.map (some W0.heap.size)) (U8 3) true).run Tryz.prog W2=.ok (.tuple #[.func (.func 150) #[] #[.pointer (some ⟨w.heap.size,0,none⟩)],.bool true]) W2:=hL'
  clear hL'
  have HT:=zH (ztk HB2.out (H.out.ext HX2.out))
  go_wp2_with fail
  refine HT.out.mono ?_
  rintro r W3 ⟨rfl,hx3⟩
  have HX3:=zH (HX2.out.trans hx3)
  have hsz:=HX2.out.size
  clear hx3
  go_wp2_with fail
  go_ret
  exact⟨_,rfl,by rw [HKK.out];exact rfl,HX3.out⟩
 ·have hl:(Instr.lookup 197 (.map (some W0.heap.size)) (U8 kk) true).run Tryz.prog W2=.ok (.tuple #[.nilFunc,.bool false]) W2:=by
   rw [hL']
   have e2:(kk == 1)=false:=by simp;omega
   have e3:(kk == 2)=false:=by simp;omega
   have e4:(kk == 3)=false:=by simp;omega
   simp [getL,putL,List.lookup,e2,e3,e4,h1,h2,h3,mayV]
  clear hL'
  go_wp2_with fail
  go_ret
  exact⟨_,rfl,by rw [HKK.out,if_neg h1,if_neg h2,if_neg h3];rfl,HX2.out⟩
end
section
open Go.RowKit Go.Shelf
def Did (W w':World) (E pr:Nat) (S:Nat→Prop) (e':Entry) (v1:Value):Prop :=
 ∃ u2 u3,RowIs w' E 37 (entL e' v1 u2 u3) []∧EntAt w' (fun b=>S b ∨ W.heap.size≤b) e' v1 u2 u3∧Kept2 W w' E pr
def MvE (E:Nat) (w w':World):Prop:=w.heap.size≤w'.heap.size∧∀ b,b < w.heap.size→b ≠ E→w'.heap[b]? = w.heap[b]?
theorem MvE.refl (E:Nat) (w:World):MvE E w w:=⟨Nat.le_refl _,fun _ _ _=>rfl⟩
theorem Ext.mvE {E:Nat} {w w':World} (h:Ext w w'):MvE E w w':=⟨h.size,fun b hb _=>h.block b hb⟩
theorem MvE.set (E j:Nat) (w:World) (v:Value):MvE E w (w.setCell ⟨E,j,none⟩ v):=⟨by rw [World.size_setCell];exact Nat.le_refl _,fun b _ hb=>Below.heap_setCell _ _ _ _ hb⟩
theorem Own.mvE {w w':World} {base T k n E:Nat} {v:Value} {xs:List Value} (h:Own w base T k v n xs) (m:MvE E w w') (hE:E < base):Own w' base T k v n xs :=
 h.keep fun b hb hlt=>m.2 b hlt (by have:=(h.base_le hb).1;omega)
theorem OwnL.mvE {α:Type} {T:Shape α} {tid:Nat} {w w':World} {base E:Nat} {v:Value} {l:List α} (h:OwnL T tid w base (fun b=>base≤b) v l) (m:MvE E w w') (hE:E < base):OwnL T tid w' base (fun b=>base≤b) v l :=
 h.keep (fun b hb hlt=>m.2 b hlt (by omega)) fun b hb hlt=>m.2 b hlt (by have:=(h.base_le hb).1;omega)
theorem Kept2.refl (w:World) (p m:Nat):Kept2 w w p m:=⟨rfl,rfl,rfl,Nat.le_refl _,fun _ _ _ _=>rfl⟩
theorem Kept2.ext {W w w':World} {p m:Nat} (k:Kept2 W w p m) (h:Ext w w'):Kept2 W w' p m :=
 ⟨h.os.trans k.os,h.tape.trans k.tape,h.output.trans k.output,Nat.le_trans k.size h.size,fun j hj h1 h2=>(h.block j (Nat.lt_of_lt_of_le hj k.size)).trans (k.other j hj h1 h2)⟩
theorem Kept2.set1 {W w:World} {p m j:Nat} (k:Kept2 W w p m) (v:Value):Kept2 W (w.setCell ⟨p,j,none⟩ v) p m :=
 ⟨k.os,k.tape,k.output,by rw [World.size_setCell];exact k.size,fun b hb h1 h2=>(Below.heap_setCell _ _ _ _ h1).trans (k.other b hb h1 h2)⟩
theorem Kept2.set2 {W w:World} {p m j:Nat} (k:Kept2 W w p m) (v:Value):Kept2 W (w.setCell ⟨m,j,none⟩ v) p m :=
 ⟨k.os,k.tape,k.output,by rw [World.size_setCell];exact k.size,fun b hb h1 h2=>(Below.heap_setCell _ _ _ _ h2).trans (k.other b hb h1 h2)⟩
theorem Ext.kept {W w:World} (h:Ext W w) (p m:Nat):Kept2 W w p m:=⟨h.os,h.tape,h.output,h.size,fun j hj _ _=>h.block j hj⟩
theorem EntAt.kept {W w:World} {S:Nat→Prop} {e:Entry} {v1 v2 v3:Value} {p m:Nat} (h:EntAt W S e v1 v2 v3) (k:Kept2 W w p m) (hS:∀ b,S b→b ≠ p∧b ≠ m):EntAt w S e v1 v2 v3 :=
 ⟨h.seen.keep (by decide) fun b hb hlt=>k.other b hlt (hS b hb).1 (hS b hb).2,h.counts.keep (by decide) fun b hb hlt=>k.other b hlt (hS b hb).1 (hS b hb).2,h.items.keep (by decide) fun b hb hlt=>k.other b hlt (hS b hb).1 (hS b hb).2⟩
theorem zqa {S:Nat→Prop} {W:World} {pe pr E:Nat} {e:Entry} {v1 v2 v3 z:Value} {pd:Nat} {d1:Str} (n:Int) (hn1:-9223372036854775808≤n) (hn2:n≤9223372036854775807) (hd:W.cell? ⟨pd,0,none⟩=some (St d1)) (hl:e.counts.length < 1099511627776)
  (hpe:W.cell? ⟨pe,0,none⟩=some (.pointer (some ⟨E,0,none⟩))) (hr:RowIs W pr 38 [z] []) (hE:RowIs W E 37 (entL e v1 v2 v3) []) (hA:EntAt W S e v1 v2 v3) (hS:∀ b,S b→b ≠ E∧b ≠ pr) (hpr:pr ≠ E) :
  Calls Tryz.prog 155 #[I n,.pointer (some ⟨pe,0,none⟩),.pointer (some ⟨pd,0,none⟩),.pointer (some ⟨pr,0,none⟩)] W fun r w'=>r=.returned (I (addC e.counts d1 n).2)∧Did W w' E pr S { e with counts:=(addC e.counts d1 n).1 } v1:=by
 obtain⟨A1,n1,rfl,-,-⟩:=hA.seen.form
 obtain⟨A2,n2,rfl,-,-⟩:=hA.counts.form
 obtain⟨A3,n3,rfl,-,-⟩:=hA.items.form
 have HA:=zH hA
 have HS:=zH hS
 clear hA hS
 have hEl:=hE.lt
 let J1:World→Prop:=fun w=>∃ u,Own w W.heap.size 93 3 u (addC e.counts d1 n).1.length ((addC e.counts d1 n).1.flatMap zb8)∧RowIs w E 37 (entL e (.slice A1 e.seen.length n1) u (.slice A3 e.items.length n3)) []∧RowIs w pr 38 [z] []∧Kept2 W w E pr
 go_enter Tryz.func155,Tryz.ntmps155
 go_wp2_with fail
 refine zep [.early (fun v _=>v=.pointer (some ⟨E,0,none⟩)),
  .early (fun v _=>v=.pointer (some ⟨E,0,none⟩)),
  .early (fun v _=>v=.pointer (some ⟨E,0,none⟩)),
  .early (fun v _=>v=.pointer (some ⟨E,2,none⟩)),
  .early (fun v _=>v=.slice A2 e.counts.length n2),
  .early (fun v _=>v=.pointer (some ⟨pd,0,none⟩)),
  .early (fun v _=>v=St d1),
  .early (fun v _=>v=I n),
  .early (fun v W2=>∃ v4,v=.tuple #[v4,I (addC e.counts d1 n).2]∧Own W2 W.heap.size 93 3 v4 (addC e.counts d1 n).1.length ((addC e.counts d1 n).1.flatMap zb8)),
  .early (fun v W2=>∃ v4,v=.tuple #[v4,I (addC e.counts d1 n).2]∧Own W2 W.heap.size 93 3 v4 (addC e.counts d1 n).1.length ((addC e.counts d1 n).1.flatMap zb8)),
  .early (fun v W2=>Own W2 W.heap.size 93 3 v (addC e.counts d1 n).1.length ((addC e.counts d1 n).1.flatMap zb8)),
  .late (fun v _=>v=I (addC e.counts d1 n).2),
  .early (fun v _=>v=.pointer (some ⟨E,0,none⟩)),
  .early (fun v _=>v=.pointer (some ⟨E,2,none⟩)),
  .store] 14 (fun w=>Ext W w) J1 (MvE E) rfl (by kernel_rfl) (by kernel_rfl) ?hR ?hJ ?hstep ?hend
 case hR =>
  simp only [List.mem_cons,List.not_mem_nil,or_false,forall_eq_or_imp,forall_eq,HF.fact]
  exact⟨kP,kP,kP,kP,kP,kP,kP,kP,fun v _ _ h he=>by obtain⟨u,e1,ho⟩:=h;exact⟨u,e1,ho.mvE he hEl⟩,fun v _ _ h he=>by obtain⟨u,e1,ho⟩:=h;exact⟨u,e1,ho.mvE he hEl⟩,fun v _ _ h he=>h.mvE he hEl,kP,kP,kP,kP⟩
 case hJ=>exact (Ext.refl W).drew
 case hstep =>
  simp only [List.length_cons,List.length_nil,Nat.reduceAdd,List.take_succ_cons,List.take_zero,zc5,and_true]
  refine ⟨?_,?_,?_,?_,?_,?_,?_,?_,?_,?_,?_,?_,?_,?_,?_⟩
  ·intro x W1 hj f
   have h:x 1=.pointer (some ⟨pe,0,none⟩):=f.1
   have hc:=hj.cell hpe
   go_wp
   exact zae rfl ⟨hj,MvE.refl _ _⟩
  ·intro x W1 hj f
   have h:x 1=.pointer (some ⟨pe,0,none⟩):=f.1
   have hc:=hj.cell hpe
   go_wp
   exact zae rfl ⟨hj,MvE.refl _ _⟩
  ·intro x W1 hj f
   have h:x 8=.pointer (some ⟨E,0,none⟩):=f.1
   go_wp
   exact zae rfl ⟨hj,MvE.refl _ _⟩
  ·intro x W1 hj f
   have h:x 9=.pointer (some ⟨E,0,none⟩):=f.1
   go_wp
   exact zae rfl ⟨hj,MvE.refl _ _⟩
  ·intro x W1 hj f
   have h:x 10=.pointer (some ⟨E,2,none⟩):=f.1
   have hc:=(hE.ext hj).cell (j:=2) rfl
   go_wp
   exact zae rfl ⟨hj,MvE.refl _ _⟩
  ·intro x W1 hj f
   have h:x 2=.pointer (some ⟨pd,0,none⟩):=f.1
   go_wp
   exact zae rfl ⟨hj,MvE.refl _ _⟩
  ·intro x W1 hj f
   have h:x 12=.pointer (some ⟨pd,0,none⟩):=f.1
   have hc:=hj.cell hd
   go_wp
   exact zae rfl ⟨hj,MvE.refl _ _⟩
  ·intro x W1 hj f
   have h:x 0=I n:=f.1
   go_wp
   exact zae rfl ⟨hj,MvE.refl _ _⟩
  ·intro x W1 hj f
   have h1:x 11=.slice A2 e.counts.length n2:=f.1
   have h2:x 13=St d1:=f.2.1
   have h3:x 14=I n:=f.2.2.1
   have hs:=hj.size
   have HC:=zH (zxj d1 n hn1 hn2 (HA.out.counts.ext (by decide) hj) hl)
   go_wp
   refine HC.out.mono ?_
   rintro r W2 ⟨v4,rfl,ho,hx2⟩
   dsimp only
   go_wp
   exact zae (v:=.tuple #[v4,I (addC e.counts d1 n).2]) ⟨v4,rfl,ho.lower hs⟩ ⟨hj.trans hx2,hx2.mvE⟩
  ·intro x W1 hj f
   obtain⟨v4,h,ho⟩:∃ v4,x 15=.tuple #[v4,I (addC e.counts d1 n).2]∧Own W1 W.heap.size 93 3 v4 (addC e.counts d1 n).1.length ((addC e.counts d1 n).1.flatMap zb8):=f.1
   go_wp
   exact zae ⟨v4,rfl,ho⟩ ⟨hj,MvE.refl _ _⟩
  ·intro x W1 hj f
   obtain⟨v4,h,ho⟩:∃ v4,x 6=.tuple #[v4,I (addC e.counts d1 n).2]∧Own W1 W.heap.size 93 3 v4 (addC e.counts d1 n).1.length ((addC e.counts d1 n).1.flatMap zb8):=f.1
   go_wp
   exact zae ho ⟨hj,MvE.refl _ _⟩
  ·intro x W1 b hj f
   obtain⟨v4,h,ho⟩:∃ v4,x 6=.tuple #[v4,I (addC e.counts d1 n).2]∧Own W1 W.heap.size 93 3 v4 (addC e.counts d1 n).1.length ((addC e.counts d1 n).1.flatMap zb8):=f.1
   go_wp
   exact zae rfl ⟨hj,MvE.refl _ _⟩
  ·intro x W1 hj f
   have h:x 7=.pointer (some ⟨E,0,none⟩):=f.1
   go_wp
   exact zae rfl ⟨hj,MvE.refl _ _⟩
  ·intro x W1 hj f
   have h:x 18=.pointer (some ⟨E,0,none⟩):=f.1
   go_wp
   exact zae rfl ⟨hj,MvE.refl _ _⟩
  ·intro x W1 hj f
   have h:x 19=.pointer (some ⟨E,2,none⟩):=f.1
   have ho:Own W1 W.heap.size 93 3 (x 16) (addC e.counts d1 n).1.length ((addC e.counts d1 n).1.flatMap zb8):=f.2.1
   obtain⟨A,c,hA,-,-⟩:=ho.form
   have hEW:=hE.ext hj
   have hc:=hEW.cell (j:=2) rfl
   have hf:=hEW.frozen 2
   rw [hA] at ho
   have hp:J1 (W1.setCell ⟨E,2,none⟩ (.slice A (addC e.counts d1 n).1.length c)):=⟨_,ho.mvE (MvE.set _ _ _ _) hEl,hEW.set (j:=2) (by simp) _,(hr.ext hj).other hpr.symm _,(hj.kept E pr).set1 _⟩
   have hm:=MvE.set E 2 W1 (.slice A (addC e.counts d1 n).1.length c)
   generalize hW2:W1.setCell ⟨E,2,none⟩ (.slice A (addC e.counts d1 n).1.length c)=W2 at *
   clear hj ho hEW
   go_wp
   exact zae (v:=undef) trivial ⟨hp,hm⟩
 case hend =>
  intro x W1 hj f
  obtain⟨u,ho,hE1,hr1,hk⟩:=hj
  have h17:x 17=I (addC e.counts d1 n).2:=f.2.2.2.2.2.2.2.2.2.2.2.1
  simp only [List.length_cons,List.length_nil,Nat.reduceAdd,List.take_succ_cons,List.take_zero,List.filterMap_cons,List.filterMap_nil,List.drop_succ_cons,List.drop_zero,zay,Act.put,List.setIfInBounds_toArray,List.set_cons_succ,List.set_cons_zero,h17]
  have hrf:=hr1.frozen 0
  have hrc:=hr1.cell (j:=0) rfl
  clear f
  have HK:=zH (hk.set2 (j:=0) (I (addC e.counts d1 n).2))
  have HE:=zH (hE1.other (p:=⟨pr,0,none⟩) hpr (I (addC e.counts d1 n).2))
  have HO:=zH (ho.keep (w':=W1.setCell ⟨pr,0,none⟩ (I (addC e.counts d1 n).2)) fun b hb _=>Below.heap_setCell _ _ _ _ (fun e2=>by have:=(ho.base_le hb).1;have:=hr.lt;have e3:b=pr:=e2;omega))
  have hcs:=(hr1.set (j:=0) (by simp) (I (addC e.counts d1 n).2)).cell (j:=0) rfl
  obtain⟨w9,hw9⟩:∃ w9,W1.setCell ⟨pr,0,none⟩ (I (addC e.counts d1 n).2)=w9:=⟨_,rfl⟩
  rw [hw9] at HK HE HO hcs
  obtain⟨err,herr⟩:∃ err:Nat,(addC e.counts d1 n).2=err:=⟨_,rfl⟩
  rw [herr] at hw9 hcs ⊢
  clear hr1 ho hE1 hk
  go_wp
  go_wp2_with fail
  go_ret
  have hA9:=HA.out.kept HK.out HS.out
  exact⟨by rw [herr];rfl,u,_,HE.out,⟨hA9.seen.mono (by decide) fun b _ h=>.inl h,(OwnL.flat_iff (S:=fun b=>S b ∨ W.heap.size≤b).2 HO.out).sl (by decide) (fun _ _ h=>h) (fun b h _=>.inr h),hA9.items.mono (by decide) fun b _ h=>.inl h⟩,HK.out⟩
theorem zqb {S:Nat→Prop} {W:World} {pe pr E:Nat} {e:Entry} {v1 v2 v3 z:Value} (line:Str) (gone:Bool)
  (hpe:W.cell? ⟨pe,0,none⟩=some (.pointer (some ⟨E,0,none⟩))) (hr:RowIs W pr 38 [z] []) (hE:RowIs W E 37 (entL e v1 v2 v3) []) (hA:EntAt W S e v1 v2 v3) (hS:∀ b,S b→b ≠ E∧b ≠ pr) (hpr:pr ≠ E) :
  Calls Tryz.prog 157 #[St line,.bool gone,.pointer (some ⟨pe,0,none⟩),.pointer (some ⟨pr,0,none⟩)] W fun r w'=>r=.returned (I (zat e.cell line gone).2)∧Did W w' E pr S { e with cell:=(zat e.cell line gone).1 } v1:=by
 obtain⟨A1,n1,rfl,-,-⟩:=hA.seen.form
 obtain⟨A2,n2,rfl,-,-⟩:=hA.counts.form
 obtain⟨A3,n3,rfl,-,-⟩:=hA.items.form
 have HA:=zH hA
 have HS:=zH hS
 clear hA hS
 have hEl:=hE.lt
 let J1:World→Prop:=fun w=>RowIs w E 37 (entL { e with cell:=(zat e.cell line gone).1 } (.slice A1 e.seen.length n1) (.slice A2 e.counts.length n2) (.slice A3 e.items.length n3)) []∧RowIs w pr 38 [z] []∧Kept2 W w E pr
 go_enter Tryz.func157,Tryz.ntmps157
 go_wp2_with fail
 refine zep [.early (fun v _=>v=.pointer (some ⟨E,0,none⟩)),
  .early (fun v _=>v=.pointer (some ⟨E,0,none⟩)),
  .early (fun v _=>v=.pointer (some ⟨E,0,none⟩)),
  .early (fun v _=>v=.pointer (some ⟨E,4,none⟩)),
  .early (fun v _=>v=zbz e.cell),
  .early (fun v _=>v=St line),
  .early (fun v _=>v=.bool gone),
  .early (fun v _=>v=.tuple #[zbz (zat e.cell line gone).1,I (zat e.cell line gone).2]),
  .early (fun v _=>v=.tuple #[zbz (zat e.cell line gone).1,I (zat e.cell line gone).2]),
  .early (fun v _=>v=zbz (zat e.cell line gone).1),
  .late (fun v _=>v=I (zat e.cell line gone).2),
  .early (fun v _=>v=.pointer (some ⟨E,0,none⟩)),
  .early (fun v _=>v=.pointer (some ⟨E,4,none⟩)),
  .store] 13 (fun w=>Ext W w) J1 (MvE E) rfl (by kernel_rfl) (by kernel_rfl) ?hR ?hJ ?hstep ?hend
 case hR =>
  simp only [List.mem_cons,List.not_mem_nil,or_false,forall_eq_or_imp,forall_eq,HF.fact]
  exact⟨kP,kP,kP,kP,kP,kP,kP,kP,kP,kP,kP,kP,kP,kP⟩
 case hJ=>exact (Ext.refl W).drew
 case hstep =>
  simp only [List.length_cons,List.length_nil,Nat.reduceAdd,List.take_succ_cons,List.take_zero,zc5,and_true]
  refine ⟨?_,?_,?_,?_,?_,?_,?_,?_,?_,?_,?_,?_,?_,?_⟩
  ·intro x W1 hj f
   have h:x 2=.pointer (some ⟨pe,0,none⟩):=f.1
   have hc:=hj.cell hpe
   go_wp
   exact zae rfl ⟨hj,MvE.refl _ _⟩
  ·intro x W1 hj f
   have h:x 2=.pointer (some ⟨pe,0,none⟩):=f.1
   have hc:=hj.cell hpe
   go_wp
   exact zae rfl ⟨hj,MvE.refl _ _⟩
  ·intro x W1 hj f
   have h:x 9=.pointer (some ⟨E,0,none⟩):=f.1
   go_wp
   exact zae rfl ⟨hj,MvE.refl _ _⟩
  ·intro x W1 hj f
   have h:x 10=.pointer (some ⟨E,0,none⟩):=f.1
   go_wp
   exact zae rfl ⟨hj,MvE.refl _ _⟩
  ·intro x W1 hj f
   have h:x 11=.pointer (some ⟨E,4,none⟩):=f.1
   have hc4:=(hE.ext hj).cell (j:=4) rfl
   have hc5:=(hE.ext hj).cell (j:=5) rfl
   have hc6:=(hE.ext hj).cell (j:=6) rfl
   go_wp
   exact zae rfl ⟨hj,MvE.refl _ _⟩
  ·intro x W1 hj f
   have h:x 0=St line:=f.1
   go_wp
   exact zae rfl ⟨hj,MvE.refl _ _⟩
  ·intro x W1 hj f
   have h:x 1=.bool gone:=f.1
   go_wp
   exact zae rfl ⟨hj,MvE.refl _ _⟩
  ·intro x W1 hj f
   have h1:x 12=zbz e.cell:=f.1
   have h2:x 13=St line:=f.2.1
   have h3:x 14=.bool gone:=f.2.2.1
   have HC:=zH (ztf e.cell line gone W1)
   go_wp
   refine HC.out.mono ?_
   rintro r W2 ⟨rfl,hx2⟩
   dsimp only
   go_wp
   exact zae rfl ⟨hj.trans hx2,hx2.mvE⟩
  ·intro x W1 hj f
   have h:x 15=.tuple #[zbz (zat e.cell line gone).1,I (zat e.cell line gone).2]:=f.1
   go_wp
   exact zae rfl ⟨hj,MvE.refl _ _⟩
  ·intro x W1 hj f
   have h:x 7=.tuple #[zbz (zat e.cell line gone).1,I (zat e.cell line gone).2]:=f.1
   go_wp
   exact zae rfl ⟨hj,MvE.refl _ _⟩
  ·intro x W1 b hj f
   have h:x 7=.tuple #[zbz (zat e.cell line gone).1,I (zat e.cell line gone).2]:=f.1
   go_wp
   exact zae rfl ⟨hj,MvE.refl _ _⟩
  ·intro x W1 hj f
   have h:x 8=.pointer (some ⟨E,0,none⟩):=f.1
   go_wp
   exact zae rfl ⟨hj,MvE.refl _ _⟩
  ·intro x W1 hj f
   have h:x 18=.pointer (some ⟨E,0,none⟩):=f.1
   go_wp
   exact zae rfl ⟨hj,MvE.refl _ _⟩
  ·intro x W1 hj f
   have h:x 19=.pointer (some ⟨E,4,none⟩):=f.1
   have h2:x 16=zbz (zat e.cell line gone).1:=f.2.1
   have hEW:=hE.ext hj
   have hc4:=hEW.cell (j:=4) rfl
   have hc5:=hEW.cell (j:=5) rfl
   have hc6:=hEW.cell (j:=6) rfl
   have hf4:=hEW.frozen 4
   have hf5:=hEW.frozen 5
   have hf6:=hEW.frozen 6
   have hE4:=hEW.set (j:=4) (by simp) (U (zat e.cell line gone).1.1)
   have hE5:=hE4.set (j:=5) (by simp) (St (zat e.cell line gone).1.2.1)
   have hE6:=hE5.set (j:=6) (by simp) (.bool (zat e.cell line gone).1.2.2)
   have hp:J1 (((W1.setCell ⟨E,4,none⟩ (U (zat e.cell line gone).1.1)).setCell ⟨E,5,none⟩ (St (zat e.cell line gone).1.2.1)).setCell ⟨E,6,none⟩ (.bool (zat e.cell line gone).1.2.2)):=⟨hE6,(((hr.ext hj).other hpr.symm _).other hpr.symm _).other hpr.symm _,(((hj.kept E pr).set1 _).set1 _).set1 _⟩
   have hm:MvE E W1 (((W1.setCell ⟨E,4,none⟩ (U (zat e.cell line gone).1.1)).setCell ⟨E,5,none⟩ (St (zat e.cell line gone).1.2.1)).setCell ⟨E,6,none⟩ (.bool (zat e.cell line gone).1.2.2)):=⟨by simp only [World.size_setCell];exact Nat.le_refl _,fun b _ hb=>((Below.heap_setCell _ _ _ _ hb).trans (Below.heap_setCell _ _ _ _ hb)).trans (Below.heap_setCell _ _ _ _ hb)⟩
   clear hE4 hE5 hE6 hEW hj
   go_wp
   exact zae (v:=undef) trivial ⟨hp,hm⟩
 case hend =>
  intro x W1 hj f
  obtain⟨hE1,hr1,hk⟩:=hj
  have h17:x 17=I (zat e.cell line gone).2:=f.2.2.2.2.2.2.2.2.2.2.1
  simp only [List.length_cons,List.length_nil,Nat.reduceAdd,List.take_succ_cons,List.take_zero,List.filterMap_cons,List.filterMap_nil,List.drop_succ_cons,List.drop_zero,zay,Act.put,List.setIfInBounds_toArray,List.set_cons_succ,List.set_cons_zero,h17]
  have hrf:=hr1.frozen 0
  have hrc:=hr1.cell (j:=0) rfl
  clear f
  have HK:=zH (hk.set2 (j:=0) (I (zat e.cell line gone).2))
  have HE:=zH (hE1.other (p:=⟨pr,0,none⟩) hpr (I (zat e.cell line gone).2))
  have hcs:=(hr1.set (j:=0) (by simp) (I (zat e.cell line gone).2)).cell (j:=0) rfl
  obtain⟨w9,hw9⟩:∃ w9,W1.setCell ⟨pr,0,none⟩ (I (zat e.cell line gone).2)=w9:=⟨_,rfl⟩
  rw [hw9] at HK HE hcs
  obtain⟨err,herr⟩:∃ err:Nat,(zat e.cell line gone).2=err:=⟨_,rfl⟩
  rw [herr] at hw9 hcs ⊢
  clear hr1 hE1 hk
  go_wp
  go_wp2_with fail
  go_ret
  have hA9:=HA.out.kept HK.out HS.out
  exact⟨by rw [herr];rfl,_,_,HE.out,⟨hA9.seen.mono (by decide) fun b _ h=>.inl h,hA9.counts.mono (by decide) fun b _ h=>.inl h,hA9.items.mono (by decide) fun b _ h=>.inl h⟩,HK.out⟩
theorem zx7 {S:Nat→Prop} {W:World} {pe pr E:Nat} {e:Entry} {v1 v2 v3 z:Value} {po pd:Nat} {tx:Str} {d1:Dot} (ho3:W.cell? ⟨po,3,none⟩=some (St tx)) (hd:W.cell? ⟨pd,0,none⟩=some (St d1.1)) (hd1:W.cell? ⟨pd,1,none⟩=some (U d1.2)) (hl:(zad e.items).length < 1099511627776)
  (hpe:W.cell? ⟨pe,0,none⟩=some (.pointer (some ⟨E,0,none⟩))) (hr:RowIs W pr 38 [z] []) (hE:RowIs W E 37 (entL e v1 v2 v3) []) (hA:EntAt W S e v1 v2 v3) (hS:∀ b,S b→b ≠ E∧b ≠ pr) (hpr:pr ≠ E) :
  Calls Tryz.prog 161 #[.pointer (some ⟨pe,0,none⟩),.pointer (some ⟨po,0,none⟩),.pointer (some ⟨pd,0,none⟩),.pointer (some ⟨pr,0,none⟩)] W fun r w'=>r=.returned (I (putB e.items tx d1).2)∧Did W w' E pr S { e with items:=(putB e.items tx d1).1 } v1:=by
 obtain⟨A1,n1,rfl,-,-⟩:=hA.seen.form
 obtain⟨A2,n2,rfl,-,-⟩:=hA.counts.form
 obtain⟨A3,n3,rfl,-,-⟩:=hA.items.form
 have HA:=zH hA
 have HS:=zH hS
 clear hA hS
 have hEl:=hE.lt
 let J1:World→Prop:=fun w=>∃ u,OwnL itemT 96 w W.heap.size (fun b=>W.heap.size≤b) u (putB e.items tx d1).1∧RowIs w E 37 (entL e (.slice A1 e.seen.length n1) (.slice A2 e.counts.length n2) u) []∧RowIs w pr 38 [z] []∧Kept2 W w E pr
 go_enter Tryz.func161,Tryz.ntmps161
 go_wp2_with fail
 refine zep [.early (fun v _=>v=.pointer (some ⟨E,0,none⟩)),
  .early (fun v _=>v=.pointer (some ⟨E,0,none⟩)),
  .early (fun v _=>v=.pointer (some ⟨E,0,none⟩)),
  .early (fun v _=>v=.pointer (some ⟨E,3,none⟩)),
  .early (fun v _=>v=.slice A3 e.items.length n3),
  .early (fun v _=>v=.pointer (some ⟨po,3,none⟩)),
  .early (fun v _=>v=St tx),
  .early (fun v _=>v=dotV d1),
  .early (fun v W2=>∃ v4,v=.tuple #[v4,I (putB e.items tx d1).2]∧OwnL itemT 96 W2 W.heap.size (fun b=>W.heap.size≤b) v4 (putB e.items tx d1).1),
  .early (fun v W2=>∃ v4,v=.tuple #[v4,I (putB e.items tx d1).2]∧OwnL itemT 96 W2 W.heap.size (fun b=>W.heap.size≤b) v4 (putB e.items tx d1).1),
  .early (fun v W2=>OwnL itemT 96 W2 W.heap.size (fun b=>W.heap.size≤b) v (putB e.items tx d1).1),
  .late (fun v _=>v=I (putB e.items tx d1).2),
  .early (fun v _=>v=.pointer (some ⟨E,0,none⟩)),
  .early (fun v _=>v=.pointer (some ⟨E,3,none⟩)),
  .store] 14 (fun w=>Ext W w) J1 (MvE E) rfl (by kernel_rfl) (by kernel_rfl) ?hR ?hJ ?hstep ?hend
 case hR =>
  simp only [List.mem_cons,List.not_mem_nil,or_false,forall_eq_or_imp,forall_eq,HF.fact]
  exact⟨kP,kP,kP,kP,kP,kP,kP,kP,fun v _ _ h he=>by obtain⟨u,e1,ho⟩:=h;exact⟨u,e1,ho.mvE he hEl⟩,fun v _ _ h he=>by obtain⟨u,e1,ho⟩:=h;exact⟨u,e1,ho.mvE he hEl⟩,fun v _ _ h he=>h.mvE he hEl,kP,kP,kP,kP⟩
 case hJ=>exact (Ext.refl W).drew
 case hstep =>
  simp only [List.length_cons,List.length_nil,Nat.reduceAdd,List.take_succ_cons,List.take_zero,zc5,and_true]
  refine ⟨?_,?_,?_,?_,?_,?_,?_,?_,?_,?_,?_,?_,?_,?_,?_⟩
  ·intro x W1 hj f
   have h:x 0=.pointer (some ⟨pe,0,none⟩):=f.1
   have hc:=hj.cell hpe
   go_wp
   exact zae rfl ⟨hj,MvE.refl _ _⟩
  ·intro x W1 hj f
   have h:x 0=.pointer (some ⟨pe,0,none⟩):=f.1
   have hc:=hj.cell hpe
   go_wp
   exact zae rfl ⟨hj,MvE.refl _ _⟩
  ·intro x W1 hj f
   have h:x 7=.pointer (some ⟨E,0,none⟩):=f.1
   go_wp
   exact zae rfl ⟨hj,MvE.refl _ _⟩
  ·intro x W1 hj f
   have h:x 8=.pointer (some ⟨E,0,none⟩):=f.1
   go_wp
   exact zae rfl ⟨hj,MvE.refl _ _⟩
  ·intro x W1 hj f
   have h:x 9=.pointer (some ⟨E,3,none⟩):=f.1
   have hc:=(hE.ext hj).cell (j:=3) rfl
   go_wp
   exact zae rfl ⟨hj,MvE.refl _ _⟩
  ·intro x W1 hj f
   have h:x 1=.pointer (some ⟨po,0,none⟩):=f.1
   go_wp
   exact zae rfl ⟨hj,MvE.refl _ _⟩
  ·intro x W1 hj f
   have h:x 11=.pointer (some ⟨po,3,none⟩):=f.1
   have hc:=hj.cell ho3
   go_wp
   exact zae rfl ⟨hj,MvE.refl _ _⟩
  ·intro x W1 hj f
   have h:x 2=.pointer (some ⟨pd,0,none⟩):=f.1
   have hc:=hj.cell hd
   have hc1:=hj.cell hd1
   go_wp
   exact zae rfl ⟨hj,MvE.refl _ _⟩
  ·intro x W1 hj f
   have h1:x 10=.slice A3 e.items.length n3:=f.1
   have h2:x 12=St tx:=f.2.1
   have h3:x 13=dotV d1:=f.2.2.1
   have hs:=hj.size
   have HC:=zH (zxx tx d1 (HA.out.items.ext (by decide) hj) hl)
   go_wp
   refine HC.out.mono ?_
   rintro r W2 ⟨v4,rfl,ho,hx2⟩
   dsimp only
   go_wp
   exact zae (v:=.tuple #[v4,I (putB e.items tx d1).2]) ⟨v4,rfl,(ho.lower hs).mono fun b _ h=>Nat.le_trans hs h⟩ ⟨hj.trans hx2,hx2.mvE⟩
  ·intro x W1 hj f
   obtain⟨v4,h,ho⟩:∃ v4,x 14=.tuple #[v4,I (putB e.items tx d1).2]∧OwnL itemT 96 W1 W.heap.size (fun b=>W.heap.size≤b) v4 (putB e.items tx d1).1:=f.1
   go_wp
   exact zae ⟨v4,rfl,ho⟩ ⟨hj,MvE.refl _ _⟩
  ·intro x W1 hj f
   obtain⟨v4,h,ho⟩:∃ v4,x 5=.tuple #[v4,I (putB e.items tx d1).2]∧OwnL itemT 96 W1 W.heap.size (fun b=>W.heap.size≤b) v4 (putB e.items tx d1).1:=f.1
   go_wp
   exact zae ho ⟨hj,MvE.refl _ _⟩
  ·intro x W1 b hj f
   obtain⟨v4,h,ho⟩:∃ v4,x 5=.tuple #[v4,I (putB e.items tx d1).2]∧OwnL itemT 96 W1 W.heap.size (fun b=>W.heap.size≤b) v4 (putB e.items tx d1).1:=f.1
   go_wp
   exact zae rfl ⟨hj,MvE.refl _ _⟩
  ·intro x W1 hj f
   have h:x 6=.pointer (some ⟨E,0,none⟩):=f.1
   go_wp
   exact zae rfl ⟨hj,MvE.refl _ _⟩
  ·intro x W1 hj f
   have h:x 17=.pointer (some ⟨E,0,none⟩):=f.1
   go_wp
   exact zae rfl ⟨hj,MvE.refl _ _⟩
  ·intro x W1 hj f
   have h:x 18=.pointer (some ⟨E,3,none⟩):=f.1
   have ho:OwnL itemT 96 W1 W.heap.size (fun b=>W.heap.size≤b) (x 15) (putB e.items tx d1).1:=f.2.1
   obtain⟨A,c,hA,-,-⟩:=ho.form
   have hEW:=hE.ext hj
   have hc:=hEW.cell (j:=3) rfl
   have hf:=hEW.frozen 3
   rw [hA] at ho
   have hp:J1 (W1.setCell ⟨E,3,none⟩ (.slice A (putB e.items tx d1).1.length c)):=⟨_,ho.mvE (MvE.set _ _ _ _) hEl,hEW.set (j:=3) (by simp) _,(hr.ext hj).other hpr.symm _,(hj.kept E pr).set1 _⟩
   have hm:=MvE.set E 3 W1 (.slice A (putB e.items tx d1).1.length c)
   generalize hW2:W1.setCell ⟨E,3,none⟩ (.slice A (putB e.items tx d1).1.length c)=W2 at *
   clear hj ho hEW
   go_wp
   exact zae (v:=undef) trivial ⟨hp,hm⟩
 case hend =>
  intro x W1 hj f
  obtain⟨u,ho,hE1,hr1,hk⟩:=hj
  have h17:x 16=I (putB e.items tx d1).2:=f.2.2.2.2.2.2.2.2.2.2.2.1
  simp only [List.length_cons,List.length_nil,Nat.reduceAdd,List.take_succ_cons,List.take_zero,List.filterMap_cons,List.filterMap_nil,List.drop_succ_cons,List.drop_zero,zay,Act.put,List.setIfInBounds_toArray,List.set_cons_succ,List.set_cons_zero,h17]
  have hrf:=hr1.frozen 0
  have hrc:=hr1.cell (j:=0) rfl
  clear f
  have HK:=zH (hk.set2 (j:=0) (I (putB e.items tx d1).2))
  have HE:=zH (hE1.other (p:=⟨pr,0,none⟩) hpr (I (putB e.items tx d1).2))
  have HO:=zH ((ho.mono (S':=fun b=>W.heap.size≤b∧b ≠ pr) (fun b _ h=>⟨h,by have:=hr.lt;omega⟩)).keep (w':=W1.setCell ⟨pr,0,none⟩ (I (putB e.items tx d1).2)) (fun b hb _=>Below.heap_setCell _ _ _ _ (fun e2=>hb.2 e2)) fun b hb _=>Below.heap_setCell _ _ _ _ (fun e2=>by have:=(ho.base_le hb).1;have:=hr.lt;have e3:b=pr:=e2;omega))
  clear ho
  have hcs:=(hr1.set (j:=0) (by simp) (I (putB e.items tx d1).2)).cell (j:=0) rfl
  obtain⟨w9,hw9⟩:∃ w9,W1.setCell ⟨pr,0,none⟩ (I (putB e.items tx d1).2)=w9:=⟨_,rfl⟩
  rw [hw9] at HK HE HO hcs
  obtain⟨err,herr⟩:∃ err:Nat,(putB e.items tx d1).2=err:=⟨_,rfl⟩
  rw [herr] at hw9 hcs ⊢
  clear hr1 hE1 hk
  go_wp
  go_wp2_with fail
  go_ret
  have hA9:=HA.out.kept HK.out HS.out
  exact⟨by rw [herr];rfl,_,u,HE.out,⟨hA9.seen.mono (by decide) fun b _ h=>.inl h,hA9.counts.mono (by decide) fun b _ h=>.inl h,HO.out.sl (by decide) (fun _ _ h=>.inr h.1) (fun b h _=>.inr h)⟩,HK.out⟩
end
section
open Go.RowKit Go.Shelf
theorem Did.mono {W W1 w':World} {E pr:Nat} {S:Nat→Prop} {e':Entry} {v1:Value} (h:Did W1 w' E pr S e' v1) (he:Ext W W1):Did W w' E pr S e' v1:=by
 obtain⟨u2,u3,h1,h2,h3⟩:=h
 exact⟨u2,u3,h1,h2.mono (fun b _ hb=>hb.elim .inl fun h=>.inr (Nat.le_trans he.size h)),⟨h3.os.trans he.os,h3.tape.trans he.tape,h3.output.trans he.output,Nat.le_trans he.size h3.size,fun j hj a b=>(h3.other j (Nat.lt_of_lt_of_le hj he.size) a b).trans (he.block j hj)⟩⟩
theorem zx8 {S:Nat→Prop} {W:World} {pa po pe pd pr E:Nat} {e:Entry} {v1 v2 v3 z:Value} {d1:Str} (n:Int) (hn1:-9223372036854775808≤n) (hn2:n≤9223372036854775807)
  (hpa:W.cell? ⟨pa,0,none⟩=some (.func (.func 155) #[] #[.pointer (some ⟨pe,0,none⟩),.pointer (some ⟨pd,0,none⟩),.pointer (some ⟨pr,0,none⟩)])) (hpo:W.cell? ⟨po,2,none⟩=some (I n))
  (hd:W.cell? ⟨pd,0,none⟩=some (St d1)) (hl:e.counts.length < 1099511627776)
  (hpe:W.cell? ⟨pe,0,none⟩=some (.pointer (some ⟨E,0,none⟩))) (hr:RowIs W pr 38 [z] []) (hE:RowIs W E 37 (entL e v1 v2 v3) []) (hA:EntAt W S e v1 v2 v3) (hS:∀ b,S b→b ≠ E∧b ≠ pr) (hpr:pr ≠ E) :
  Calls Tryz.prog 159 #[.pointer (some ⟨pa,0,none⟩),.pointer (some ⟨po,0,none⟩)] W fun r w'=>r=.returned (I (addC e.counts d1 n).2)∧Did W w' E pr S { e with counts:=(addC e.counts d1 n).1 } v1:=by
 have eg:∀ args w,(callFunc 155 args).run Tryz.prog w=.ok (.enter 155 args) w:=enters_of Tryz.func155 (by kernel_rfl) rfl
 have HC:=zH (zqa n hn1 hn2 hd hl hpe hr hE hA hS hpr)
 clear hd hl hpe hr hE hA hS hpr hn1 hn2
 go_enter Tryz.func159,Tryz.ntmps159
 go_wp2_with fail
 refine HC.out.mono ?_
 rintro r W1 ⟨rfl,hD⟩
 go_wp2_with fail
 go_ret
 exact⟨rfl,hD⟩
theorem eqI {a b:Int} (h:a=b):(a == b)=true:=by simpa using h
theorem neI {a b:Int} (h:a ≠ b):(a == b)=false:=by simpa using h
def delC (l:List zak) (s:Str):List zak × Nat:=if zcg l = -9223372036854775808 then (l,9) else addC l s (-zcg l)
theorem zx9 {S:Nat→Prop} {W:World} {pa pe pd pr E:Nat} {e:Entry} {v1 v2 v3 z:Value} {d1:Str}
  (hpa:W.cell? ⟨pa,0,none⟩=some (.func (.func 155) #[] #[.pointer (some ⟨pe,0,none⟩),.pointer (some ⟨pd,0,none⟩),.pointer (some ⟨pr,0,none⟩)]))
  (hd:W.cell? ⟨pd,0,none⟩=some (St d1)) (hl:e.counts.length < 1099511627776)
  (hpe:W.cell? ⟨pe,0,none⟩=some (.pointer (some ⟨E,0,none⟩))) (hr:RowIs W pr 38 [z] []) (hE:RowIs W E 37 (entL e v1 v2 v3) []) (hA:EntAt W S e v1 v2 v3) (hS:∀ b,S b→b ≠ E∧b ≠ pr) (hpr:pr ≠ E) :
  Calls Tryz.prog 160 #[.pointer (some ⟨pe,0,none⟩),.pointer (some ⟨pa,0,none⟩)] W fun r w'=>r=.returned (I (delC e.counts d1).2)∧Did W w' E pr S { e with counts:=(delC e.counts d1).1 } v1:=by
 have eg:∀ args w,(callFunc 155 args).run Tryz.prog w=.ok (.enter 155 args) w:=enters_of Tryz.func155 (by kernel_rfl) rfl
 have hV:=zn0 (sumL (za7 e.counts) (zbe e.counts))
 have HC:=zH (zh2 hA.counts)
 have k2:=hE.cell (j:=2) rfl
 obtain⟨A2,n2,rfl,-,-⟩:=hA.counts.form
 have HD:=zH (show delC e.counts d1=if zcg e.counts = -9223372036854775808 then (e.counts,9) else addC e.counts d1 (-zcg e.counts) from rfl)
 have HADD:=zH (fun (W1:World) (n:Int) (a:-9223372036854775808≤n) (b:n≤9223372036854775807) (hx:Ext W W1)=>zqa n a b (hx.cell hd) hl (hx.cell hpe) (hr.ext hx) (hE.ext hx) (hA.ext hx) hS hpr)
 have HE:=zH hE
 have HA:=zH hA
 change -9223372036854775808≤zcg e.counts∧zcg e.counts≤9223372036854775807 at hV
 clear hd hl hr hE hA hS hpr
 go_enter Tryz.func160,Tryz.ntmps160
 go_wp2_with fail
 refine HC.out.mono ?_
 rintro r W1 ⟨rfl,hx1⟩
 obtain⟨v,hv⟩:∃ v,zcg e.counts=v:=⟨_,rfl⟩
 rw [hv] at hV HD
 rw [hv]
 have hpa1:=hx1.cell hpa
 by_cases h:v = -9223372036854775808
 ·have HD2:=zH (show delC e.counts d1=(e.counts,9) by rw [HD.out,if_pos h])
  have hk:=eqI h
  clear h
  go_wp2_with fail
  go_ret
  exact⟨by rw [HD2.out];rfl,by rw [HD2.out];exact⟨_,_,HE.out.ext hx1,(HA.out.ext hx1).mono fun b _ h=>.inl h,hx1.kept _ _⟩⟩
 ·have HD2:=zH (show delC e.counts d1=addC e.counts d1 (-v) by rw [HD.out,if_neg h])
  have hk:=neI h
  have hw:IntKind.i64.wrap (-v) = -v:=by rw [IntKind.wrap_i64];omega
  have HC2:=zH (HADD.out W1 (-v) (by omega) (by omega) hx1)
  have HX1:=zH hx1
  clear h HADD hx1
  go_wp2_with fail
  refine HC2.out.mono ?_
  rintro r W2 ⟨rfl,hD⟩
  go_wp2_with fail
  go_ret
  exact⟨by rw [HD2.out];rfl,by rw [HD2.out];exact hD.mono HX1.out⟩
theorem zya {S:Nat→Prop} {W:World} {pe pr E:Nat} {e:Entry} {v1 v2 v3:Value}
  (hpe:W.cell? ⟨pe,0,none⟩=some (.pointer (some ⟨E,0,none⟩))) (hE:RowIs W E 37 (entL e v1 v2 v3) []) (hA:EntAt W S e v1 v2 v3) (hS:∀ b,S b→b ≠ E∧b ≠ pr) :
  Calls Tryz.prog 165 #[.pointer (some ⟨pe,0,none⟩)] W fun r w'=>r=.returned (I 0)∧Did W w' E pr S { e with items:=[] } v1:=by
 obtain⟨A3,n3,rfl,-,-⟩:=hA.items.form
 have hc:=hE.cell (j:=3) rfl
 have hf:=hE.frozen 3
 have HK:=zH ((Kept2.refl W E pr).set1 (j:=3) (.slice none 0 0))
 have HE:=zH (hE.set (j:=3) (by simp) (.slice none 0 0))
 have HA:=zH (hA.kept HK.out hS)
 clear hE hA hS
 go_enter Tryz.func165,Tryz.ntmps165
 go_wp2_with fail
 go_ret
 exact⟨rfl,_,_,HE.out,⟨HA.out.seen.mono (by decide) fun b _ h=>.inl h,HA.out.counts.mono (by decide) fun b _ h=>.inl h,Sl.nil _ _ (by decide)⟩,HK.out⟩
theorem zyb {S:Nat→Prop} {W:World} {pa po pe pr E:Nat} {e:Entry} {v1 v2 v3 z:Value} {tx:Str}
  (hpa:W.cell? ⟨pa,0,none⟩=some (.func (.func 157) #[] #[.pointer (some ⟨pe,0,none⟩),.pointer (some ⟨pr,0,none⟩)])) (hpo:W.cell? ⟨po,3,none⟩=some (St tx))
  (hpe:W.cell? ⟨pe,0,none⟩=some (.pointer (some ⟨E,0,none⟩))) (hr:RowIs W pr 38 [z] []) (hE:RowIs W E 37 (entL e v1 v2 v3) []) (hA:EntAt W S e v1 v2 v3) (hS:∀ b,S b→b ≠ E∧b ≠ pr) (hpr:pr ≠ E) :
  Calls Tryz.prog 166 #[.pointer (some ⟨pa,0,none⟩),.pointer (some ⟨po,0,none⟩)] W fun r w'=>r=.returned (I (zat e.cell tx false).2)∧Did W w' E pr S { e with cell:=(zat e.cell tx false).1 } v1:=by
 have eg:∀ args w,(callFunc 157 args).run Tryz.prog w=.ok (.enter 157 args) w:=enters_of Tryz.func157 (by kernel_rfl) rfl
 have HC:=zH (zqb tx false hpe hr hE hA hS hpr)
 clear hpe hr hE hA hS hpr
 go_enter Tryz.func166,Tryz.ntmps166
 go_wp2_with fail
 refine HC.out.mono ?_
 rintro r W1 ⟨rfl,hD⟩
 go_wp2_with fail
 go_ret
 exact⟨rfl,hD⟩
theorem zyc {S:Nat→Prop} {W:World} {pa pe pr E:Nat} {e:Entry} {v1 v2 v3 z:Value}
  (hpa:W.cell? ⟨pa,0,none⟩=some (.func (.func 157) #[] #[.pointer (some ⟨pe,0,none⟩),.pointer (some ⟨pr,0,none⟩)]))
  (hpe:W.cell? ⟨pe,0,none⟩=some (.pointer (some ⟨E,0,none⟩))) (hr:RowIs W pr 38 [z] []) (hE:RowIs W E 37 (entL e v1 v2 v3) []) (hA:EntAt W S e v1 v2 v3) (hS:∀ b,S b→b ≠ E∧b ≠ pr) (hpr:pr ≠ E) :
  Calls Tryz.prog 167 #[.pointer (some ⟨pa,0,none⟩)] W fun r w'=>r=.returned (I (zat e.cell [] true).2)∧Did W w' E pr S { e with cell:=(zat e.cell [] true).1 } v1:=by
 have eg:∀ args w,(callFunc 157 args).run Tryz.prog w=.ok (.enter 157 args) w:=enters_of Tryz.func157 (by kernel_rfl) rfl
 have HC:=zH (zqb [] true hpe hr hE hA hS hpr)
 clear hpe hr hE hA hS hpr
 go_enter Tryz.func167,Tryz.ntmps167
 go_wp2_with fail
 refine HC.out.mono ?_
 rintro r W1 ⟨rfl,hD⟩
 go_wp2_with fail
 go_ret
 exact⟨rfl,hD⟩
theorem zyd {S:Nat→Prop} {W:World} {po pe pr E:Nat} {e:Entry} {v1 v2 v3:Value} {tx:Str} (ho3:W.cell? ⟨po,3,none⟩=some (St tx)) (hl:(zad e.items).length≤1099511627776)
  (hpe:W.cell? ⟨pe,0,none⟩=some (.pointer (some ⟨E,0,none⟩))) (hE:RowIs W E 37 (entL e v1 v2 v3) []) (hA:EntAt W S e v1 v2 v3) (hS:∀ b,S b→b ≠ E∧b ≠ pr) :
  Calls Tryz.prog 163 #[.pointer (some ⟨pe,0,none⟩),.pointer (some ⟨po,0,none⟩)] W fun r w'=>r=.returned (I 0)∧Did W w' E pr S { e with items:=zfe e.items tx } v1:=by
 obtain⟨A1,n1,rfl,-,-⟩:=hA.seen.form
 obtain⟨A2,n2,rfl,-,-⟩:=hA.counts.form
 obtain⟨A3,n3,rfl,-,-⟩:=hA.items.form
 have HA:=zH hA
 have HS:=zH hS
 have hEl:=hE.lt
 clear hA hS
 go_enter Tryz.func163,Tryz.ntmps163
 go_wp2_with fail
 refine za3 [fun v _=>v=.pointer (some ⟨E,0,none⟩),fun v _=>v=.pointer (some ⟨E,0,none⟩),fun v _=>v=.pointer (some ⟨E,0,none⟩),fun v _=>v=.pointer (some ⟨E,3,none⟩),fun v _=>v=.slice A3 e.items.length n3,fun v _=>v=.pointer (some ⟨po,3,none⟩),fun v _=>v=St tx,
  fun v W2=>OwnL itemT 96 W2 W.heap.size (fun b=>W.heap.size≤b) v (zfe e.items tx),fun v _=>v=.pointer (some ⟨E,0,none⟩),fun v _=>v=.pointer (some ⟨E,3,none⟩)] rfl (by kernel_rfl) ?hR ?hstep ?hend
 case hR =>
  simp only [List.mem_cons,List.not_mem_nil,or_false,forall_eq_or_imp,forall_eq]
  exact⟨kP,kP,kP,kP,kP,kP,kP,fun v _ _ h he=>h.ext he,kP,kP⟩
 case hstep =>
  simp only [List.length_cons,List.length_nil,Nat.reduceAdd,List.take_succ_cons,List.take_zero,zb3,and_true]
  refine ⟨?_,?_,?_,?_,?_,?_,?_,?_,?_,?_⟩
  ·intro x W1 he f
   have h:x 0=.pointer (some ⟨pe,0,none⟩):=f.1
   have hc:=he.cell hpe
   go_wp
   exact sQ
  ·intro x W1 he f
   have h:x 0=.pointer (some ⟨pe,0,none⟩):=f.1
   have hc:=he.cell hpe
   go_wp
   exact sQ
  ·intro x W1 he f
   have h:x 4=.pointer (some ⟨E,0,none⟩):=f.1
   go_wp
   exact sQ
  ·intro x W1 he f
   have h:x 5=.pointer (some ⟨E,0,none⟩):=f.1
   go_wp
   exact sQ
  ·intro x W1 he f
   have h:x 6=.pointer (some ⟨E,3,none⟩):=f.1
   have hc:=(hE.ext he).cell (j:=3) rfl
   go_wp
   exact sQ
  ·intro x W1 he f
   have h:x 1=.pointer (some ⟨po,0,none⟩):=f.1
   go_wp
   exact sQ
  ·intro x W1 he f
   have h:x 8=.pointer (some ⟨po,3,none⟩):=f.1
   have hc:=he.cell ho3
   go_wp
   exact sQ
  ·intro x W1 he f
   have h1:x 7=.slice A3 e.items.length n3:=f.1
   have h2:x 9=St tx:=f.2.1
   have hs:=he.size
   have HC:=zH (zxw tx (HA.out.items.ext (by decide) he) hl)
   go_wp
   refine HC.out.mono ?_
   rintro r W2 ⟨v4,rfl,ho,hx2⟩
   dsimp only
   go_wp
   exact zaa (v:=v4) ((ho.lower hs).mono fun b _ h=>Nat.le_trans hs h) hx2
  ·intro x W1 he f
   have h:x 3=.pointer (some ⟨E,0,none⟩):=f.1
   go_wp
   exact sQ
  ·intro x W1 he f
   have h:x 11=.pointer (some ⟨E,0,none⟩):=f.1
   go_wp
   exact sQ
 case hend =>
  intro x W1 he f
  have h12:x 12=.pointer (some ⟨E,3,none⟩):=f.2.2.2.2.2.2.2.2.2.1
  have ho:OwnL itemT 96 W1 W.heap.size (fun b=>W.heap.size≤b) (x 10) (zfe e.items tx):=f.2.2.2.2.2.2.2.1
  obtain⟨A,c,hA,-,-⟩:=ho.form
  simp only [List.length_cons,List.length_nil,Nat.reduceAdd,List.take_succ_cons,List.take_zero,List.filterMap_cons,List.filterMap_nil,List.drop_succ_cons,List.drop_zero,zay,Act.put,List.setIfInBounds_toArray,List.set_cons_succ,List.set_cons_zero,h12,hA]
  rw [hA] at ho
  have hEW:=hE.ext he
  have hc:=hEW.cell (j:=3) rfl
  have hf:=hEW.frozen 3
  have HE:=zH (hEW.set (j:=3) (by simp) (.slice A (zfe e.items tx).length c))
  have HK:=zH ((he.kept E pr).set1 (j:=3) (.slice A (zfe e.items tx).length c))
  have HO:=zH (ho.mvE (MvE.set E 3 W1 (.slice A (zfe e.items tx).length c)) hEl)
  clear f ho hEW
  go_wp
  go_wp2_with fail
  go_ret
  have hA9:=HA.out.kept HK.out HS.out
  exact⟨rfl,_,_,HE.out,⟨hA9.seen.mono (by decide) fun b _ h=>.inl h,hA9.counts.mono (by decide) fun b _ h=>.inl h,HO.out.sl (by decide) (fun b _ h=>.inr h) (fun b h _=>.inr h)⟩,HK.out⟩
end
section
def SortedC (l:List zak):Prop:=l.Pairwise fun a b=>ltS a.1 b.1=true
def GoodC (l:List zak):Prop:=SortedC l∧∀ c ∈ l,¬ (c.2.1=0∧c.2.2=0)
theorem zkq:∀ (l:List zak) (o:Option Str),zcv o l=true↔GoodC l∧∀ s,o=some s→∀ c ∈ l,ltS s c.1=true
 | [],o=>by simp [zcv,GoodC,SortedC]
 | c :: r,o=>by
  have ih:=zkq r (some c.1)
  unfold zcv
  rw [Bool.and_eq_true,Bool.and_eq_true,ih]
  have h0:((!(c.2.1 == 0 && c.2.2 == 0))=true)↔¬ (c.2.1=0∧c.2.2=0):=by simp only [Bool.not_eq_true',Bool.and_eq_false_iff,beq_eq_false_iff_ne];omega
  rw [h0]
  constructor
  ·rintro⟨⟨h1,h2⟩,⟨h3,h4⟩,h5⟩
   have h5':=h5 c.1 rfl
   refine ⟨⟨List.pairwise_cons.2 ⟨h5',h3⟩,fun x hx=>?_⟩,fun s hs x hx=>?_⟩
   ·rcases List.mem_cons.1 hx with rfl | hx
    ·exact h1
    ·exact h4 x hx
   ·subst hs
    rcases List.mem_cons.1 hx with rfl | hx
    ·exact h2
    ·exact zaw h2 (h5' x hx)
  ·rintro⟨⟨h1,h2⟩,h3⟩
   refine ⟨⟨h2 c (by simp),?_⟩,⟨(List.pairwise_cons.1 h1).2,fun x hx=>h2 x (by simp [hx])⟩,fun s hs=>?_⟩
   ·cases o with
    | none=>rfl
    | some s=>exact h3 s rfl c (by simp)
   ·cases hs
    exact (List.pairwise_cons.1 h1).1
theorem mayL_iff {l:List zak}:mayL l=true↔GoodC l:=by
 unfold mayL
 rw [zkq]
 simp
theorem ztm {l:List Str} (hn:l.Nodup):(zbk l).Pairwise fun a b=>ltS a b=true:=by
 have h1:=zgo l
 have h2:(zbk l).Nodup:=(zdz l).nodup_iff.2 hn
 exact (h1.and h2).imp fun {a b} h=>by
  rcases zcp a b with k | k | k
  ·exact k
  ·exact absurd k h.2
  ·rw [h.1] at k;cases k
theorem listL_mem {Lp Lm:List (Str × Nat)} {c:zak}:c ∈ zej Lp Lm↔c.1 ∈ Lp.map Prod.fst∧¬ (getL 0 Lp c.1=0∧getL 0 Lm c.1=0)∧c.2=(getL 0 Lp c.1,getL 0 Lm c.1):=by
 obtain⟨k,n,m⟩:=c
 unfold zej zbs
 rw [List.mem_map]
 constructor
 ·rintro⟨x,hx,he⟩
  obtain⟨h1,h2⟩:=List.mem_filter.1 hx
  injection he with e1 e2
  subst e1
  refine ⟨(zdz _).mem_iff.1 h1,?_,e2.symm⟩
  rintro⟨h3,h4⟩
  simp [h3,h4] at h2
 ·rintro⟨h1,h2,h3⟩
  refine ⟨k,List.mem_filter.2 ⟨(zdz _).mem_iff.2 h1,?_⟩,by simp only at h3;rw [h3]⟩
  by_cases h:getL 0 Lp k=0
  ·have:getL 0 Lm k ≠ 0:=fun h'=>h2 ⟨h,h'⟩
   simp [this]
  ·simp [h]
theorem zjl {Lp Lm:List (Str × Nat)} (hn:(Lp.map Prod.fst).Nodup):GoodC (zej Lp Lm):=by
 refine ⟨?_,fun c hc=>?_⟩
 ·unfold zej zbs SortedC
  rw [List.pairwise_map]
  exact (ztm hn).filter _
 ·obtain⟨-,h2,h3⟩:=listL_mem.1 hc
  rw [h3]
  exact h2
theorem zjm (f:Nat→Nat→Nat) {L:List (Str × Nat)} (h:(L.map Prod.fst).Nodup) (c:zak):((putP f L c).map Prod.fst).Nodup:=zi9 h _ _
theorem zmb {L:List (Str × Nat)} {k s:Str} {v:Nat}:s ∈ (putL L k v).map Prod.fst↔s=k ∨ s ∈ L.map Prod.fst:=by
 rw [zid]
 by_cases h:k ∈ L.map Prod.fst
 ·rw [if_pos h]
  constructor
  ·exact .inr
  ·rintro (rfl | h')
   ·exact h
   ·exact h'
 ·rw [if_neg h,List.mem_append,List.mem_singleton]
  exact⟨fun h=>h.symm,fun h=>h.symm⟩
theorem zis:∀ (cs:List zak) (L:List (Str × Nat)),(L.map Prod.fst).Nodup→((cs.foldl (putP max) L).map Prod.fst).Nodup∧∀ s,s ∈ (cs.foldl (putP max) L).map Prod.fst↔(∃ c ∈ cs,c.1=s) ∨ s ∈ L.map Prod.fst
 | [],L,h=>⟨h,fun s=>by simp⟩
 | c :: r,L,h=>by
  obtain⟨h1,h2⟩:=zis r (putP max L c) (zjm _ h c)
  refine ⟨h1,fun s=>?_⟩
  rw [List.foldl_cons,h2]
  unfold putP
  rw [zmb]
  constructor
  ·rintro (⟨x,hx,he⟩ | h | h)
   ·exact .inl ⟨x,by simp [hx],he⟩
   ·exact .inl ⟨c,by simp,h.symm⟩
   ·exact .inr h
  ·rintro (⟨x,hx,he⟩ | h)
   ·rcases List.mem_cons.1 hx with rfl | hx
    ·exact .inr (.inl he.symm)
    ·exact .inl ⟨x,hx,he⟩
   ·exact .inr (.inr h)
theorem ze9 (cs:List zak):((za7 cs).map Prod.fst).Nodup:=(zis cs [] (by simp)).1
theorem plusOf_key {cs:List zak} {s:Str}:s ∈ (za7 cs).map Prod.fst↔∃ c ∈ cs,c.1=s:=by
 rw [show za7 cs=cs.foldl (putP max) [] from rfl,(zis cs [] (by simp)).2]
 simp
theorem zv5 (l:List zak) (s:Str) (n:Int):GoodC (addL l s n):=zjl (zjm _ (ze9 l) _)
end
section
open Go.RowKit
section
variable {κ ν:Type} [DecidableEq κ]
theorem zi1 {a b:κ} (h:¬ a=b):(a == b)=false:=beq_eq_false_iff_ne.2 h
theorem zru (L:List (κ × ν)) (k s:κ) (v:ν):(L++[(k,v)]).lookup s=match L.lookup s with | some x=>some x | none=>if s=k then some v else none:=by
 induction L with
 | nil =>
  by_cases h:s=k
  ·subst h;simp [List.lookup]
  ·simp [List.lookup,zi1 h,h]
 | cons p r ih =>
  obtain⟨a,b⟩:=p
  simp only [List.cons_append,List.lookup]
  by_cases h:s=a
  ·subst h;simp
  ·simp [zi1 h,ih]
theorem ztn (L:List (κ × ν)) (k s:κ) (v:ν):(L.map fun p=>if p.1=k then (k,v) else p).lookup s=if s=k then (if k ∈ L.map Prod.fst then some v else none) else L.lookup s:=by
 induction L with
 | nil=>simp [List.lookup]
 | cons p r ih =>
  obtain⟨a,b⟩:=p
  by_cases ha:a=k
  ·subst ha
   simp only [List.map_cons,if_pos,List.lookup,List.mem_cons,true_or]
   by_cases h:s=a
   ·subst h;simp
   ·simp [zi1 h,h,ih]
  ·simp only [List.map_cons,if_neg ha,List.lookup,List.mem_cons]
   by_cases h:s=a
   ·subst h;simp [ha]
   ·have hk:¬ k=a:=fun e=>ha e.symm
    rw [zi1 h]
    simp only [ih]
    by_cases hs:s=k
    ·subst hs
     rw [if_pos rfl,if_pos rfl]
     by_cases hm:s ∈ r.map Prod.fst
     ·rw [if_pos hm,if_pos (.inr hm)]
     ·rw [if_neg hm,if_neg fun e=>e.elim h hm]
    ·simp [hs]
theorem lookup_none {L:List (κ × ν)} {s:κ}:L.lookup s=none↔s ∉ L.map Prod.fst:=by
 induction L with
 | nil=>simp [List.lookup]
 | cons p r ih =>
  obtain⟨a,b⟩:=p
  simp only [List.lookup,List.map_cons,List.mem_cons]
  by_cases h:s=a
  ·subst h;simp
  ·simp [zi1 h,h,ih]
theorem zjn (z:ν) (L:List (κ × ν)) (k s:κ) (v:ν):getL z (putL L k v) s=if s=k then v else getL z L s:=by
 unfold getL putL
 by_cases hk:k ∈ L.map Prod.fst
 ·rw [if_pos hk,ztn]
  by_cases h:s=k
  ·simp [h,hk]
  ·simp [h]
 ·rw [if_neg hk,zru]
  by_cases h:s=k
  ·subst h
   rw [lookup_none.2 hk];simp
  ·cases hl:L.lookup s <;> simp [h]
theorem zog {z:ν} {L:List (κ × ν)} {s:κ} (h:s ∉ L.map Prod.fst):getL z L s=z:=by unfold getL;rw [lookup_none.2 h];rfl
theorem zv6 (z:ν) (a:κ) (b:ν) (L:List (κ × ν)) (s:κ):getL z ((a,b) :: L) s=if s=a then b else getL z L s:=by
 unfold getL
 simp only [List.lookup]
 by_cases h:s=a
 ·subst h;simp
 ·simp [zi1 h,h]
end
def zb5 (l:List zak) (s:Str):Nat:=getL 0 (za7 l) s
def zbp (l:List zak) (s:Str):Nat:=getL 0 (zbe l) s
theorem zoh (s:Str):∀ (l:List zak) (L:List (Str × Nat)) (x:Nat),getL 0 (l.foldl (putP max) L) s≤x↔getL 0 L s≤x∧∀ c ∈ l,c.1=s→c.2.1≤x
 | [],L,x=>by simp
 | c :: r,L,x=>by
  rw [List.foldl_cons,zoh s r]
  unfold putP
  rw [zjn]
  simp only [List.mem_cons,forall_eq_or_imp]
  by_cases h:s=c.1
  ·subst h
   rw [if_pos rfl]
   constructor
   ·rintro⟨h1,h2⟩;exact⟨by omega,fun _=>by omega,h2⟩
   ·rintro⟨h1,h2,h3⟩;have:=h2 rfl;exact⟨by omega,h3⟩
  ·rw [if_neg h]
   constructor
   ·rintro⟨h1,h2⟩;exact⟨h1,fun e=>absurd e.symm h,h2⟩
   ·rintro⟨h1,-,h3⟩;exact⟨h1,h3⟩
theorem zoi (s:Str):∀ (l:List zak) (L:List (Str × Nat)) (x:Nat),getL 0 (l.foldl (putM max) L) s≤x↔getL 0 L s≤x∧∀ c ∈ l,c.1=s→c.2.2≤x
 | [],L,x=>by simp
 | c :: r,L,x=>by
  rw [List.foldl_cons,zoi s r]
  unfold putM
  rw [zjn]
  simp only [List.mem_cons,forall_eq_or_imp]
  by_cases h:s=c.1
  ·subst h
   rw [if_pos rfl]
   constructor
   ·rintro⟨h1,h2⟩;exact⟨by omega,fun _=>by omega,h2⟩
   ·rintro⟨h1,h2,h3⟩;have:=h2 rfl;exact⟨by omega,h3⟩
  ·rw [if_neg h]
   constructor
   ·rintro⟨h1,h2⟩;exact⟨h1,fun e=>absurd e.symm h,h2⟩
   ·rintro⟨h1,-,h3⟩;exact⟨h1,h3⟩
theorem plusC_le {l:List zak} {s:Str} {x:Nat}:zb5 l s≤x↔∀ c ∈ l,c.1=s→c.2.1≤x:=by
 unfold zb5 za7
 rw [zoh]
 simp [getL,List.lookup]
theorem minusC_le {l:List zak} {s:Str} {x:Nat}:zbp l s≤x↔∀ c ∈ l,c.1=s→c.2.2≤x:=by
 unfold zbp zbe
 rw [zoi]
 simp [getL,List.lookup]
theorem zho {a b:Nat} (h:∀ x,a≤x↔b≤x):a=b:=Nat.le_antisymm ((h b).2 (Nat.le_refl _)) ((h a).1 (Nat.le_refl _))
theorem zqc (a b:List zak) (s:Str):zb5 (a++b) s=max (zb5 a s) (zb5 b s):=zho fun x=>by
 rw [Nat.max_le,plusC_le,plusC_le,plusC_le]
 constructor
 ·intro h;exact⟨fun c hc=>h c (List.mem_append_left _ hc),fun c hc=>h c (List.mem_append_right _ hc)⟩
 ·rintro⟨h1,h2⟩ c hc;rcases List.mem_append.1 hc with hc | hc;exact h1 c hc;exact h2 c hc
theorem zpe (a b:List zak) (s:Str):zbp (a++b) s=max (zbp a s) (zbp b s):=zho fun x=>by
 rw [Nat.max_le,minusC_le,minusC_le,minusC_le]
 constructor
 ·intro h;exact⟨fun c hc=>h c (List.mem_append_left _ hc),fun c hc=>h c (List.mem_append_right _ hc)⟩
 ·rintro⟨h1,h2⟩ c hc;rcases List.mem_append.1 hc with hc | hc;exact h1 c hc;exact h2 c hc
theorem SortedC.uniq {l:List zak} (h:SortedC l) {a b:zak} (ha:a ∈ l) (hb:b ∈ l) (e:a.1=b.1):a=b:=by
 induction l with
 | nil=>cases ha
 | cons x r ih =>
  obtain⟨h1,h2⟩:=List.pairwise_cons.1 h
  rcases List.mem_cons.1 ha with e1 | ha'
  ·rcases List.mem_cons.1 hb with e2 | hb'
   ·rw [e1,e2]
   ·rw [e1] at e;exact absurd e (zcb (h1 b hb'))
  ·rcases List.mem_cons.1 hb with e2 | hb'
   ·rw [e2] at e;exact absurd e.symm (zcb (h1 a ha'))
   ·exact ih h2 ha' hb'
theorem SortedC.plus {l:List zak} (h:SortedC l) {c:zak} (hc:c ∈ l):zb5 l c.1=c.2.1:=zho fun x=>by
 rw [plusC_le]
 exact⟨fun k=>k c hc rfl,fun k d hd e=>by rw [h.uniq hd hc e];exact k⟩
theorem SortedC.minus {l:List zak} (h:SortedC l) {c:zak} (hc:c ∈ l):zbp l c.1=c.2.2:=zho fun x=>by
 rw [minusC_le]
 exact⟨fun k=>k c hc rfl,fun k d hd e=>by rw [h.uniq hd hc e];exact k⟩
theorem zjo {l:List zak} {s:Str} (h:∀ c ∈ l,c.1 ≠ s):zb5 l s=0:=Nat.le_zero.1 (plusC_le.2 fun c hc e=>absurd e (h c hc))
theorem zit {l:List zak} {s:Str} (h:∀ c ∈ l,c.1 ≠ s):zbp l s=0:=Nat.le_zero.1 (minusC_le.2 fun c hc e=>absurd e (h c hc))
theorem GoodC.mem_iff {l:List zak} (h:GoodC l) {c:zak}:c ∈ l↔¬ (zb5 l c.1=0∧zbp l c.1=0)∧c.2=(zb5 l c.1,zbp l c.1):=by
 constructor
 ·intro hc
  rw [h.1.plus hc,h.1.minus hc]
  exact⟨h.2 c hc,rfl⟩
 ·rintro⟨h1,h2⟩
  obtain⟨s,v⟩:=c
  simp only at h1 h2
  subst h2
  by_cases hx:∃ d ∈ l,d.1=s
  ·obtain⟨d,hd,rfl⟩:=hx
   rw [h.1.plus hd,h.1.minus hd]
   exact hd
  ·have hn:∀ c ∈ l,c.1 ≠ s:=fun c hc e=>hx ⟨c,hc,e⟩
   exact absurd ⟨zjo hn,zit hn⟩ h1
theorem znp {a b:List zak} (ha:SortedC a) (hb:SortedC b) (h:∀ m,m ∈ a↔m ∈ b):a=b:=by
 unfold SortedC at ha hb
 have na:a.Nodup:=ha.imp fun {a b} hab e=>by subst e;rw [zam] at hab;cases hab
 have nb:b.Nodup:=hb.imp fun {a b} hab e=>by subst e;rw [zam] at hab;cases hab
 exact List.Perm.eq_of_pairwise (le:=fun a b=>ltS a.1 b.1=true) (fun x y _ _ h1 h2=>by rw [zcz h1] at h2;cases h2) ha hb (zea na nb h)
theorem GoodC.ext {a b:List zak} (ha:GoodC a) (hb:GoodC b) (h:∀ s,zb5 a s=zb5 b s∧zbp a s=zbp b s):a=b :=
 znp ha.1 hb.1 fun m=>by rw [ha.mem_iff,hb.mem_iff,(h m.1).1,(h m.1).2]
theorem zoj {Lp Lm:List (Str × Nat)} (hk:∀ s,s ∈ Lm.map Prod.fst→s ∈ Lp.map Prod.fst) (hn:(Lp.map Prod.fst).Nodup) (s:Str):zb5 (zej Lp Lm) s=getL 0 Lp s∧zbp (zej Lp Lm) s=getL 0 Lm s:=by
 have hg:=zjl (Lm:=Lm) hn
 by_cases h:∃ c ∈ zej Lp Lm,c.1=s
 ·obtain⟨c,hc,rfl⟩:=h
  rw [hg.1.plus hc,hg.1.minus hc,(listL_mem.1 hc).2.2]
  exact⟨rfl,rfl⟩
 ·have h':∀ c ∈ zej Lp Lm,c.1 ≠ s:=fun c hc e=>h ⟨c,hc,e⟩
  rw [zjo h',zit h']
  by_cases hs:s ∈ Lp.map Prod.fst
  ·have:getL 0 Lp s=0∧getL 0 Lm s=0:=Classical.byContradiction fun hx=>h' (s,getL 0 Lp s,getL 0 Lm s) (listL_mem.2 ⟨hs,hx,rfl⟩) rfl
   exact⟨this.1.symm,this.2.symm⟩
  ·rw [zog hs,zog fun hm=>hs (hk s hm)]
   exact⟨rfl,rfl⟩
theorem zok:∀ (cs:List zak) (L:List (Str × Nat)) (s:Str),s ∈ (cs.foldl (putM max) L).map Prod.fst↔(∃ c ∈ cs,c.1=s) ∨ s ∈ L.map Prod.fst
 | [],L,s=>by simp
 | c :: r,L,s=>by
  rw [List.foldl_cons,zok r]
  unfold putM
  rw [zmb]
  constructor
  ·rintro (⟨x,hx,he⟩ | h | h)
   ·exact .inl ⟨x,by simp [hx],he⟩
   ·exact .inl ⟨c,by simp,h.symm⟩
   ·exact .inr h
  ·rintro (⟨x,hx,he⟩ | h)
   ·rcases List.mem_cons.1 hx with rfl | hx
    ·exact .inr (.inl he.symm)
    ·exact .inl ⟨x,hx,he⟩
   ·exact .inr (.inr h)
theorem minusOf_key {cs:List zak} {s:Str}:s ∈ (zbe cs).map Prod.fst↔∃ c ∈ cs,c.1=s:=by
 rw [show zbe cs=cs.foldl (putM max) [] from rfl,zok]
 simp
theorem zto (a b:List zak):GoodC (zcx a b):=zjl (ze9 _)
theorem zol (a b:List zak) (s:Str):zb5 (zcx a b) s=max (zb5 a s) (zb5 b s)∧zbp (zcx a b) s=max (zbp a s) (zbp b s):=by
 have:=zoj (Lp:=za7 (a++b)) (Lm:=zbe (a++b)) (fun s hs=>plusOf_key.2 (minusOf_key.1 hs)) (ze9 _) s
 rw [← zqc,← zpe]
 exact this
theorem zqd (l:List zak) (p:Str) (n:Int) (s:Str):zb5 (addL l p n) s=(if s=p then addU (zb5 l p) (upOf n) else zb5 l s)∧zbp (addL l p n) s=(if s=p then addU (zbp l p) (zb2 n) else zbp l s):=by
 unfold addL
 have:=zoj (Lp:=putP addU (za7 l) (p,upOf n,zb2 n)) (Lm:=putM addU (zbe l) (p,upOf n,zb2 n)) (fun s hs=>by
  unfold putP
  unfold putM at hs
  rw [zmb] at hs ⊢
  exact hs.imp id fun h=>plusOf_key.2 (minusOf_key.1 h)) (zjm _ (ze9 l) _) s
 rw [this.1,this.2]
 unfold putP putM
 rw [zjn,zjn]
 exact⟨rfl,rfl⟩
end
section
open Go.RowKit Go.Shelf
theorem zom {P:Program} (w:World) (T:TypeId) (u v:Value) (h:v.oneCell'=true) (a:Nat) (ha:a=w.heap.size):(store ⟨a,0,none⟩ v).run P (w.alloc (.cells #[u] T))=.ok () (w.alloc (.cells #[v] T)):=by
 subst ha
 have hc:(w.alloc (.cells #[u] T)).cell? ⟨w.heap.size,0,none⟩=some u:=(zhu w u T).1
 have hf:=(zhu w u T).2
 rw [run_store P _ _ v _ h,hc]
 simp only [hf,World.setCell_alloc_new]
 rfl
def clo (f:Nat) (l:List Nat):Value:=.func (.func f) #[] (l.map fun b=>Value.pointer (some ⟨b,0,none⟩)).toArray
abbrev M8 (o:Option Nat):Value:=.map o
abbrev V8 (v:Value):Value:=v
structure UpdAt (w:World) (B E:Nat) (n:Int) (tx:Str) (d:Dot) (m:Nat):Prop where
 pe:w.cell? ⟨B,0,none⟩=some (.pointer (some ⟨E,0,none⟩))
 po2:w.cell? ⟨B+1,2,none⟩=some (I n)
 po3:w.cell? ⟨B+1,3,none⟩=some (St tx)
 d0:w.cell? ⟨B+2,0,none⟩=some (St d.1)
 d1:w.cell? ⟨B+2,1,none⟩=some (U d.2)
 err:RowIs w (B+3) 38 [I 0] []
 c1:w.cell? ⟨B+4,0,none⟩=some (clo 155 [B,B+2,B+3])
 c2:w.cell? ⟨B+5,0,none⟩=some (clo 157 [B,B+3])
 maps:∃ m1 m2 m3,MapIs K8 M8 w m [(1,some m1),(2,some m2),(3,some m3)] ∧
  MapIs K8 V8 w m1 [(1,clo 159 [B+4,B+1]),(5,clo 160 [B,B+4])] ∧
  MapIs K8 V8 w m2 [(2,clo 161 [B,B+1,B+2,B+3]),(3,clo 163 [B,B+1]),(5,clo 165 [B])] ∧
  MapIs K8 V8 w m3 [(4,clo 166 [B+5,B+1]),(5,clo 167 [B+5])]
theorem zrv {W:World} {E:Nat} (k:Str) (dO:Nat) (n:Int) (tx:Str) (d:Dot) :
  Calls Tryz.prog 94 #[.pointer (some ⟨E,0,none⟩),.agg #[K8 dO,St k,I n,St tx],dotV d] W fun r w'=>∃ m,r=.returned (.map (some m))∧UpdAt w' W.heap.size E n tx d m∧W.heap.size+6≤w'.heap.size∧Ext W w':=by
 have hmm:=@run_makeMap Tryz.prog
 obtain⟨B,hB⟩:∃ B,B=W.heap.size:=⟨_,rfl⟩
 have hs1:=zom (P:=Tryz.prog) ((((W.alloc (.cells #[.pointer (some ⟨E,0,none⟩)] 143)).alloc (.cells #[K8 dO,St k,I n,St tx] 42)).alloc (.cells #[St d.1,U d.2] 97)).alloc (.cells #[I 0] 38)) 203 .nilFunc (.func (.func 155) #[] #[.pointer (some ⟨W.heap.size,0,none⟩),.pointer (some ⟨W.heap.size+1+1,0,none⟩),.pointer (some ⟨W.heap.size+1+1+1,0,none⟩)]) rfl (W.heap.size+1+1+1+1) (by simp)
 have hs2:=zom (P:=Tryz.prog) (((((W.alloc (.cells #[.pointer (some ⟨E,0,none⟩)] 143)).alloc (.cells #[K8 dO,St k,I n,St tx] 42)).alloc (.cells #[St d.1,U d.2] 97)).alloc (.cells #[I 0] 38)).alloc (.cells #[(.func (.func 155) #[] #[.pointer (some ⟨W.heap.size,0,none⟩),.pointer (some ⟨W.heap.size+1+1,0,none⟩),.pointer (some ⟨W.heap.size+1+1+1,0,none⟩)])] 203)) 206 .nilFunc (.func (.func 157) #[] #[.pointer (some ⟨W.heap.size,0,none⟩),.pointer (some ⟨W.heap.size+1+1+1,0,none⟩)]) rfl (W.heap.size+1+1+1+1+1) (by simp)
 obtain⟨W5,hW5⟩:∃ W5,W5=(((((W.alloc (.cells #[.pointer (some ⟨E,0,none⟩)] 143)).alloc (.cells #[K8 dO,St k,I n,St tx] 42)).alloc (.cells #[St d.1,U d.2] 97)).alloc (.cells #[I 0] 38)).alloc (.cells #[(.func (.func 155) #[] #[.pointer (some ⟨W.heap.size,0,none⟩),.pointer (some ⟨W.heap.size+1+1,0,none⟩),.pointer (some ⟨W.heap.size+1+1+1,0,none⟩)])] 203)).alloc (.cells #[.func (.func 157) #[] #[.pointer (some ⟨W.heap.size,0,none⟩),.pointer (some ⟨W.heap.size+1+1+1,0,none⟩)]] 206):=⟨_,rfl⟩
 have hz5:W5.heap.size=W.heap.size+1+1+1+1+1+1:=by rw [hW5];simp
 have hx5:Ext W W5:=by rw [hW5];exact ((((((Ext.refl W).alloc _).alloc _).alloc _).alloc _).alloc _).alloc _
 have HU:Hid (∀ w,Ext W5 w→∀ m,(∃ m1 m2 m3,MapIs K8 M8 w m [(1,some m1),(2,some m2),(3,some m3)] ∧
   MapIs K8 V8 w m1 [(1,clo 159 [B+4,B+1]),(5,clo 160 [B,B+4])] ∧
   MapIs K8 V8 w m2 [(2,clo 161 [B,B+1,B+2,B+3]),(3,clo 163 [B,B+1]),(5,clo 165 [B])] ∧
   MapIs K8 V8 w m3 [(4,clo 166 [B+5,B+1]),(5,clo 167 [B+5])])→UpdAt w W.heap.size E n tx d m):=zH fun w hx m hmaps=>by
  subst hB
  refine ⟨hx.cell ?_,hx.cell ?_,hx.cell ?_,hx.cell ?_,hx.cell ?_,RowIs.ext ?_ hx,hx.cell ?_,hx.cell ?_,hmaps⟩
  ·rw [hW5];simp [go_sem]
  ·rw [hW5];simp [go_sem]
  ·rw [hW5];simp [go_sem]
  ·rw [hW5];simp [go_sem]
  ·rw [hW5];simp [go_sem]
  ·rw [hW5]
   have h:=zah (((W.alloc (.cells #[.pointer (some ⟨E,0,none⟩)] 143)).alloc (.cells #[K8 dO,St k,I n,St tx] 42)).alloc (.cells #[St d.1,U d.2] 97)) 38 [I 0]
   simp only [World.size_alloc] at h
   exact (h.alloc _).alloc _
  ·rw [hW5];simp [go_sem,clo]
  ·rw [hW5];simp [go_sem,clo]
 obtain⟨z,hz⟩:∃ z,z=W5.heap.size:=⟨_,rfl⟩
 obtain⟨Y1,hY1⟩:∃ Y1,Y1=(W5.alloc (.map #[] 0)).alloc (.map #[] 0):=⟨_,rfl⟩
 have hM:MapIs K8 M8 Y1 z []:=by rw [hY1,hz];exact (MapIs.new W5).ext ((Ext.refl _).alloc _)
 have hM1:MapIs K8 V8 Y1 (z+1) []:=by have:=MapIs.new (K:=K8) (V:=V8) (W5.alloc (.map #[] 0));rw [World.size_alloc] at this;rw [hY1,hz];exact this
 have hx1:Ext W5 Y1:=by rw [hY1];exact ((Ext.refl _).alloc _).alloc _
 have hzY:Y1.heap.size=z+1+1:=by rw [hY1,hz];simp
 obtain⟨Xa,ua,ma,ta⟩:=zar (P:=Tryz.prog) (t:=158) Tryz.underlying158 keyOk8 hM1 1 (clo 159 [B+4,B+1])
 obtain⟨Xb,ub,mb,tb⟩:=zar (P:=Tryz.prog) (t:=158) Tryz.underlying158 keyOk8 ma 5 (clo 160 [B,B+4])
 obtain⟨Xc,uc,mc,tc⟩:=zar (P:=Tryz.prog) (t:=159) Tryz.underlying159 keyOk8 ((hM.turned ta (by omega)).turned tb (by omega)) 1 (some (z+1))
 have hx2:=((hx1.turned ta (by omega)).turned tb (by omega)).turned tc (by omega)
 have mb2:=mb.turned tc (by omega)
 have hzc:Xc.heap.size=z+1+1:=by rw [tc.size,tb.size,ta.size,hzY]
 have hM2:=MapIs.new (K:=K8) (V:=V8) Xc
 have hy2:=(Ext.refl Xc).alloc (.map #[] 0)
 obtain⟨Xd,ud,md,td⟩:=zar (P:=Tryz.prog) (t:=158) Tryz.underlying158 keyOk8 hM2 2 (clo 161 [B,B+1,B+2,B+3])
 obtain⟨Xe,ue,me,te⟩:=zar (P:=Tryz.prog) (t:=158) Tryz.underlying158 keyOk8 md 3 (clo 163 [B,B+1])
 obtain⟨Xf,uf,mf,tf⟩:=zar (P:=Tryz.prog) (t:=158) Tryz.underlying158 keyOk8 me 5 (clo 165 [B])
 obtain⟨Xg,ug,mg,tg⟩:=zar (P:=Tryz.prog) (t:=159) Tryz.underlying159 keyOk8 ((((mc.ext hy2).turned td (by omega)).turned te (by omega)).turned tf (by omega)) 2 (some Xc.heap.size)
 have hx3:=((((hx2.trans hy2).turned td (by omega)).turned te (by omega)).turned tf (by omega)).turned tg (by omega)
 have mb3:=((((mb2.ext hy2).turned td (by omega)).turned te (by omega)).turned tf (by omega)).turned tg (by omega)
 have mf2:=mf.turned tg (by omega)
 have hzg:Xg.heap.size=z+1+1+1:=by rw [tg.size,tf.size,te.size,td.size,World.size_alloc,hzc]
 have hM3:=MapIs.new (K:=K8) (V:=V8) Xg
 have hy3:=(Ext.refl Xg).alloc (.map #[] 0)
 obtain⟨Xh,uh,mh,th⟩:=zar (P:=Tryz.prog) (t:=158) Tryz.underlying158 keyOk8 hM3 4 (clo 166 [B+5,B+1])
 obtain⟨Xi,ui,mi,ti⟩:=zar (P:=Tryz.prog) (t:=158) Tryz.underlying158 keyOk8 mh 5 (clo 167 [B+5])
 obtain⟨Xj,uj,mj,tj⟩:=zar (P:=Tryz.prog) (t:=159) Tryz.underlying159 keyOk8 (((mg.ext hy3).turned th (by omega)).turned ti (by omega)) 3 (some Xg.heap.size)
 have hx4:=(((hx3.trans hy3).turned th (by omega)).turned ti (by omega)).turned tj (by omega)
 have mb4:=(((mb3.ext hy3).turned th (by omega)).turned ti (by omega)).turned tj (by omega)
 have mf3:=(((mf2.ext hy3).turned th (by omega)).turned ti (by omega)).turned tj (by omega)
 have mi2:=mi.turned tj (by omega)
 have HR:=zH (HU.out Xj hx4 z ⟨z+1,Xc.heap.size,Xg.heap.size,mj,mb4,mf3,mi2⟩)
 have HX:=zH (hx5.trans hx4)
 have HZ:=zH (show W.heap.size+6≤Xj.heap.size by have:=hx4.size;omega)
 subst hB
 have ua':(Instr.mapUpdate 158 (.map (some (z+1))) (.int .u8 1) (.func (.func 159) #[] #[.pointer (some ⟨W.heap.size+1+1+1+1,0,none⟩),.pointer (some ⟨W.heap.size+1,0,none⟩)])).run Tryz.prog Y1=.ok () Xa:=ua
 have ub':(Instr.mapUpdate 158 (.map (some (z+1))) (.int .u8 5) (.func (.func 160) #[] #[.pointer (some ⟨W.heap.size,0,none⟩),.pointer (some ⟨W.heap.size+1+1+1+1,0,none⟩)])).run Tryz.prog Xa=.ok () Xb:=ub
 have uc':(Instr.mapUpdate 159 (.map (some z)) (.int .u8 1) (.map (some (z+1)))).run Tryz.prog Xb=.ok () Xc:=uc
 have ud':(Instr.mapUpdate 158 (.map (some Xc.heap.size)) (.int .u8 2) (.func (.func 161) #[] #[.pointer (some ⟨W.heap.size,0,none⟩),.pointer (some ⟨W.heap.size+1,0,none⟩),.pointer (some ⟨W.heap.size+1+1,0,none⟩),.pointer (some ⟨W.heap.size+1+1+1,0,none⟩)])).run Tryz.prog (Xc.alloc (.map #[] 0))=.ok () Xd:=ud
 have ue':(Instr.mapUpdate 158 (.map (some Xc.heap.size)) (.int .u8 3) (.func (.func 163) #[] #[.pointer (some ⟨W.heap.size,0,none⟩),.pointer (some ⟨W.heap.size+1,0,none⟩)])).run Tryz.prog Xd=.ok () Xe:=ue
 have uf':(Instr.mapUpdate 158 (.map (some Xc.heap.size)) (.int .u8 5) (.func (.func 165) #[] #[.pointer (some ⟨W.heap.size,0,none⟩)])).run Tryz.prog Xe=.ok () Xf:=uf
 have ug':(Instr.mapUpdate 159 (.map (some z)) (.int .u8 2) (.map (some Xc.heap.size))).run Tryz.prog Xf=.ok () Xg:=ug
 have uh':(Instr.mapUpdate 158 (.map (some Xg.heap.size)) (.int .u8 4) (.func (.func 166) #[] #[.pointer (some ⟨W.heap.size+1+1+1+1+1,0,none⟩),.pointer (some ⟨W.heap.size+1,0,none⟩)])).run Tryz.prog (Xg.alloc (.map #[] 0))=.ok () Xh:=uh
 have ui':(Instr.mapUpdate 158 (.map (some Xg.heap.size)) (.int .u8 5) (.func (.func 167) #[] #[.pointer (some ⟨W.heap.size+1+1+1+1+1,0,none⟩)])).run Tryz.prog Xh=.ok () Xi:=ui
 have uj':(Instr.mapUpdate 159 (.map (some z)) (.int .u8 3) (.map (some Xg.heap.size))).run Tryz.prog Xi=.ok () Xj:=uj
 clear ua ub uc ud ue uf ug uh ui uj ma mb mc md me mf mg mh mi mj mb2 mb3 mb4 mf2 mf3 mi2 ta tb tc td te tf tg th ti tj hx1 hx2 hx3 hx4 hy2 hy3 hM hM1 hM2 hM3 hzc hzg hzY hx5 HU
 rw [hz,hz5] at *
 rw [hY1,hW5] at ua'
 clear hY1 hW5
 go_enter Tryz.func94,Tryz.ntmps94
 go_wp2_with fail
 go_ret
 exact⟨_,rfl,HR.out,HZ.out,HX.out⟩
end
section
open Go.RowKit Go.Shelf
abbrev OpD:=Nat × Str × Int × Str
abbrev opV (o:OpD):Value:=.agg #[K8 o.1,St o.2.1,I o.2.2.1,St o.2.2.2]
def zb6 (B kk dO:Nat):Option Value :=
 if kk=1 then (if dO=1 then some (clo 159 [B+4,B+1]) else if dO=5 then some (clo 160 [B,B+4]) else none)
 else if kk=2 then (if dO=2 then some (clo 161 [B,B+1,B+2,B+3]) else if dO=3 then some (clo 163 [B,B+1]) else if dO=5 then some (clo 165 [B]) else none)
 else if kk=3 then (if dO=4 then some (clo 166 [B+5,B+1]) else if dO=5 then some (clo 167 [B+5]) else none)
 else none
def doE (kk:Nat) (e:Entry) (o:OpD) (d:Dot):Option (Entry × Nat) :=
 if kk=1 then (if o.1=1 then some ({ e with counts:=(addC e.counts d.1 o.2.2.1).1 },(addC e.counts d.1 o.2.2.1).2) else if o.1=5 then some ({ e with counts:=(delC e.counts d.1).1 },(delC e.counts d.1).2) else none)
 else if kk=2 then (if o.1=2 then some ({ e with items:=(putB e.items o.2.2.2 d).1 },(putB e.items o.2.2.2 d).2) else if o.1=3 then some ({ e with items:=zfe e.items o.2.2.2 },0) else if o.1=5 then some ({ e with items:=[] },0) else none)
 else if kk=3 then (if o.1=4 then some ({ e with cell:=(zat e.cell o.2.2.2 false).1 },(zat e.cell o.2.2.2 false).2) else if o.1=5 then some ({ e with cell:=(zat e.cell [] true).1 },(zat e.cell [] true).2) else none)
 else none
theorem UpdAt.ext {w w':World} {B E:Nat} {n:Int} {tx:Str} {d:Dot} {m:Nat} (h:UpdAt w B E n tx d m) (he:Ext w w'):UpdAt w' B E n tx d m:=by
 obtain⟨h1,h2,h3,h4,h5,h6,h7,h8,m1,m2,m3,h9,h10,h11,h12⟩:=h
 exact⟨he.cell h1,he.cell h2,he.cell h3,he.cell h4,he.cell h5,h6.ext he,he.cell h7,he.cell h8,m1,m2,m3,h9.ext he,h10.ext he,h11.ext he,h12.ext he⟩
theorem yak (w:World):(zeroValue 158).run Tryz.prog w=.ok (M8 none) w:=Tryz.zeroValue158 w
theorem zv7 (w:World):(zeroValue 156).run Tryz.prog w=.ok (V8 .nilFunc) w:=Tryz.zeroValue156 w
theorem zye (k:Nat) (w:World):(Instr.lookup 158 (.map none) (K8 k) true).run Tryz.prog w=.ok (.tuple #[.nilFunc,.bool false]) w:=by
 have hz:=zv7 w
 have hc:=keyOk8.check true k w
 have hf:=MapIs.find (V:=V8) keyOk8 (es:=#[]) (L:=[]) rfl k w
 simp at hf
 simp [Instr.lookup,run_underlying Tryz.underlying158,hz,hc,hf]
def InnerIs (W:World) (B kk:Nat) (v:Value):Prop:=∀ W3,Ext W W3→∀ dO,(Instr.lookup 158 v (K8 dO) true).run Tryz.prog W3=.ok (.tuple #[(zb6 B kk dO).getD .nilFunc,.bool (zb6 B kk dO).isSome]) W3
theorem InnerIs.ext {W W':World} {B kk:Nat} {v:Value} (h:InnerIs W B kk v) (he:Ext W W'):InnerIs W' B kk v:=fun W3 h3=>h W3 (he.trans h3)
theorem zmd {W:World} {B kk b:Nat} {L:List (Nat × Value)} (h:MapIs K8 V8 W b L) (hc:∀ dO,zb6 B kk dO=zcs L dO):InnerIs W B kk (.map (some b)):=fun W3 h3 dO=>by
 have:=(zbb (P:=Tryz.prog) (z:=Value.nilFunc) Tryz.underlying158 keyOk8 zv7 (h.ext h3) dO).2
 rw [zf5,show getL Value.nilFunc L dO=(zcs L dO).getD .nilFunc from rfl,← hc] at this
 exact this
theorem zyf {w:World} {B E:Nat} {n:Int} {tx:Str} {d:Dot} {m:Nat} (h:UpdAt w B E n tx d m) (kk:Nat) :
  ∃ u,(∀ W3,Ext w W3→(Instr.lookup 159 (.map (some m)) (K8 kk) false).run Tryz.prog W3=.ok u W3)∧InnerIs w B kk u:=by
 obtain⟨m1,m2,m3,h9,h10,h11,h12⟩:=h.maps
 refine ⟨M8 (getL none [(1,some m1),(2,some m2),(3,some m3)] kk),fun W3 h3=>(zbb (P:=Tryz.prog) (z:=none) Tryz.underlying159 keyOk8 yak (h9.ext h3) kk).1,?_⟩
 rw [show getL none [(1,some m1),(2,some m2),(3,some m3)] kk=(zcs [(1,some m1),(2,some m2),(3,some m3)] kk).getD none from rfl]
 simp only [zeq]
 by_cases k1:kk=1
 ·subst k1
  simp only [if_true,Option.getD_some]
  exact zmd h10 fun dO=>by simp only [zeq,zb6,if_true];rfl
 ·by_cases k2:kk=2
  ·subst k2
   simp only [if_true,if_neg k1,Option.getD_some]
   exact zmd h11 fun dO=>by simp only [zeq,zb6,if_true,if_neg k1];rfl
  ·by_cases k3:kk=3
   ·subst k3
    simp only [if_true,if_neg k1,if_neg k2,Option.getD_some]
    exact zmd h12 fun dO=>by simp only [zeq,zb6,if_true,if_neg k1,if_neg k2];rfl
   ·simp only [if_neg k1,if_neg k2,if_neg k3]
    intro W3 h3 dO
    rw [show zb6 B kk dO=none by simp only [zb6,if_neg k1,if_neg k2,if_neg k3]]
    exact zye dO W3
theorem yal {S:Nat→Prop} {W:World} {B E m:Nat} {kk:Nat} {o:OpD} {d:Dot} {e:Entry} {v1 v2 v3:Value} (hU:UpdAt W B E o.2.2.1 o.2.2.2 d m) (hn1:-9223372036854775808≤o.2.2.1) (hn2:o.2.2.1≤9223372036854775807)
  (hl1:e.counts.length < 1099511627776) (hl2:(zad e.items).length < 1099511627776) (hE:RowIs W E 37 (entL e v1 v2 v3) []) (hA:EntAt W S e v1 v2 v3) (hS:∀ b,S b→b ≠ E∧b ≠ B+3) (hpr:B+3 ≠ E) :
  match zb6 B kk o.1,doE kk e o d with
  | none,none=>True
  | some c,some (e',err)=>∃ f args,c=.func (.func f) #[] args∧(∀ xs w,(callFunc f xs).run Tryz.prog w=.ok (.enter f xs) w)∧Calls Tryz.prog f args W fun r w'=>r=.returned (I err)∧Did W w' E (B+3) S e' v1
  | _,_=>False:=by
 obtain⟨pe,po2,po3,d0,d1,err,c1,c2,-⟩:=hU
 unfold zb6 doE
 by_cases k1:kk=1
 ·simp only [k1,if_true]
  by_cases q1:o.1=1
  ·simp only [q1,if_true]
   exact⟨_,_,rfl,enters_of Tryz.func159 (by kernel_rfl) rfl,zx8 o.2.2.1 hn1 hn2 c1 po2 d0 hl1 pe err hE hA hS hpr⟩
  ·simp only [if_neg q1]
   by_cases q5:o.1=5
   ·simp only [q5,if_true]
    exact⟨_,_,rfl,enters_of Tryz.func160 (by kernel_rfl) rfl,zx9 c1 d0 hl1 pe err hE hA hS hpr⟩
   ·simp only [if_neg q5]
 ·by_cases k2:kk=2
  ·simp only [k2,if_true,if_neg (by decide:¬ (2:Nat)=1)]
   by_cases q2:o.1=2
   ·simp only [q2,if_true]
    exact⟨_,_,rfl,enters_of Tryz.func161 (by kernel_rfl) rfl,zx7 po3 d0 d1 hl2 pe err hE hA hS hpr⟩
   ·simp only [if_neg q2]
    by_cases q3:o.1=3
    ·simp only [q3,if_true]
     exact⟨_,_,rfl,enters_of Tryz.func163 (by kernel_rfl) rfl,zyd po3 (by omega) pe hE hA hS⟩
    ·simp only [if_neg q3]
     by_cases q5:o.1=5
     ·simp only [q5,if_true]
      exact⟨_,_,rfl,enters_of Tryz.func165 (by kernel_rfl) rfl,zya pe hE hA hS⟩
     ·simp only [if_neg q5]
  ·by_cases k3:kk=3
   ·simp only [k3,if_true,if_neg (by decide:¬ (3:Nat)=1),if_neg (by decide:¬ (3:Nat)=2)]
    by_cases q4:o.1=4
    ·simp only [q4,if_true]
     exact⟨_,_,rfl,enters_of Tryz.func166 (by kernel_rfl) rfl,zyb c2 po3 pe err hE hA hS hpr⟩
    ·simp only [if_neg q4]
     by_cases q5:o.1=5
     ·simp only [q5,if_true]
      exact⟨_,_,rfl,enters_of Tryz.func167 (by kernel_rfl) rfl,zyc c2 pe err hE hA hS hpr⟩
     ·simp only [if_neg q5]
   ·simp only [if_neg k1,if_neg k2,if_neg k3]
end
section
open Go.RowKit Go.Shelf
def zer (e:Entry) (o:OpD) (d:Dot):Entry × Nat :=
 match doE (zap o.2.1) e o d with
 | none=>(zag,150)
 | some p=>if p.2=0 then ({ p.1 with seen:=setM p.1.seen d.1 d.2 },0) else (zag,p.2)
def updE (e:Entry) (o:OpD) (d:Dot):Entry × Nat :=
 if keyS o.2.1=false then (zag,10) else if e.key ≠ o.2.1∧zbv e zag=false then (zag,2) else if d.1 = [] ∨ d.2 < 1 ∨ 281474976710656 < d.2 ∨ hasM e.seen d=true then (zag,2) else zer { e with key:=o.2.1 } o d
theorem zf6 (w:World) (q:Nat) (e:Entry) (v1 v2 v3:Value) (b:Nat) (hb:b ≠ q):(put7 w q e v1 v2 v3).heap[b]? = w.heap[b]? :=
 ((((((Below.heap_setCell _ _ _ b hb).trans (Below.heap_setCell _ _ _ b hb)).trans (Below.heap_setCell _ _ _ b hb)).trans (Below.heap_setCell _ _ _ b hb)).trans (Below.heap_setCell _ _ _ b hb)).trans (Below.heap_setCell _ _ _ b hb)).trans (Below.heap_setCell _ _ _ b hb)
theorem ztq (B kk:Nat) (e:Entry) (o:OpD) (d:Dot):(zb6 B kk o.1).isSome=(doE kk e o d).isSome:=by
 unfold zb6 doE
 repeat' split
 all_goals first | rfl | (exfalso;omega)
theorem EntAt.keep {W w:World} {S:Nat→Prop} {e:Entry} {v1 v2 v3:Value} (h:EntAt W S e v1 v2 v3) (hs:∀ b,S b→b < W.heap.size→w.heap[b]? = W.heap[b]?):EntAt w S e v1 v2 v3 :=
 ⟨h.seen.keep (by decide) hs,h.counts.keep (by decide) hs,h.items.keep (by decide) hs⟩
theorem zv8 {e':Entry} {c:Nat} {e:Entry} {p:Entry × Nat} (h1:e'.seen=e.seen) (h2:e'.key=e.key) (h:some (e',c)=some p):p.1.seen=e.seen∧p.1.key=e.key:=by
 have:=Option.some.inj h
 rw [← this]
 exact⟨h1,h2⟩
theorem zyg {kk:Nat} {e:Entry} {o:OpD} {d:Dot} {p:Entry × Nat} (h:doE kk e o d=some p):p.1.seen=e.seen∧p.1.key=e.key:=by
 unfold doE at h
 repeat' split at h
 all_goals first | (refine zv8 (e:=e) ?_ ?_ h <;> rfl) | cases h
theorem SmallE.key {e:Entry} (h:SmallE e) (k:Str):SmallE { e with key:=k }:=⟨h.seen,h.counts,h.items,h.dots,h.places⟩
structure U4 (w V:World) (E O D:List Value):Prop where
 ext:Ext w V
 size:w.heap.size+4≤V.heap.size
 e:RowIs V w.heap.size 37 E []
 o:RowIs V (w.heap.size+1) 42 O []
 d:RowIs V (w.heap.size+1+1) 97 D []
 r:RowIs V (w.heap.size+1+1+1) 37 [St [],.slice none 0 0,.slice none 0 0,.slice none 0 0,.int .u64 0,St [],.bool false] []
theorem U4.start (w:World) (E O D:List Value):U4 w ((((w.alloc (.cells E.toArray 37)).alloc (.cells O.toArray 42)).alloc (.cells D.toArray 97)).alloc (.cells #[St [],.slice none 0 0,.slice none 0 0,.slice none 0 0,.int .u64 0,St [],.bool false] 37)) E O D:=by
 have h1:=zah (w.alloc (.cells E.toArray 37)) 42 O
 have h2:=zah ((w.alloc (.cells E.toArray 37)).alloc (.cells O.toArray 42)) 97 D
 have h3:=zah (((w.alloc (.cells E.toArray 37)).alloc (.cells O.toArray 42)).alloc (.cells D.toArray 97)) 37 [St [],.slice none 0 0,.slice none 0 0,.slice none 0 0,.int .u64 0,St [],.bool false]
 simp only [World.size_alloc] at h1 h2 h3
 exact⟨((((Ext.refl w).alloc _).alloc _).alloc _).alloc _,by simp,(((zah w _ E).alloc _).alloc _).alloc _,(h1.alloc _).alloc _,h2.alloc _,h3⟩
theorem U4.on {w V V':World} {E O D:List Value} (h:U4 w V E O D) (he:Ext V V'):U4 w V' E O D :=
 ⟨h.ext.trans he,Nat.le_trans h.size he.size,h.e.ext he,h.o.ext he,h.d.ext he,h.r.ext he⟩
section
variable {w:World} {g T:Nat} {a b c d e f k:Value}
theorem RowIs.c7 (h:RowIs w g T [a,b,c,d,e,f,k] []):w.cell? ⟨g,0,none⟩=some a∧w.cell? ⟨g,1,none⟩=some b∧w.cell? ⟨g,2,none⟩=some c∧w.cell? ⟨g,3,none⟩=some d∧w.cell? ⟨g,4,none⟩=some e∧w.cell? ⟨g,5,none⟩=some f∧w.cell? ⟨g,6,none⟩=some k :=
 ⟨h.cell rfl,h.cell rfl,h.cell rfl,h.cell rfl,h.cell rfl,h.cell rfl,h.cell rfl⟩
theorem RowIs.c4 (h:RowIs w g T [a,b,c,d] []):w.cell? ⟨g,0,none⟩=some a∧w.cell? ⟨g,1,none⟩=some b∧w.cell? ⟨g,2,none⟩=some c∧w.cell? ⟨g,3,none⟩=some d:=⟨h.cell rfl,h.cell rfl,h.cell rfl,h.cell rfl⟩
theorem RowIs.c2 (h:RowIs w g T [a,b] []):w.cell? ⟨g,0,none⟩=some a∧w.cell? ⟨g,1,none⟩=some b:=⟨h.cell rfl,h.cell rfl⟩
theorem RowIs.z7 {l:List Value} (h:RowIs w g T l []):w.frozen? ⟨g,0,none⟩=false∧w.frozen? ⟨g,1,none⟩=false∧w.frozen? ⟨g,2,none⟩=false∧w.frozen? ⟨g,3,none⟩=false∧w.frozen? ⟨g,4,none⟩=false∧w.frozen? ⟨g,5,none⟩=false∧w.frozen? ⟨g,6,none⟩=false :=
 ⟨h.frozen 0,h.frozen 1,h.frozen 2,h.frozen 3,h.frozen 4,h.frozen 5,h.frozen 6⟩
end
theorem zyh {S:Nat→Prop} {e:Entry} {v1 v2 v3:Value} {w:World} (o:OpD) (d:Dot) (h:EntAt w S e v1 v2 v3) (sm:SmallE e) (hn1:-9223372036854775808≤o.2.2.1) (hn2:o.2.2.1≤9223372036854775807) :
  Calls Tryz.prog 42 #[entV e v1 v2 v3,opV o,dotV d] w fun r w'=>∃ u1 u2 u3,r=.returned (.tuple #[entV (updE e o d).1 u1 u2 u3,I (updE e o d).2])∧EntAt w' (fun b=>w.heap.size≤b) (updE e o d).1 u1 u2 u3∧Ext w w':=by
 obtain⟨ek,es,ec,ei,x1,x2,x3⟩:=e
 obtain⟨dO,k,n,tx⟩:=o
 obtain⟨d1,dn⟩:=d
 obtain⟨A1,n1,rfl,-,-⟩:=h.seen.form
 obtain⟨A2,n2,rfl,-,-⟩:=h.counts.form
 obtain⟨A3,n3,rfl,-,-⟩:=h.items.form
 have H0:=U4.start w [St ek,.slice A1 es.length n1,.slice A2 ec.length n2,.slice A3 ei.length n3,U x1,St x2,.bool x3] [K8 dO,St k,I n,St tx] [St d1,U dn]
 have H1:=zH (zzq k ((((w.alloc (.cells #[St ek,.slice A1 es.length n1,.slice A2 ec.length n2,.slice A3 ei.length n3,U x1,St x2,.bool x3] 37)).alloc (.cells #[K8 dO,St k,I n,St tx] 42)).alloc (.cells #[St d1,U dn] 97)).alloc (.cells #[St [],.slice none 0 0,.slice none 0 0,.slice none 0 0,.int .u64 0,St [],.bool false] 37)))
 have HE:=zH h
 simp only at hn1 hn2
 obtain⟨J,hJ⟩:∃ J,updE ⟨ek,es,ec,ei,x1,x2,x3⟩ (dO,k,n,tx) (d1,dn)=J:=⟨_,rfl⟩
 have HJ:Hid (J=if keyS k=false then (zag,10) else if ek ≠ k∧zbv ⟨ek,es,ec,ei,x1,x2,x3⟩ zag=false then (zag,2) else if d1 = [] ∨ dn < 1 ∨ 281474976710656 < dn ∨ hasM es (d1,dn)=true then (zag,2) else zer ⟨k,es,ec,ei,x1,x2,x3⟩ (dO,k,n,tx) (d1,dn)):=zH hJ.symm
 rw [hJ]
 have hno:∀ (c:Nat) (V:World),Ext w V→J=(zag,c)→∃ u1 u2 u3,(Ending.returned (.tuple #[entV zag (.slice none 0 0) (.slice none 0 0) (.slice none 0 0),I c]))=.returned (.tuple #[entV J.1 u1 u2 u3,I J.2])∧EntAt (put7 V (w.heap.size+1+1+1) zag (.slice none 0 0) (.slice none 0 0) (.slice none 0 0)) (fun b=>w.heap.size≤b) J.1 u1 u2 u3∧Ext w (put7 V (w.heap.size+1+1+1) zag (.slice none 0 0) (.slice none 0 0) (.slice none 0 0)):=by
  rintro c V hx rfl
  exact⟨_,_,_,rfl,EntAt.none _ _ _ _ _,zdq hx (by omega) zag _ _ _⟩
 have HNO:=zH hno
 clear h hJ hno
 go_enter Tryz.func42,Tryz.ntmps42
 refine wp_seq_k ?_
 intro K hK
 have HK:=zH hK
 clear hK
 go_wp2_with fail
 refine HK.out _ _ ?_
 clear HK K
 refine wp_seq_k ?_
 intro K hK
 have HK:=zH hK
 clear hK
 go_wp2_with fail
 refine H1.out.mono ?_
 rintro r V ⟨rfl,hx1⟩
 have HW:=zH (H0.on hx1)
 clear H0 hx1 H1
 cases hk:keyS k with
 | false =>
  have HJ2:=zH (show J=(zag,10) by rw [HJ.out,if_pos hk])
  have HX:=zH (HW.out).ext
  obtain⟨r0,r1,r2,r3,r4,r5,r6⟩:=(HW.out).r.c7
  obtain⟨f0,f1,f2,f3,f4,f5,f6⟩:=(HW.out).r.z7
  clear HJ
  go_wp2_with fail
  (try simp only [Exit.inBlock,Exit.then])
  exact bodyPost_ret (v:=.tuple #[entV zag (.slice none 0 0) (.slice none 0 0) (.slice none 0 0),I 10]) (by simp [results,Tryz.f42,go_sem,entV,entC,zag,r0,r1,r2,r3,r4,r5,r6]) rfl (HNO.out 10 _ HX.out HJ2.out)
 | true =>
  rw [hk] at HJ
  have HJ2:Hid (J=if ek ≠ k∧zbv ⟨ek,es,ec,ei,x1,x2,x3⟩ zag=false then (zag,2) else if d1 = [] ∨ dn < 1 ∨ 281474976710656 < dn ∨ hasM es (d1,dn)=true then (zag,2) else zer ⟨k,es,ec,ei,x1,x2,x3⟩ (dO,k,n,tx) (d1,dn)):=zH (HJ.out.trans (if_neg (by simp)))
  clear HJ hk
  go_wp2_with fail
  refine HK.out _ _ ?_
  clear HK K
  refine wp_seq_k ?_
  intro K hK
  have REST:∀ (u12 u13 u14 u15 u17 u18 u19 u20 u21 u22 u23 u24 u25 u26:Value) (V:World),U4 w V [St ek,.slice A1 es.length n1,.slice A2 ec.length n2,.slice A3 ei.length n3,U x1,St x2,.bool x3] [K8 dO,St k,I n,St tx] [St d1,U dn]→J=(if d1 = [] ∨ dn < 1 ∨ 281474976710656 < dn ∨ hasM es (d1,dn)=true then (zag,2) else zer ⟨k,es,ec,ei,x1,x2,x3⟩ (dO,k,n,tx) (d1,dn))→K ⟨#[.agg #[St ek,.slice A1 es.length n1,.slice A2 ec.length n2,.slice A3 ei.length n3,U x1,St x2,.bool x3],.agg #[K8 dO,St k,I n,St tx],.agg #[St d1,U dn],.pointer (some ⟨w.heap.size,0,none⟩),.pointer (some ⟨w.heap.size+1,0,none⟩),.pointer (some ⟨w.heap.size+1+1,0,none⟩),.pointer (some ⟨w.heap.size+1+1+1,0,none⟩),I 0,undef,undef,undef,undef,u12,u13,u14,u15,undef,u17,u18,u19,u20,u21,u22,u23,u24,u25,u26,undef,undef,undef,undef,undef,undef,undef,undef,undef,undef,undef,undef,undef,undef,undef,undef,undef,undef,undef,undef,undef,undef,undef,undef,undef,undef,undef,undef,undef,undef,undef,undef,undef,undef,undef,undef,undef,undef,undef,undef,undef,undef,undef,undef,undef,undef,undef,undef,undef,undef,undef,undef,undef,undef,undef,undef,undef],[]⟩ V:=by
   intro u12 u13 u14 u15 u17 u18 u19 u20 u21 u22 u23 u24 u25 u26 V hw hj
   have HW:=zH hw
   have HJ:=zH hj
   refine hK _ _ ?_
   clear hK K hw hj HJ2
   obtain⟨d0,d2⟩:=HW.out.d.c2
   by_cases hd:d1 = []
   ·subst hd
    have HJ2:=zH (show J=(zag,2) by rw [HJ.out,if_pos (.inl rfl)])
    have HX:=zH (HW.out).ext
    obtain⟨r0,r1,r2,r3,r4,r5,r6⟩:=(HW.out).r.c7
    obtain⟨f0,f1,f2,f3,f4,f5,f6⟩:=(HW.out).r.z7
    clear HJ
    go_wp2_with fail
    (try simp only [Exit.inBlock,Exit.then])
    exact bodyPost_ret (v:=.tuple #[entV zag (.slice none 0 0) (.slice none 0 0) (.slice none 0 0),I 2]) (by simp [results,Tryz.f42,go_sem,entV,entC,zag,r0,r1,r2,r3,r4,r5,r6]) rfl (HNO.out 2 _ HX.out HJ2.out)
   have hdb:(d1 == [])=false:=by simpa using hd
   by_cases h2:(dn:Int) < 1
   ·skip
    have HJ2:=zH (show J=(zag,2) by rw [HJ.out,if_pos (.inr (.inl (by omega)))])
    have HX:=zH (HW.out).ext
    obtain⟨r0,r1,r2,r3,r4,r5,r6⟩:=(HW.out).r.c7
    obtain⟨f0,f1,f2,f3,f4,f5,f6⟩:=(HW.out).r.z7
    clear HJ
    go_wp2_with fail
    (try simp only [Exit.inBlock,Exit.then])
    exact bodyPost_ret (v:=.tuple #[entV zag (.slice none 0 0) (.slice none 0 0) (.slice none 0 0),I 2]) (by simp [results,Tryz.f42,go_sem,entV,entC,zag,r0,r1,r2,r3,r4,r5,r6]) rfl (HNO.out 2 _ HX.out HJ2.out)
   by_cases h3:(dn:Int) > 281474976710656
   ·skip
    have HJ2:=zH (show J=(zag,2) by rw [HJ.out,if_pos (.inr (.inr (.inl (by omega))))])
    have HX:=zH (HW.out).ext
    obtain⟨r0,r1,r2,r3,r4,r5,r6⟩:=(HW.out).r.c7
    obtain⟨f0,f1,f2,f3,f4,f5,f6⟩:=(HW.out).r.z7
    clear HJ
    go_wp2_with fail
    (try simp only [Exit.inBlock,Exit.then])
    exact bodyPost_ret (v:=.tuple #[entV zag (.slice none 0 0) (.slice none 0 0) (.slice none 0 0),I 2]) (by simp [results,Tryz.f42,go_sem,entV,entC,zag,r0,r1,r2,r3,r4,r5,r6]) rfl (HNO.out 2 _ HX.out HJ2.out)
   have HH:=zH (zni (d1,dn) (HE.out.seen.ext (by decide) HW.out.ext))
   obtain⟨e0,e1,e2,e3,e4,e5,e6⟩:=HW.out.e.c7
   cases hh:hasM es (d1,dn)
   ·rw [hh] at HH
    have HJ2:=zH (show J=zer ⟨k,es,ec,ei,x1,x2,x3⟩ (dO,k,n,tx) (d1,dn) by rw [HJ.out,if_neg (by simp [hd,hh];omega)])
    clear HJ hh
    refine wp_seq_k ?_
    intro K hK
    have HK:=zH hK
    clear hK HNO
    have h2b:1≤(dn:Int):=by omega
    have h3b:(dn:Int)≤281474976710656:=by omega
    go_wp2_with fail
    refine HH.out.mono ?_
    rintro r V2 ⟨rfl,hx2⟩
    have HW:=zH (HW.out.on hx2)
    clear e0 e1 e2 e3 e4 e5 e6 hx2 HH
    go_wp2_with fail
    refine HK.out _ _ ?_
    clear HK K
    have HCP:=zH (zf2 (HE.out.ext HW.out.ext) (Nat.le_trans sm.seen (by decide)) (Nat.le_trans sm.counts (by decide)) (Nat.le_trans sm.items (by decide)) (fun it hit=>Nat.le_trans (sm.dots it hit) (by omega)))
    obtain⟨e0,e1,e2,e3,e4,e5,e6⟩:=HW.out.e.c7
    go_wp2_with fail
    refine HCP.out.mono ?_
    rintro r V4 ⟨u1,u2,u3,rfl,hu,hx4⟩
    have hzb:=hx4.size
    have hz2:=HW.out.size
    have HW:=zH (HW.out.on hx4)
    obtain⟨B1,m1,rfl,-,-⟩:=hu.seen.form
    obtain⟨B2,m2,rfl,-,-⟩:=hu.counts.form
    obtain⟨B3,m3,rfl,-,-⟩:=hu.items.form
    have HU:=zH (show EntAt V4 (fun b=>V2.heap.size≤b∧b < V4.heap.size) ⟨k,es,ec,ei,(x1,x2,x3)⟩ (.slice B1 es.length m1) (.slice B2 ec.length m2) (.slice B3 ei.length m3) from (show EntAt V4 (fun b=>V2.heap.size≤b) ⟨k,es,ec,ei,(x1,x2,x3)⟩ _ _ _ from ⟨hu.at.seen,hu.at.counts,hu.at.items⟩).mono fun b hb h=>⟨h,hb⟩)
    obtain⟨q0,q1,q2,q3⟩:=HW.out.o.c4
    obtain⟨hx1,hzz,rE,rO,rD,rR⟩:=HW.out
    obtain rfl:=HJ2.out
    clear hx4 hu HCP HW HJ2 e0 e1 e2 e3 e4 e5 e6
    have hlt1:w.heap.size+1 < V4.heap.size:=by omega
    go_wp2_with fail
    have rN:=zah V4 37 [St k,.slice B1 es.length m1,.slice B2 ec.length m2,.slice B3 ei.length m3,U x1,St x2,.bool x3]
    have hxa:=(Ext.refl V4).alloc (.cells #[St k,.slice B1 es.length m1,.slice B2 ec.length m2,.slice B3 ei.length m3,U x1,St x2,.bool x3] 37)
    have rO4:=rO.ext hxa
    have rD4:=rD.ext hxa
    have rR4:=rR.ext hxa
    have HU4:=zH (HU.out.ext hxa)
    have hx4:=hx1.trans hxa
    have hzn:=rN.lt
    generalize hW4:V4.alloc (.cells #[St k,.slice B1 es.length m1,.slice B2 ec.length m2,.slice B3 ei.length m3,U x1,St x2,.bool x3] 37)=W4 at *
    have hv4:=hxa.size
    clear hW4 rO rD rR rE hx1 hxa HU q0 q1 q2 q3
    refine za3 [fun v _=>v=opV (dO,k,n,tx),
  fun v _=>v=dotV (d1,dn),
  fun v W2=>∃ B m,W4.heap.size≤B∧B+6≤W2.heap.size∧UpdAt W2 B V4.heap.size n tx (d1,dn) m∧v=.map (some m),
  fun v _=>v=.pointer (some ⟨w.heap.size+1,1,none⟩),
  fun v _=>v=St k,
  fun v _=>v=K8 (zap k),
  fun v W2=>∃ B m,W4.heap.size≤B∧B+6≤W2.heap.size∧UpdAt W2 B V4.heap.size n tx (d1,dn) m∧InnerIs W2 B (zap k) v,
  fun v _=>v=.pointer (some ⟨w.heap.size+1,0,none⟩),
  fun v _=>v=K8 dO,
  fun v W2=>∃ B m,W4.heap.size≤B∧B+6≤W2.heap.size∧UpdAt W2 B V4.heap.size n tx (d1,dn) m∧v=.tuple #[(zb6 B (zap k) dO).getD .nilFunc,.bool (zb6 B (zap k) dO).isSome],
  fun v W2=>∃ B m,W4.heap.size≤B∧B+6≤W2.heap.size∧UpdAt W2 B V4.heap.size n tx (d1,dn) m∧v=.tuple #[(zb6 B (zap k) dO).getD .nilFunc,.bool (zb6 B (zap k) dO).isSome],
  fun v W2=>∃ B m,W4.heap.size≤B∧B+6≤W2.heap.size∧UpdAt W2 B V4.heap.size n tx (d1,dn) m∧v=(zb6 B (zap k) dO).getD .nilFunc,
  fun v _=>v=.bool (doE (zap k) ⟨k,es,ec,ei,(x1,x2,x3)⟩ (dO,k,n,tx) (d1,dn)).isSome,
  fun v W2=>∃ B m,W4.heap.size≤B∧B+6≤W2.heap.size∧UpdAt W2 B V4.heap.size n tx (d1,dn) m∧v=(zb6 B (zap k) dO).getD .nilFunc] rfl (by kernel_rfl) ?hR ?hstep ?hend
    case hR =>
     simp only [List.mem_cons,List.not_mem_nil,or_false,forall_eq_or_imp,forall_eq]
     exact⟨kP,kP,fun v _ _ h he=>by obtain⟨B,m,h1,h2,h3,h4⟩:=h;exact⟨B,m,h1,Nat.le_trans h2 he.size,h3.ext he,h4⟩,kP,kP,kP,fun v _ _ h he=>by obtain⟨B,m,h1,h2,h3,h4⟩:=h;exact⟨B,m,h1,Nat.le_trans h2 he.size,h3.ext he,h4.ext he⟩,kP,kP,fun v _ _ h he=>by obtain⟨B,m,h1,h2,h3,h4⟩:=h;exact⟨B,m,h1,Nat.le_trans h2 he.size,h3.ext he,h4⟩,fun v _ _ h he=>by obtain⟨B,m,h1,h2,h3,h4⟩:=h;exact⟨B,m,h1,Nat.le_trans h2 he.size,h3.ext he,h4⟩,fun v _ _ h he=>by obtain⟨B,m,h1,h2,h3,h4⟩:=h;exact⟨B,m,h1,Nat.le_trans h2 he.size,h3.ext he,h4⟩,kP,fun v _ _ h he=>by obtain⟨B,m,h1,h2,h3,h4⟩:=h;exact⟨B,m,h1,Nat.le_trans h2 he.size,h3.ext he,h4⟩⟩
    case hstep =>
     simp only [List.length_cons,List.length_nil,Nat.reduceAdd,List.take_succ_cons,List.take_zero,zb3,and_true]
     refine ⟨?_,?_,?_,?_,?_,?_,?_,?_,?_,?_,?_,?_,?_,?_⟩
     ·intro x W he f
      have h:x 4=.pointer (some ⟨w.heap.size+1,0,none⟩):=f.1
      have q0:=(rO4.ext he).cell (j:=0) rfl
      have q1:=(rO4.ext he).cell (j:=1) rfl
      have q2:=(rO4.ext he).cell (j:=2) rfl
      have q3:=(rO4.ext he).cell (j:=3) rfl
      go_wp
      exact sQ
     ·intro x W he f
      have h:x 5=.pointer (some ⟨w.heap.size+1+1,0,none⟩):=f.1
      have q0:=(rD4.ext he).cell (j:=0) rfl
      have q1:=(rD4.ext he).cell (j:=1) rfl
      go_wp
      exact sQ
     ·intro x W he f
      have h8:x 8=.pointer (some ⟨V4.heap.size,0,none⟩):=f.1
      have h54:x 54=opV (dO,k,n,tx):=f.2.1
      have h55:x 55=dotV (d1,dn):=f.2.2.1
      have hs:=he.size
      have HC:=zH (zrv (W:=W) (E:=V4.heap.size) k dO n tx (d1,dn))
      go_wp
      refine HC.out.mono ?_
      rintro r W2 ⟨m,rfl,hU,hz,hx2⟩
      dsimp only
      go_wp
      exact zaa (v:=.map (some m)) ⟨W.heap.size,m,hs,hz,hU,rfl⟩ hx2
     ·intro x W he f
      have h:x 4=.pointer (some ⟨w.heap.size+1,0,none⟩):=f.1
      go_wp
      exact sQ
     ·intro x W he f
      have h:x 57=.pointer (some ⟨w.heap.size+1,1,none⟩):=f.1
      have q1:=(rO4.ext he).cell (j:=1) rfl
      go_wp
      exact sQ
     ·intro x W he f
      have h:x 58=St k:=f.1
      have HC:=zH (zjj k W)
      go_wp
      refine HC.out.mono ?_
      rintro r W2 ⟨rfl,hx2⟩
      dsimp only
      go_wp
      exact zaa rfl hx2
     ·intro x W he f
      obtain⟨B,m,b1,b2,hU,h⟩:∃ B m,W4.heap.size≤B∧B+6≤W.heap.size∧UpdAt W B V4.heap.size n tx (d1,dn) m∧x 56=.map (some m):=f.1
      have h59:x 59=K8 (zap k):=f.2.1
      obtain⟨u,hu1,hu2⟩:=zyf hU (zap k)
      have hl:=hu1 W (Ext.refl _)
      go_wp
      exact zaa (v:=u) ⟨B,m,b1,b2,hU,hu2⟩ (Ext.refl _)
     ·intro x W he f
      have h:x 4=.pointer (some ⟨w.heap.size+1,0,none⟩):=f.1
      go_wp
      exact sQ
     ·intro x W he f
      have h:x 61=.pointer (some ⟨w.heap.size+1,0,none⟩):=f.1
      have q0:=(rO4.ext he).cell (j:=0) rfl
      go_wp
      exact sQ
     ·intro x W he f
      obtain⟨B,m,b1,b2,hU,hI⟩:∃ B m,W4.heap.size≤B∧B+6≤W.heap.size∧UpdAt W B V4.heap.size n tx (d1,dn) m∧InnerIs W B (zap k) (x 60):=f.1
      have h62:x 62=K8 dO:=f.2.1
      have hl:=hI W (Ext.refl _) dO
      go_wp
      exact zaa ⟨B,m,b1,b2,hU,rfl⟩ (Ext.refl _)
     ·intro x W he f
      obtain⟨B,m,b1,b2,hU,h⟩:∃ B m,W4.heap.size≤B∧B+6≤W.heap.size∧UpdAt W B V4.heap.size n tx (d1,dn) m∧x 63=.tuple #[(zb6 B (zap k) dO).getD .nilFunc,.bool (zb6 B (zap k) dO).isSome]:=f.1
      go_wp
      exact zaa ⟨B,m,b1,b2,hU,rfl⟩ (Ext.refl _)
     ·intro x W he f
      obtain⟨B,m,b1,b2,hU,h⟩:∃ B m,W4.heap.size≤B∧B+6≤W.heap.size∧UpdAt W B V4.heap.size n tx (d1,dn) m∧x 53=.tuple #[(zb6 B (zap k) dO).getD .nilFunc,.bool (zb6 B (zap k) dO).isSome]:=f.1
      go_wp
      exact zaa ⟨B,m,b1,b2,hU,rfl⟩ (Ext.refl _)
     ·intro x W he f
      obtain⟨B,m,b1,b2,hU,h⟩:∃ B m,W4.heap.size≤B∧B+6≤W.heap.size∧UpdAt W B V4.heap.size n tx (d1,dn) m∧x 53=.tuple #[(zb6 B (zap k) dO).getD .nilFunc,.bool (zb6 B (zap k) dO).isSome]:=f.1
      rw [ztq B (zap k) ⟨k,es,ec,ei,(x1,x2,x3)⟩ (dO,k,n,tx) (d1,dn)] at h
      go_wp
      exact sQ
     ·intro x W he f
      obtain⟨B,m,b1,b2,hU,h⟩:∃ B m,W4.heap.size≤B∧B+6≤W.heap.size∧UpdAt W B V4.heap.size n tx (d1,dn) m∧x 64=(zb6 B (zap k) dO).getD .nilFunc:=f.1
      go_wp
      first | exact zaa ⟨B,m,b1,b2,hU,rfl⟩ (Ext.refl _) | exact zaa ⟨B,m,b1,b2,hU,h⟩ (Ext.refl _)
    case hend =>
     intro x W he f
     obtain⟨B,m,hB1,hB2,hU,h9⟩:∃ B m,W4.heap.size≤B∧B+6≤W.heap.size∧UpdAt W B V4.heap.size n tx (d1,dn) m∧x 9=(zb6 B (zap k) dO).getD .nilFunc:=f.2.2.2.2.2.2.2.2.2.2.2.2.2.1
     have h65:x 65=.bool (doE (zap k) ⟨k,es,ec,ei,(x1,x2,x3)⟩ (dO,k,n,tx) (d1,dn)).isSome:=f.2.2.2.2.2.2.2.2.2.2.2.2.1
     clear f
     have hx5:=hx4.trans he
     have rN5:=rN.ext he
     have rD5:=rD4.ext he
     have rR:=rR4.ext he
     have HU5:=zH (HU4.out.ext he)
     have HRE:=zH (show zer ⟨k,es,ec,ei,(x1,x2,x3)⟩ (dO,k,n,tx) (d1,dn)=match (doE (zap k) ⟨k,es,ec,ei,(x1,x2,x3)⟩ (dO,k,n,tx) (d1,dn)) with | none=>(zag,150) | some p=>if p.2=0 then ({ p.1 with seen:=setM p.1.seen d1 dn },0) else (zag,p.2) from rfl)
     have HDO:=yal (kk:=zap k) (o:=(dO,k,n,tx)) (d:=(d1,dn)) (e:=⟨k,es,ec,ei,(x1,x2,x3)⟩) hU hn1 hn2 (Nat.lt_of_le_of_lt sm.counts (by decide)) (Nat.lt_of_le_of_lt sm.places (by decide)) rN5 HU5.out (fun b hb=>⟨by omega,by omega⟩) (by omega)
     have hse:=@zyg (zap k) ⟨k,es,ec,ei,(x1,x2,x3)⟩ (dO,k,n,tx) (d1,dn)
     generalize doE (zap k) ⟨k,es,ec,ei,(x1,x2,x3)⟩ (dO,k,n,tx) (d1,dn)=Dd at *
     clear hU he rO4 rD4 rR4 HU4 rN hx4
     cases Dd with
     | none =>
      clear HDO h9 hse
      have HRE2:=zH HRE.out
      obtain⟨r0,r1,r2,r3,r4,r5,r6⟩:=rR.p7
      obtain⟨f0,f1,f2,f3,f4,f5,f6⟩:=rR.q7
      have HX:=zH hx5
      simp only [Option.isSome_none] at h65
      clear rN5 rD5 HU5 HRE
      simp only [List.length_cons,List.length_nil,Nat.reduceAdd,List.take_succ_cons,List.take_zero,List.filterMap_cons,List.filterMap_nil,List.drop_succ_cons,List.drop_zero,zay,Act.put,List.setIfInBounds_toArray,List.set_cons_succ,List.set_cons_zero,h65]
      go_wp
      go_wp2_with fail
      (try simp only [Exit.inBlock,Exit.then])
      refine bodyPost_ret (v:=.tuple #[entV zag (.slice none 0 0) (.slice none 0 0) (.slice none 0 0),I 150]) (by simp [results,Tryz.f42,go_sem,entV,entC,zag,r0,r1,r2,r3,r4,r5,r6]) rfl ?_
      have hp:=zdq (q:=w.heap.size+1+1+1) HX.out (by omega) zag (.slice none 0 0) (.slice none 0 0) (.slice none 0 0)
      refine ⟨.slice none 0 0,.slice none 0 0,.slice none 0 0,by (rw [HRE2.out];try rfl),?_⟩
      rw [HRE2.out]
      exact⟨EntAt.none _ _ _ _ _,hp⟩
     | some p =>
      obtain⟨e1,err⟩:=p
      have HS1:=zH (hse rfl)
      simp only [Option.isSome_some] at h65
      cases hc:zb6 B (zap k) dO with
      | none=>rw [hc] at HDO;exact HDO.elim
      | some c =>
       rw [hc] at HDO h9
       obtain⟨fn,cap,rfl,hen,HCC⟩:=HDO
       simp only [Option.getD_some] at h9
       have HC:=zH HCC
       clear HCC hc hse
       simp only [List.length_cons,List.length_nil,Nat.reduceAdd,List.take_succ_cons,List.take_zero,List.filterMap_cons,List.filterMap_nil,List.drop_succ_cons,List.drop_zero,zay,Act.put,List.setIfInBounds_toArray,List.set_cons_succ,List.set_cons_zero,h65,h9]
       go_wp
       go_wp2_with fail
       refine HC.out.mono ?_
       rintro r W6 ⟨rfl,hD⟩
       obtain⟨t2,t3,hE6,hA6,hk6⟩:=hD
       have hx6:=hx5.kept2 hk6 (by omega) (by omega)
       have rR6:=rR.keep (hk6.other _ rR.lt (by omega) (by omega))
       have rD6:=rD5.keep (hk6.other _ rD5.lt (by omega) (by omega))
       have hz6:=hk6.size
       clear HC rR rD5 rN5 HU5 hx5 hk6 hen
       by_cases herr:err=0
       ·subst herr
        have HRE2:=zH (show zer ⟨k,es,ec,ei,(x1,x2,x3)⟩ (dO,k,n,tx) (d1,dn)=({ e1 with seen:=setM e1.seen d1 dn },0) from HRE.out)
        have HS:=zH (zk8 d1 dn hA6.seen (by rw [HS1.out.1];exact Nat.le_trans sm.seen (by decide)))
        obtain⟨T2,t2n,rfl,-,-⟩:=hA6.counts.form
        obtain⟨T3,t3n,rfl,-,-⟩:=hA6.items.form
        have k1:=hE6.cell (j:=1) rfl
        have dd0:=rD6.cell (j:=0) rfl
        have dd1:=rD6.cell (j:=1) rfl
        have HA6:=zH hA6
        clear hA6 HRE
        go_wp2_with fail
        refine HS.out.mono ?_
        rintro r W7 ⟨u,rfl,ho,hx7⟩
        obtain⟨U1,un,rfl,-,-⟩:=ho.form
        have hE7:=hE6.ext hx7
        have rR7:=rR6.ext hx7
        have hf7:=hE7.frozen 1
        have hc7:=hE7.cell (j:=1) rfl
        have hsz7:=hx7.size
        have hE8:=hE7.set (j:=1) (by simp) (.slice U1 (setM e1.seen d1 dn).length un)
        have rR8:=rR7.other (p:=⟨V4.heap.size,1,none⟩) (by simp;omega) (.slice U1 (setM e1.seen d1 dn).length un)
        simp only [List.set_cons_succ,List.set_cons_zero] at hE8
        obtain⟨y0,y1,y2,y3,y4,y5,y6⟩:=hE7.p7
        obtain⟨rr0,rr1,rr2,rr3,rr4,rr5,rr6⟩:=rR7.p7
        obtain⟨ff0,ff1,ff2,ff3,ff4,ff5,ff6⟩:=rR7.q7
        obtain⟨z0,z1,z2,z3,z4,z5,z6⟩:=hE8.p7
        obtain⟨r0,r1,r2,r3,r4,r5,r6⟩:=rR8.p7
        obtain⟨f0,f1,f2,f3,f4,f5,f6⟩:=rR8.q7
        have HX:=zH (((hx6.trans hx7).set (p:=⟨V4.heap.size,1,none⟩) (by simp;omega) (.slice U1 (setM e1.seen d1 dn).length un)))
        have HO:=zH ho
        have HX7:=zH hx7
        clear hE6 hE7 hE8 rR6 rR7 rR8 rD6 ho hx7 hx6 HS k1 dd0 dd1
        go_wp2_with fail
        (try simp only [Exit.inBlock,Exit.then])
        refine bodyPost_ret (v:=.tuple #[entV { e1 with seen:=setM e1.seen d1 dn } (.slice U1 (setM e1.seen d1 dn).length un) (.slice T2 e1.counts.length t2n) (.slice T3 e1.items.length t3n),I 0]) (by simp [results,Tryz.f42,go_sem,entV,entC,r0,r1,r2,r3,r4,r5,r6,rr0,rr1,rr2,rr3,rr4,rr5,rr6]) rfl ?_
        have hp:=zdq (q:=w.heap.size+1+1+1) HX.out (by omega) { e1 with seen:=setM e1.seen d1 dn } (.slice U1 (setM e1.seen d1 dn).length un) (.slice T2 e1.counts.length t2n) (.slice T3 e1.items.length t3n)
        refine ⟨.slice U1 (setM e1.seen d1 dn).length un,.slice T2 e1.counts.length t2n,.slice T3 e1.items.length t3n,by (rw [HRE2.out];try rfl),?_⟩
        rw [HRE2.out]
        refine ⟨?_,hp⟩
        have hkp:∀ b,b ≠ V4.heap.size→b ≠ w.heap.size+1+1+1→(put7 (W7.setCell ⟨V4.heap.size,1,none⟩ (.slice U1 (setM e1.seen d1 dn).length un)) (w.heap.size+1+1+1) { e1 with seen:=setM e1.seen d1 dn } (.slice U1 (setM e1.seen d1 dn).length un) (.slice T2 e1.counts.length t2n) (.slice T3 e1.items.length t3n)).heap[b]? = W7.heap[b]?:=fun b h1 h2 =>
         (zf6 _ _ _ _ _ _ b h2).trans (Below.heap_setCell _ _ _ _ h1)
        have hA7:=HA6.out.ext HX7.out
        refine ⟨?_,?_,?_⟩
        ·exact (zbt (HO.out.keep fun b hb _=>hkp b (by have:=(HO.out.base_le hb).1;omega) (by have:=(HO.out.base_le hb).1;omega))).mono (by decide) fun b _ h=>by omega
        ·exact (hA7.counts.keep (by decide) fun b hb _=>hkp b (by rcases hb with hb | hb <;> omega) (by rcases hb with hb | hb <;> omega)).mono (by decide) fun b _ hb=>by rcases hb with hb | hb <;> omega
        ·exact (hA7.items.keep (by decide) fun b hb _=>hkp b (by rcases hb with hb | hb <;> omega) (by rcases hb with hb | hb <;> omega)).mono (by decide) fun b _ hb=>by rcases hb with hb | hb <;> omega
       ·have HRE2:=zH (show zer ⟨k,es,ec,ei,(x1,x2,x3)⟩ (dO,k,n,tx) (d1,dn)=(zag,err) by rw [HRE.out];exact if_neg herr)
        have hne2:((err:Int) == 0)=false:=neI (by omega)
        obtain⟨r0,r1,r2,r3,r4,r5,r6⟩:=rR6.p7
        obtain⟨f0,f1,f2,f3,f4,f5,f6⟩:=rR6.q7
        have HX:=zH hx6
        clear hE6 hA6 rD6 HRE hx6 rR6
        go_wp2_with fail
        (try simp only [Exit.inBlock,Exit.then])
        refine bodyPost_ret (v:=.tuple #[entV zag (.slice none 0 0) (.slice none 0 0) (.slice none 0 0),I err]) (by simp [results,Tryz.f42,go_sem,entV,entC,zag,r0,r1,r2,r3,r4,r5,r6]) rfl ?_
        have hp:=zdq (q:=w.heap.size+1+1+1) HX.out (by omega) zag (.slice none 0 0) (.slice none 0 0) (.slice none 0 0)
        refine ⟨.slice none 0 0,.slice none 0 0,.slice none 0 0,by (rw [HRE2.out];try rfl),?_⟩
        rw [HRE2.out]
        exact⟨EntAt.none _ _ _ _ _,hp⟩
   ·rw [hh] at HH
    go_wp2_with fail
    refine HH.out.mono ?_
    rintro r V2 ⟨rfl,hx2⟩
    have HW:=zH (HW.out.on hx2)
    clear e0 e1 e2 e3 e4 e5 e6 hx2 HH
    have HJ2:=zH (show J=(zag,2) by rw [HJ.out,if_pos (.inr (.inr (.inr hh)))])
    have HX:=zH (HW.out).ext
    obtain⟨r0,r1,r2,r3,r4,r5,r6⟩:=(HW.out).r.c7
    obtain⟨f0,f1,f2,f3,f4,f5,f6⟩:=(HW.out).r.z7
    clear HJ
    go_wp2_with fail
    (try simp only [Exit.inBlock,Exit.then])
    exact bodyPost_ret (v:=.tuple #[entV zag (.slice none 0 0) (.slice none 0 0) (.slice none 0 0),I 2]) (by simp [results,Tryz.f42,go_sem,entV,entC,zag,r0,r1,r2,r3,r4,r5,r6]) rfl (HNO.out 2 _ HX.out HJ2.out)
  have HRS:=zH REST
  clear REST hK
  have HN:=zH (zof (HE.out.ext HW.out.ext))
  obtain⟨e0,e1,e2,e3,e4,e5,e6⟩:=HW.out.e.c7
  obtain⟨o0,o1,o2,o3⟩:=HW.out.o.c4
  by_cases he:ek=k
  ·subst he
   clear HN
   go_wp2_with fail
   exact HRS.out _ _ _ _ _ _ _ _ _ _ _ _ _ _ _ HW.out (HJ2.out.trans (if_neg fun h=>h.1 rfl))
  have hne:(ek == k)=false:=by simpa using he
  cases hs:zbv ⟨ek,es,ec,ei,x1,x2,x3⟩ zag
  ·clear HRS
   rw [hs] at HN
   go_wp2_with fail
   refine HN.out.mono ?_
   rintro r V2 ⟨rfl,hx2⟩
   have HW:=zH (HW.out.on hx2)
   clear e0 e1 e2 e3 e4 e5 e6 o0 o1 o2 o3 hx2 HN
   have HJ:=HJ2
   have HJ2:=zH (show J=(zag,2) by rw [HJ.out,if_pos ⟨he,hs⟩])
   have HX:=zH (HW.out).ext
   obtain⟨r0,r1,r2,r3,r4,r5,r6⟩:=(HW.out).r.c7
   obtain⟨f0,f1,f2,f3,f4,f5,f6⟩:=(HW.out).r.z7
   clear HJ
   go_wp2_with fail
   (try simp only [Exit.inBlock,Exit.then])
   exact bodyPost_ret (v:=.tuple #[entV zag (.slice none 0 0) (.slice none 0 0) (.slice none 0 0),I 2]) (by simp [results,Tryz.f42,go_sem,entV,entC,zag,r0,r1,r2,r3,r4,r5,r6]) rfl (HNO.out 2 _ HX.out HJ2.out)
  ·rw [hs] at HN
   go_wp2_with fail
   refine HN.out.mono ?_
   rintro r V2 ⟨rfl,hx2⟩
   go_wp2_with fail
   exact HRS.out _ _ _ _ _ _ _ _ _ _ _ _ _ _ _ (HW.out.on hx2) (HJ2.out.trans (if_neg fun h=>by rw [hs] at h;cases h.2))
end
section
theorem zv9 {κ:Type} [DecidableEq κ] {l:List κ} (h:l.Nodup):setL l=l:=by
 have:=zj6 l [] (by simpa using h)
 simpa [setL] using this
theorem zks {l:List Item} {s:Str} (h:(zcn l).Nodup):((za4 l s).map (·.2)).Nodup∧∀ p ∈ za4 l s,p ∈ zad l:=by
 rw [zcy] at h
 have h0:(zad l).Nodup:=(List.pairwise_map.1 h).imp fun h e=>h (by rw [e])
 unfold za4
 rw [zv9 h0]
 exact⟨List.Nodup.sublist ((List.filter_sublist).map _) h,fun p hp=>(List.mem_filter.1 hp).1⟩
theorem zdd {l:List Item} (h:GoodB l) {p:zan} (hp:p ∈ zad l):OkD p.2∧p.1.length≤4096∧p.2 ∈ zcn l:=by
 have hd:p.2 ∈ zcn l:=by rw [zcy];exact List.mem_map.2 ⟨p,hp,rfl⟩
 obtain⟨it,hit,hm⟩:=List.mem_flatMap.1 hp
 obtain⟨d,hd2,rfl⟩:=List.mem_map.1 hm
 exact⟨h.2.2.1 _ hd,(h.2.1 it hit).1,hd⟩
theorem ztr {l:List Item} (s:Str) (h:GoodB l):GoodB (zfe l s)∧∀ d ∈ zcn (zfe l s),d ∈ zcn l:=by
 obtain⟨h1,h2⟩:=zks (s:=s) h.2.2.2
 refine ⟨ziw h1 (fun p hp=>(zdd h (h2 p hp)).1) (fun p hp=>(zdd h (h2 p hp)).2.1),fun d hd=>?_⟩
 obtain⟨p,hp,rfl⟩:=zm1 hd
 exact (zdd h (h2 p hp)).2.2
theorem zwa {l:List Item} {s:Str} {d:Dot} (h:GoodB l) (hd:OkD d) (hn:d ∉ zcn l) (h0:(putB l s d).2=0):GoodB (putB l s d).1∧∀ x ∈ zcn (putB l s d).1,x=d ∨ x ∈ zcn l:=by
 unfold putB at h0 ⊢
 by_cases hs:4096 < s.length
 ·rw [if_pos hs] at h0;cases h0
 ·rw [if_neg hs] at h0 ⊢
  by_cases hf:256≤(zee (za4 l s)).length
  ·rw [if_pos hf] at h0;cases h0
  ·rw [if_neg hf]
   obtain⟨h1,h2⟩:=zks (s:=s) h.2.2.2
   have hnew:(s,d) ∉ za4 l s:=fun hm=>hn (zdd h (h2 _ hm)).2.2
   have ha:addK (za4 l s) (s,d)=za4 l s++[(s,d)]:=by unfold addK;rw [if_neg hnew]
   rw [ha]
   have hp:∀ p ∈ za4 l s++[(s,d)],p ∈ za4 l s ∨ p=(s,d):=fun p hp=>by
    rcases List.mem_append.1 hp with hp | hp
    ·exact .inl hp
    ·exact .inr (by simpa using hp)
   refine ⟨ziw ?_ (fun p hpm=>?_) (fun p hpm=>?_),fun x hx=>?_⟩
   ·rw [List.map_append,List.nodup_append]
    refine ⟨h1,by simp,fun a haa b hb=>?_⟩
    simp only [List.map_cons,List.map_nil,List.mem_singleton] at hb
    subst hb
    obtain⟨p,hpm,rfl⟩:=List.mem_map.1 haa
    intro e
    exact hn (e ▸ (zdd h (h2 p hpm)).2.2)
   ·rcases hp p hpm with hpm | rfl
    ·exact (zdd h (h2 p hpm)).1
    ·exact hd
   ·rcases hp p hpm with hpm | rfl
    ·exact (zdd h (h2 p hpm)).2.1
    ·exact Nat.not_lt.1 hs
   ·obtain⟨p,hpm,rfl⟩:=zm1 hx
    rcases hp p hpm with hpm | rfl
    ·exact .inr (zdd h (h2 p hpm)).2.2
    ·exact .inl rfl
structure PreE (e:Entry):Prop where
 good:GoodM e.seen
 most:∀ m ∈ e.seen,m.2≤281474976710656
 one:zap e.key=1→e.items = []∧e.cell=zgh∧∀ c ∈ e.counts,c.1 = [] ∨ ofM e.seen c.1 ≠ 0
 two:zap e.key=2→GoodB e.items∧(∀ d ∈ zcn e.items,hasM e.seen d=true)∧e.counts = []∧e.cell=zgh
 three:zap e.key=3→e.counts = []∧e.items = []
theorem zon:GoodB []:=⟨.nil,by simp,by simp [zcn],by simp [zcn]⟩
end
section
open Go.RowKit Go.Shelf
def zds (all:List Mark):Option Str→List Entry→Bool
 | _,[]=>true
 | prev,e :: r=>mayE e && ((match prev with | none=>true | some k=>ltS k e.key) && (za6 all e.seen && zds all (some e.key) r))
def zda (all:List Mark):Option Str→List Str→Bool
 | _,[]=>true
 | prev,p :: r=>!p.isEmpty && ((match prev with | none=>true | some k=>ltS k p) && (decide (ofM all p=0) && zda all (some p) r))
def mayS (s:State):Bool:=mayM s.all && (zds s.all none s.entries && zda s.all none s.pruned)
theorem zjr {S:Nat→Prop} {s:State} {v1 v2 v3:Value} {w:World} (h:StAt w S s v1 v2 v3) (sm:SmallS s) :
  Calls Tryz.prog 20 #[stV v1 v2 v3] w fun r w'=>r=.returned (.bool (mayS s))∧Ext w w':=by
 obtain⟨sa,se,sp⟩:=s
 obtain⟨A1,n1,rfl,-,-⟩:=h.all.form
 obtain⟨A2,n2,rfl,-,-⟩:=h.entries.form
 obtain⟨A3,n3,rfl,-,-⟩:=h.pruned.form
 have h':=h.entries
 have h'':=h.pruned
 have HAT:=zH (fun (pre post:List Entry) (m:Entry) (wr:World) (hx:Ext w wr) (hl:se=pre++m :: post)=>zdp h' hx hl)
 have HPT:=zH (fun (pre post:List Str) (m:Str) (wr:World) (hx:Ext w wr) (hl:sp=pre++m :: post)=>zg6 h'' hx hl)
 have H:=zH h
 have SM:=zH sm
 have hx0:=(Ext.refl w).alloc (.cells #[.slice A1 sa.length n1,.slice A2 se.length n2,.slice A3 sp.length n3] 30)
 have rB0:=zah w 30 [.slice A1 sa.length n1,.slice A2 se.length n2,.slice A3 sp.length n3]
 have H1:=zH (zsn (h.all.ext (by decide) hx0))
 have HM:=zH (show mayS ⟨sa,se,sp⟩=(mayM sa && (zds sa none se && zda sa none sp)) from rfl)
 have hsa:sa.length≤549755813888:=sm.all
 have hse:se.length≤549755813888:=sm.entries
 have hsp:sp.length≤549755813888:=sm.pruned
 clear h h' h'' sm
 go_enter Tryz.func20,Tryz.ntmps20
 go_wp2_with fail
 generalize w.alloc (.cells #[.slice A1 sa.length n1,.slice A2 se.length n2,.slice A3 sp.length n3] 30)=W0 at *
 refine H1.out.mono ?_
 rintro r W1 ⟨rfl,hx1⟩
 have rB:=rB0.ext hx1
 have hxw:=hx0.trans hx1
 have b1:=rB.cell (j:=1) rfl
 have hbl:=rB.lt
 clear rB0 hx0 hx1 H1
 cases hm:mayM sa with
 | false =>
  have HR:=zH (show mayS ⟨sa,se,sp⟩=false by rw [HM.out,hm];rfl)
  have HX:=zH hxw
  clear hxw rB HM
  go_wp2_with fail
  go_ret
  exact⟨by rw [HR.out];rfl,HX.out⟩
 | true =>
  have HM2:=zH (show mayS ⟨sa,se,sp⟩=(zds sa none se && zda sa none sp) by rw [HM.out,hm];rfl)
  have HB1:=zH rB
  have HX1:=zH hxw
  clear hm HM rB hxw
  go_wp2_with fail
  go_loopw [14] (fun i wr=>∃ pre post,se=pre++post∧i=I pre.length∧Hid (zds sa none se=zds sa (pre.getLast?.map (·.key)) post)∧Hid (RowIs wr w.heap.size 30 [.slice A1 sa.length n1,.slice A2 se.length n2,.slice A3 sp.length n3] [])∧Ext w wr) (fun i _=>se.length - (intOf i).toNat)
  case atStart=>exact⟨[],se,rfl,rfl,zH rfl,HB1,HX1.out⟩
  case round =>
   obtain⟨pre,post,hl,rfl,hme,hrow,hx⟩:=hrel
   cases post with
   | cons m post =>
    obtain⟨b,o,a1,a2,a3,rfl,e0,e1,e2,e3,e4,e5,e6,hEA⟩:=HAT.out pre post m wr hx hl
    obtain⟨C1,c1,rfl,-,-⟩:=hEA.seen.form
    obtain⟨C2,c2,rfl,-,-⟩:=hEA.counts.form
    obtain⟨C3,c3,rfl,-,-⟩:=hEA.items.form
    have hlt:pre.length < se.length:=by rw [hl];simp
    have HL:=zH hl
    have hsm:SmallE m:=SM.out.each m (by show m ∈ se;rw [hl];simp)
    have hxb:=(Ext.refl wr).alloc (.cells #[St m.key,.slice C1 m.seen.length c1,.slice C2 m.counts.length c2,.slice C3 m.items.length c3,U m.cell.1,St m.cell.2.1,.bool m.cell.2.2] 37)
    have rb:=zah wr 37 [St m.key,.slice C1 m.seen.length c1,.slice C2 m.counts.length c2,.slice C3 m.items.length c3,U m.cell.1,St m.cell.2.1,.bool m.cell.2.2]
    have hprev:(pre.length=0∧pre.getLast?.map (·.key)=none) ∨ (0 < pre.length∧∃ q:Entry,pre.getLast?.map (·.key)=some q.key∧wr.cell? ⟨b,o+(pre.length - 1) * 7,none⟩=some (St q.key)):=by
     rcases Nat.eq_zero_or_pos pre.length with h0 | h0
     ·exact .inl ⟨h0,by rw [List.eq_nil_of_length_eq_zero h0];rfl⟩
     ·obtain⟨p',q,f1,f2,f3⟩:=zhn h0
      obtain⟨b',o',_,_,_,e,q0,-⟩:=HAT.out p' (m :: post) q wr hx (by rw [hl,f1];simp)
      cases e
      rw [f3] at q0
      exact .inr ⟨h0,q,by rw [f2];rfl,q0⟩
    have hEA2:=(hEA.ext hx).ext hxb
    have HB:=zH (hrow.out.ext hxb)
    have hxwb:=hx.trans hxb
    have HME:=zH (show zds sa none se=(mayE m && ((match pre.getLast?.map (·.key) with | none=>true | some k=>ltS k m.key) && (za6 sa m.seen && zds sa (some m.key) post))) from hme.out)
    clear hl hEA hme hrow hx
    go_wp2_with fail
    generalize hWb:wr.alloc (.cells #[St m.key,.slice C1 m.seen.length c1,.slice C2 m.counts.length c2,.slice C3 m.items.length c3,U m.cell.1,St m.cell.2.1,.bool m.cell.2.2] 37)=Wb at *
    have hprev2:(pre.length=0∧pre.getLast?.map (·.key)=none) ∨ (0 < pre.length∧∃ q:Entry,pre.getLast?.map (·.key)=some q.key∧Wb.cell? ⟨b,o+(pre.length - 1) * 7,none⟩=some (St q.key)):=by
     rcases hprev with h | ⟨h0,q,h1,h2⟩
     ·exact .inl h
     ·exact .inr ⟨h0,q,h1,hxb.cell h2⟩
    have HSA:=zH (H.out.all.ext (by decide) hxwb)
    clear hWb hprev hxb e0 e1 e2 e3 e4 e5 e6
    have HXB:=zH hxwb
    clear hxwb
    cases hb:mayE m with
    | false =>
     have HRF:=zH (show mayS ⟨sa,se,sp⟩=false by rw [HM2.out,HME.out,hb];rfl)
     refine za3 [fun v _=>v=entV m (.slice C1 m.seen.length c1) (.slice C2 m.counts.length c2) (.slice C3 m.items.length c3),
   fun v _=>v=.bool false,
   fun v _=>v=.bool true,
   fun v _=>v=.bool true,
   fun v _=>v=.tuple #[],
   fun v _=>v=.tuple #[],
   fun v _=>v=.tuple #[],
   fun v _=>v=.tuple #[],
   fun v _=>v=.tuple #[],
   fun v _=>v=.tuple #[],
   fun v _=>v=.tuple #[],
   fun v _=>v=.tuple #[],
   fun v _=>v=.tuple #[],
   fun v _=>v=.tuple #[],
   fun v _=>v=.tuple #[],
   fun v _=>v=.tuple #[],
   fun v _=>v=.tuple #[],
   fun v _=>v=.tuple #[],
   fun v _=>v=.bool true,
   fun v _=>v=.bool true,
   fun v _=>v=.tuple #[],
   fun v _=>v=.tuple #[],
   fun v _=>v=.tuple #[],
   fun v _=>v=.tuple #[],
   fun v _=>v=.tuple #[],
   fun v _=>v=.tuple #[]] rfl (by kernel_rfl) ?hR ?hstep ?hend
     case hR =>
      simp only [List.mem_cons,List.not_mem_nil,or_false,forall_eq_or_imp,forall_eq]
      exact⟨kP,kP,kP,kP,kP,kP,kP,kP,kP,kP,kP,kP,kP,kP,kP,kP,kP,kP,kP,kP,kP,kP,kP,kP,kP,kP⟩
     case hstep =>
      simp only [List.length_cons,List.length_nil,Nat.reduceAdd,List.take_succ_cons,List.take_zero,zb3,and_true]
      refine ⟨?_,?_,?_,?_,?_,?_,?_,?_,?_,?_,?_,?_,?_,?_,?_,?_,?_,?_,?_,?_,?_,?_,?_,?_,?_,?_⟩
      ·intro x W he f
       have h0:x 4=.pointer (some ⟨wr.heap.size,0,none⟩):=f.1
       have q0:=(rb.ext he).cell (j:=0) rfl
       have q1:=(rb.ext he).cell (j:=1) rfl
       have q2:=(rb.ext he).cell (j:=2) rfl
       have q3:=(rb.ext he).cell (j:=3) rfl
       have q4:=(rb.ext he).cell (j:=4) rfl
       have q5:=(rb.ext he).cell (j:=5) rfl
       have q6:=(rb.ext he).cell (j:=6) rfl
       go_wp
       exact sQ
      ·intro x W he f
       have h0:x 19=entV m (.slice C1 m.seen.length c1) (.slice C2 m.counts.length c2) (.slice C3 m.items.length c3):=f.1
       have HC:=zH (zjk (hEA2.ext he) (Nat.le_trans hsm.items (by decide)))
       rw [hb] at HC
       go_wp
       refine HC.out.mono ?_
       rintro r W2 ⟨rfl,hx2⟩
       dsimp only
       go_wp
       exact zaa rfl hx2
      ·intro x W he f
       have h0:x 20=.bool false:=f.1
       go_wp
       exact sQ
      ·intro x W he f
       have h0:x 21=.bool true:=f.1
       go_wp
       exact sQ
      ·intro x W he f
       have h0:x 3=I pre.length:=f.1
       have h1:x 22=.bool true:=f.2.1
       go_wp
       exact sQ
      ·intro x W he f
       have h0:x 23=.tuple #[]:=f.1
       have h1:x 22=.bool true:=f.2.1
       go_wp
       exact sQ
      ·intro x W he f
       have h0:x 24=.tuple #[]:=f.1
       have h1:x 22=.bool true:=f.2.1
       go_wp
       exact sQ
      ·intro x W he f
       have h0:x 1=.pointer (some ⟨w.heap.size,0,none⟩):=f.1
       have h1:x 25=.tuple #[]:=f.2.1
       go_wp
       exact sQ
      ·intro x W he f
       have h0:x 26=.tuple #[]:=f.1
       have h1:x 25=.tuple #[]:=f.2.1
       have c1:=(HB.out.ext he).cell (j:=1) rfl
       go_wp
       exact sQ
      ·intro x W he f
       have h0:x 3=I pre.length:=f.1
       have h1:x 25=.tuple #[]:=f.2.1
       go_wp
       exact sQ
      ·intro x W he f
       have h0:x 28=.tuple #[]:=f.1
       have h1:x 25=.tuple #[]:=f.2.1
       go_wp
       exact sQ
      ·intro x W he f
       have h0:x 27=.tuple #[]:=f.1
       have h1:x 29=.tuple #[]:=f.2.1
       have h2:x 25=.tuple #[]:=f.2.2.1
       go_wp
       exact sQ
      ·intro x W he f
       have h0:x 30=.tuple #[]:=f.1
       have h1:x 25=.tuple #[]:=f.2.1
       go_wp
       exact sQ
      ·intro x W he f
       have h0:x 31=.tuple #[]:=f.1
       have h1:x 25=.tuple #[]:=f.2.1
       go_wp
       exact sQ
      ·intro x W he f
       have h0:x 4=.pointer (some ⟨wr.heap.size,0,none⟩):=f.1
       have h1:x 25=.tuple #[]:=f.2.1
       go_wp
       exact sQ
      ·intro x W he f
       have h0:x 33=.tuple #[]:=f.1
       have h1:x 25=.tuple #[]:=f.2.1
       have q0:=(rb.ext he).cell (j:=0) rfl
       go_wp
       exact sQ
      ·intro x W he f
       have h0:x 32=.tuple #[]:=f.1
       have h1:x 34=.tuple #[]:=f.2.1
       have h2:x 25=.tuple #[]:=f.2.2.1
       go_wp
       exact sQ
      ·intro x W he f
       have h0:x 25=.tuple #[]:=f.1
       have h1:x 35=.tuple #[]:=f.2.1
       have h2:x 22=.bool true:=f.2.2.1
       go_wp
       exact sQ
      ·intro x W he f
       have h0:x 22=.bool true:=f.1
       have h1:x 36=.tuple #[]:=f.2.1
       go_wp
       exact sQ
      ·intro x W he f
       have h0:x 37=.bool true:=f.1
       go_wp
       exact sQ
      ·intro x W he f
       have h0:x 1=.pointer (some ⟨w.heap.size,0,none⟩):=f.1
       have h1:x 38=.bool true:=f.2.1
       go_wp
       exact sQ
      ·intro x W he f
       have h0:x 39=.tuple #[]:=f.1
       have h1:x 38=.bool true:=f.2.1
       have c1:=(HB.out.ext he).cell (j:=0) rfl
       go_wp
       exact sQ
      ·intro x W he f
       have h0:x 4=.pointer (some ⟨wr.heap.size,0,none⟩):=f.1
       have h1:x 38=.bool true:=f.2.1
       go_wp
       exact sQ
      ·intro x W he f
       have h0:x 41=.tuple #[]:=f.1
       have h1:x 38=.bool true:=f.2.1
       have q1:=(rb.ext he).cell (j:=1) rfl
       go_wp
       exact sQ
      ·intro x W he f
       have h0:x 40=.tuple #[]:=f.1
       have h1:x 42=.tuple #[]:=f.2.1
       have h2:x 38=.bool true:=f.2.2.1
       go_wp
       exact sQ
      ·intro x W he f
       have h0:x 43=.tuple #[]:=f.1
       have h1:x 38=.bool true:=f.2.1
       go_wp
       exact sQ
     case hend =>
      intro x W he f
      have h38:x 38=.bool true:=f.2.2.2.2.2.2.2.2.2.2.2.2.2.2.2.2.2.2.2.1
      clear f
      have HX:=zH (HXB.out.trans he)
      have HBW:=zH (HB.out.ext he)
      simp only [List.length_cons,List.length_nil,Nat.reduceAdd,List.take_succ_cons,List.take_zero,List.filterMap_cons,List.filterMap_nil,List.drop_succ_cons,List.drop_zero,zay,Act.put,List.setIfInBounds_toArray,List.set_cons_succ,List.set_cons_zero,h38]
      clear he
      go_wp
      go_wp2_with fail
      go_ret
      exact⟨by rw [HRF.out];rfl,HX.out⟩
    | true =>
     rw [hb] at HME
     rcases hprev2 with ⟨h0,hp⟩ | ⟨h0,q,hp,hq0⟩
     ·rw [hp] at HME
      have hz:(pre.length:Int)=0:=by omega
      have hz2:I (pre.length:Int)=I 0:=by rw [hz]
      refine za3 [fun v _=>v=entV m (.slice C1 m.seen.length c1) (.slice C2 m.counts.length c2) (.slice C3 m.items.length c3),
   fun v _=>v=.bool true,
   fun v _=>v=.bool false,
   fun v _=>v=.bool false,
   fun v _=>v=I 0,
   fun v _=>v=.bool false,
   fun v _=>v=.bool false,
   fun v _=>v=.tuple #[],
   fun v _=>v=.tuple #[],
   fun v _=>v=.tuple #[],
   fun v _=>v=.tuple #[],
   fun v _=>v=.tuple #[],
   fun v _=>v=.tuple #[],
   fun v _=>v=.tuple #[],
   fun v _=>v=.tuple #[],
   fun v _=>v=.tuple #[],
   fun v _=>v=.tuple #[],
   fun v _=>v=.bool false,
   fun v _=>v=.bool false,
   fun v _=>v=.bool false,
   fun v _=>v=.pointer (some ⟨w.heap.size,0,none⟩),
   fun v _=>v=.slice A1 sa.length n1,
   fun v _=>v=.pointer (some ⟨wr.heap.size,1,none⟩),
   fun v _=>v=.slice C1 m.seen.length c1,
   fun v _=>v=.bool (za6 sa m.seen),
   fun v _=>v=.bool (!za6 sa m.seen)] rfl (by kernel_rfl) ?hR ?hstep ?hend
      case hR =>
       simp only [List.mem_cons,List.not_mem_nil,or_false,forall_eq_or_imp,forall_eq]
       exact⟨kP,kP,kP,kP,kP,kP,kP,kP,kP,kP,kP,kP,kP,kP,kP,kP,kP,kP,kP,kP,kP,kP,kP,kP,kP,kP⟩
      case hstep =>
       simp only [List.length_cons,List.length_nil,Nat.reduceAdd,List.take_succ_cons,List.take_zero,zb3,and_true]
       refine ⟨?_,?_,?_,?_,?_,?_,?_,?_,?_,?_,?_,?_,?_,?_,?_,?_,?_,?_,?_,?_,?_,?_,?_,?_,?_,?_⟩
       ·intro x W he f
        have h0:x 4=.pointer (some ⟨wr.heap.size,0,none⟩):=f.1
        have q0:=(rb.ext he).cell (j:=0) rfl
        have q1:=(rb.ext he).cell (j:=1) rfl
        have q2:=(rb.ext he).cell (j:=2) rfl
        have q3:=(rb.ext he).cell (j:=3) rfl
        have q4:=(rb.ext he).cell (j:=4) rfl
        have q5:=(rb.ext he).cell (j:=5) rfl
        have q6:=(rb.ext he).cell (j:=6) rfl
        go_wp
        exact sQ
       ·intro x W he f
        have h0:x 19=entV m (.slice C1 m.seen.length c1) (.slice C2 m.counts.length c2) (.slice C3 m.items.length c3):=f.1
        have HC:=zH (zjk (hEA2.ext he) (Nat.le_trans hsm.items (by decide)))
        rw [hb] at HC
        go_wp
        refine HC.out.mono ?_
        rintro r W2 ⟨rfl,hx2⟩
        dsimp only
        go_wp
        exact zaa rfl hx2
       ·intro x W he f
        have h0:x 20=.bool true:=f.1
        go_wp
        exact sQ
       ·intro x W he f
        have h0:x 21=.bool false:=f.1
        go_wp
        exact sQ
       ·intro x W he f
        have h0:x 3=I pre.length:=f.1
        have h1:x 22=.bool false:=f.2.1
        go_wp
        exact sQ
       ·intro x W he f
        have h0:x 23=I 0:=f.1
        have h1:x 22=.bool false:=f.2.1
        go_wp
        exact sQ
       ·intro x W he f
        have h0:x 24=.bool false:=f.1
        have h1:x 22=.bool false:=f.2.1
        go_wp
        exact sQ
       ·intro x W he f
        have h0:x 1=.pointer (some ⟨w.heap.size,0,none⟩):=f.1
        have h1:x 25=.bool false:=f.2.1
        go_wp
        exact sQ
       ·intro x W he f
        have h0:x 26=.tuple #[]:=f.1
        have h1:x 25=.bool false:=f.2.1
        have c1:=(HB.out.ext he).cell (j:=1) rfl
        go_wp
        exact sQ
       ·intro x W he f
        have h0:x 3=I pre.length:=f.1
        have h1:x 25=.bool false:=f.2.1
        go_wp
        exact sQ
       ·intro x W he f
        have h0:x 28=.tuple #[]:=f.1
        have h1:x 25=.bool false:=f.2.1
        go_wp
        exact sQ
       ·intro x W he f
        have h0:x 27=.tuple #[]:=f.1
        have h1:x 29=.tuple #[]:=f.2.1
        have h2:x 25=.bool false:=f.2.2.1
        go_wp
        exact sQ
       ·intro x W he f
        have h0:x 30=.tuple #[]:=f.1
        have h1:x 25=.bool false:=f.2.1
        go_wp
        exact sQ
       ·intro x W he f
        have h0:x 31=.tuple #[]:=f.1
        have h1:x 25=.bool false:=f.2.1
        go_wp
        exact sQ
       ·intro x W he f
        have h0:x 4=.pointer (some ⟨wr.heap.size,0,none⟩):=f.1
        have h1:x 25=.bool false:=f.2.1
        go_wp
        exact sQ
       ·intro x W he f
        have h0:x 33=.tuple #[]:=f.1
        have h1:x 25=.bool false:=f.2.1
        have q0:=(rb.ext he).cell (j:=0) rfl
        go_wp
        exact sQ
       ·intro x W he f
        have h0:x 32=.tuple #[]:=f.1
        have h1:x 34=.tuple #[]:=f.2.1
        have h2:x 25=.bool false:=f.2.2.1
        go_wp
        exact sQ
       ·intro x W he f
        have h0:x 25=.bool false:=f.1
        have h1:x 35=.tuple #[]:=f.2.1
        have h2:x 22=.bool false:=f.2.2.1
        go_wp
        exact sQ
       ·intro x W he f
        have h0:x 22=.bool false:=f.1
        have h1:x 36=.bool false:=f.2.1
        go_wp
        exact sQ
       ·intro x W he f
        have h0:x 37=.bool false:=f.1
        go_wp
        exact sQ
       ·intro x W he f
        have h0:x 1=.pointer (some ⟨w.heap.size,0,none⟩):=f.1
        have h1:x 38=.bool false:=f.2.1
        go_wp
        exact sQ
       ·intro x W he f
        have h0:x 39=.pointer (some ⟨w.heap.size,0,none⟩):=f.1
        have h1:x 38=.bool false:=f.2.1
        have c1:=(HB.out.ext he).cell (j:=0) rfl
        go_wp
        exact sQ
       ·intro x W he f
        have h0:x 4=.pointer (some ⟨wr.heap.size,0,none⟩):=f.1
        have h1:x 38=.bool false:=f.2.1
        go_wp
        exact sQ
       ·intro x W he f
        have h0:x 41=.pointer (some ⟨wr.heap.size,1,none⟩):=f.1
        have h1:x 38=.bool false:=f.2.1
        have q1:=(rb.ext he).cell (j:=1) rfl
        go_wp
        exact sQ
       ·intro x W he f
        have h0:x 40=.slice A1 sa.length n1:=f.1
        have h1:x 42=.slice C1 m.seen.length c1:=f.2.1
        have h2:x 38=.bool false:=f.2.2.1
        have HC:=zH (zhl (HSA.out.ext (by decide) he) (hEA2.seen.ext (by decide) he) (Nat.le_trans hsa (by decide)) (Nat.le_trans hsm.seen (by decide)))
        go_wp
        refine HC.out.mono ?_
        rintro r W2 ⟨rfl,hx2⟩
        dsimp only
        go_wp
        exact zaa rfl hx2
       ·intro x W he f
        have h0:x 43=.bool (za6 sa m.seen):=f.1
        have h1:x 38=.bool false:=f.2.1
        go_wp
        exact sQ
      case hend =>
       intro x W he f
       have h38:x 38=.bool false:=f.2.2.2.2.2.2.2.2.2.2.2.2.2.2.2.2.2.2.2.1
       have h44:x 44=.bool (!za6 sa m.seen):=f.2.2.2.2.2.2.2.2.2.2.2.2.2.2.2.2.2.2.2.2.2.2.2.2.2.1
       clear f
       have HX:=zH (HXB.out.trans he)
       have HBW:=zH (HB.out.ext he)
       simp only [List.length_cons,List.length_nil,Nat.reduceAdd,List.take_succ_cons,List.take_zero,List.filterMap_cons,List.filterMap_nil,List.drop_succ_cons,List.drop_zero,zay,Act.put,List.setIfInBounds_toArray,List.set_cons_succ,List.set_cons_zero,h38,h44]
       cases hc:za6 sa m.seen with
       | false =>
        have HRF:=zH (show mayS ⟨sa,se,sp⟩=false by rw [HM2.out,HME.out,hc];rfl)
        clear he
        go_wp
        go_wp2_with fail
        go_ret
        exact⟨by rw [HRF.out];rfl,HX.out⟩
       | true =>
        have HN:=zH (show zds sa none se=zds sa ((pre++[m]).getLast?.map (·.key)) post by rw [HME.out,hc];simp)
        clear he
        go_wp
        go_wp2_with fail
        go_roundw
        case rel=>exact⟨pre++[m],post,by rw [HL.out];simp,by simp <;> omega,HN,HBW,HX.out⟩
        case measure=>simp [intOf];omega
     ·rw [hp] at HME
      have k4:=zgf h0 (by omega)
      have k5:((pre.length - 1:Nat):Int) < (se.length:Int):=by omega
      have k6:(0:Int)≤((pre.length - 1:Nat):Int):=by omega
      have k7:(((pre.length - 1:Nat):Int)).toNat=pre.length - 1:=by omega
      have k8:(0:Int) < (pre.length:Int):=by omega
      cases hlt2:ltS q.key m.key with
      | false =>
       have HRF:=zH (show mayS ⟨sa,se,sp⟩=false by rw [HM2.out,HME.out];simp only [hlt2];rfl)
       refine za3 [fun v _=>v=entV m (.slice C1 m.seen.length c1) (.slice C2 m.counts.length c2) (.slice C3 m.items.length c3),
   fun v _=>v=.bool true,
   fun v _=>v=.bool false,
   fun v _=>v=.bool false,
   fun v _=>v=I pre.length,
   fun v _=>v=.bool true,
   fun v _=>v=.bool true,
   fun v _=>v=.pointer (some ⟨w.heap.size,1,none⟩),
   fun v _=>v=.slice (some ⟨b,o,none⟩) se.length n2,
   fun v _=>v=I pre.length,
   fun v _=>v=I ((pre.length - 1:Nat):Int),
   fun v _=>v=.pointer (some ⟨b,o+(pre.length - 1) * 7,none⟩),
   fun v _=>v=.pointer (some ⟨b,o+(pre.length - 1) * 7,none⟩),
   fun v _=>v=St q.key,
   fun v _=>v=.pointer (some ⟨wr.heap.size,0,none⟩),
   fun v _=>v=St m.key,
   fun v _=>v=.bool true,
   fun v _=>v=.bool true,
   fun v _=>v=.bool true,
   fun v _=>v=.bool true,
   fun v _=>v=.tuple #[],
   fun v _=>v=.tuple #[],
   fun v _=>v=.tuple #[],
   fun v _=>v=.tuple #[],
   fun v _=>v=.tuple #[],
   fun v _=>v=.tuple #[]] rfl (by kernel_rfl) ?hR ?hstep ?hend
       case hR =>
        simp only [List.mem_cons,List.not_mem_nil,or_false,forall_eq_or_imp,forall_eq]
        exact⟨kP,kP,kP,kP,kP,kP,kP,kP,kP,kP,kP,kP,kP,kP,kP,kP,kP,kP,kP,kP,kP,kP,kP,kP,kP,kP⟩
       case hstep =>
        simp only [List.length_cons,List.length_nil,Nat.reduceAdd,List.take_succ_cons,List.take_zero,zb3,and_true]
        refine ⟨?_,?_,?_,?_,?_,?_,?_,?_,?_,?_,?_,?_,?_,?_,?_,?_,?_,?_,?_,?_,?_,?_,?_,?_,?_,?_⟩
        ·intro x W he f
         have h0:x 4=.pointer (some ⟨wr.heap.size,0,none⟩):=f.1
         have q0:=(rb.ext he).cell (j:=0) rfl
         have q1:=(rb.ext he).cell (j:=1) rfl
         have q2:=(rb.ext he).cell (j:=2) rfl
         have q3:=(rb.ext he).cell (j:=3) rfl
         have q4:=(rb.ext he).cell (j:=4) rfl
         have q5:=(rb.ext he).cell (j:=5) rfl
         have q6:=(rb.ext he).cell (j:=6) rfl
         go_wp
         exact sQ
        ·intro x W he f
         have h0:x 19=entV m (.slice C1 m.seen.length c1) (.slice C2 m.counts.length c2) (.slice C3 m.items.length c3):=f.1
         have HC:=zH (zjk (hEA2.ext he) (Nat.le_trans hsm.items (by decide)))
         rw [hb] at HC
         go_wp
         refine HC.out.mono ?_
         rintro r W2 ⟨rfl,hx2⟩
         dsimp only
         go_wp
         exact zaa rfl hx2
        ·intro x W he f
         have h0:x 20=.bool true:=f.1
         go_wp
         exact sQ
        ·intro x W he f
         have h0:x 21=.bool false:=f.1
         go_wp
         exact sQ
        ·intro x W he f
         have h0:x 3=I pre.length:=f.1
         have h1:x 22=.bool false:=f.2.1
         go_wp
         exact sQ
        ·intro x W he f
         have h0:x 23=I pre.length:=f.1
         have h1:x 22=.bool false:=f.2.1
         go_wp
         exact sQ
        ·intro x W he f
         have h0:x 24=.bool true:=f.1
         have h1:x 22=.bool false:=f.2.1
         go_wp
         exact sQ
        ·intro x W he f
         have h0:x 1=.pointer (some ⟨w.heap.size,0,none⟩):=f.1
         have h1:x 25=.bool true:=f.2.1
         go_wp
         exact sQ
        ·intro x W he f
         have h0:x 26=.pointer (some ⟨w.heap.size,1,none⟩):=f.1
         have h1:x 25=.bool true:=f.2.1
         have c1:=(HB.out.ext he).cell (j:=1) rfl
         go_wp
         exact sQ
        ·intro x W he f
         have h0:x 3=I pre.length:=f.1
         have h1:x 25=.bool true:=f.2.1
         go_wp
         exact sQ
        ·intro x W he f
         have h0:x 28=I pre.length:=f.1
         have h1:x 25=.bool true:=f.2.1
         go_wp
         exact sQ
        ·intro x W he f
         have h0:x 27=.slice (some ⟨b,o,none⟩) se.length n2:=f.1
         have h1:x 29=I ((pre.length - 1:Nat):Int):=f.2.1
         have h2:x 25=.bool true:=f.2.2.1
         go_wp
         exact sQ
        ·intro x W he f
         have h0:x 30=.pointer (some ⟨b,o+(pre.length - 1) * 7,none⟩):=f.1
         have h1:x 25=.bool true:=f.2.1
         go_wp
         exact sQ
        ·intro x W he f
         have h0:x 31=.pointer (some ⟨b,o+(pre.length - 1) * 7,none⟩):=f.1
         have h1:x 25=.bool true:=f.2.1
         have c1:=he.cell hq0
         go_wp
         exact sQ
        ·intro x W he f
         have h0:x 4=.pointer (some ⟨wr.heap.size,0,none⟩):=f.1
         have h1:x 25=.bool true:=f.2.1
         go_wp
         exact sQ
        ·intro x W he f
         have h0:x 33=.pointer (some ⟨wr.heap.size,0,none⟩):=f.1
         have h1:x 25=.bool true:=f.2.1
         have q0:=(rb.ext he).cell (j:=0) rfl
         go_wp
         exact sQ
        ·intro x W he f
         have h0:x 32=St q.key:=f.1
         have h1:x 34=St m.key:=f.2.1
         have h2:x 25=.bool true:=f.2.2.1
         go_wp
         exact sQ
        ·intro x W he f
         have h0:x 25=.bool true:=f.1
         have h1:x 35=.bool true:=f.2.1
         have h2:x 22=.bool false:=f.2.2.1
         go_wp
         exact sQ
        ·intro x W he f
         have h0:x 22=.bool false:=f.1
         have h1:x 36=.bool true:=f.2.1
         go_wp
         exact sQ
        ·intro x W he f
         have h0:x 37=.bool true:=f.1
         go_wp
         exact sQ
        ·intro x W he f
         have h0:x 1=.pointer (some ⟨w.heap.size,0,none⟩):=f.1
         have h1:x 38=.bool true:=f.2.1
         go_wp
         exact sQ
        ·intro x W he f
         have h0:x 39=.tuple #[]:=f.1
         have h1:x 38=.bool true:=f.2.1
         have c1:=(HB.out.ext he).cell (j:=0) rfl
         go_wp
         exact sQ
        ·intro x W he f
         have h0:x 4=.pointer (some ⟨wr.heap.size,0,none⟩):=f.1
         have h1:x 38=.bool true:=f.2.1
         go_wp
         exact sQ
        ·intro x W he f
         have h0:x 41=.tuple #[]:=f.1
         have h1:x 38=.bool true:=f.2.1
         have q1:=(rb.ext he).cell (j:=1) rfl
         go_wp
         exact sQ
        ·intro x W he f
         have h0:x 40=.tuple #[]:=f.1
         have h1:x 42=.tuple #[]:=f.2.1
         have h2:x 38=.bool true:=f.2.2.1
         go_wp
         exact sQ
        ·intro x W he f
         have h0:x 43=.tuple #[]:=f.1
         have h1:x 38=.bool true:=f.2.1
         go_wp
         exact sQ
       case hend =>
        intro x W he f
        have h38:x 38=.bool true:=f.2.2.2.2.2.2.2.2.2.2.2.2.2.2.2.2.2.2.2.1
        clear f
        have HX:=zH (HXB.out.trans he)
        have HBW:=zH (HB.out.ext he)
        simp only [List.length_cons,List.length_nil,Nat.reduceAdd,List.take_succ_cons,List.take_zero,List.filterMap_cons,List.filterMap_nil,List.drop_succ_cons,List.drop_zero,zay,Act.put,List.setIfInBounds_toArray,List.set_cons_succ,List.set_cons_zero,h38]
        clear he
        go_wp
        go_wp2_with fail
        go_ret
        exact⟨by rw [HRF.out];rfl,HX.out⟩
      | true =>
       have HME2:=zH (show zds sa none se=(za6 sa m.seen && zds sa (some m.key) post) by rw [HME.out];simp only [hlt2];rfl)
       refine za3 [fun v _=>v=entV m (.slice C1 m.seen.length c1) (.slice C2 m.counts.length c2) (.slice C3 m.items.length c3),
   fun v _=>v=.bool true,
   fun v _=>v=.bool false,
   fun v _=>v=.bool false,
   fun v _=>v=I pre.length,
   fun v _=>v=.bool true,
   fun v _=>v=.bool true,
   fun v _=>v=.pointer (some ⟨w.heap.size,1,none⟩),
   fun v _=>v=.slice (some ⟨b,o,none⟩) se.length n2,
   fun v _=>v=I pre.length,
   fun v _=>v=I ((pre.length - 1:Nat):Int),
   fun v _=>v=.pointer (some ⟨b,o+(pre.length - 1) * 7,none⟩),
   fun v _=>v=.pointer (some ⟨b,o+(pre.length - 1) * 7,none⟩),
   fun v _=>v=St q.key,
   fun v _=>v=.pointer (some ⟨wr.heap.size,0,none⟩),
   fun v _=>v=St m.key,
   fun v _=>v=.bool false,
   fun v _=>v=.bool false,
   fun v _=>v=.bool false,
   fun v _=>v=.bool false,
   fun v _=>v=.pointer (some ⟨w.heap.size,0,none⟩),
   fun v _=>v=.slice A1 sa.length n1,
   fun v _=>v=.pointer (some ⟨wr.heap.size,1,none⟩),
   fun v _=>v=.slice C1 m.seen.length c1,
   fun v _=>v=.bool (za6 sa m.seen),
   fun v _=>v=.bool (!za6 sa m.seen)] rfl (by kernel_rfl) ?hR ?hstep ?hend
       case hR =>
        simp only [List.mem_cons,List.not_mem_nil,or_false,forall_eq_or_imp,forall_eq]
        exact⟨kP,kP,kP,kP,kP,kP,kP,kP,kP,kP,kP,kP,kP,kP,kP,kP,kP,kP,kP,kP,kP,kP,kP,kP,kP,kP⟩
       case hstep =>
        simp only [List.length_cons,List.length_nil,Nat.reduceAdd,List.take_succ_cons,List.take_zero,zb3,and_true]
        refine ⟨?_,?_,?_,?_,?_,?_,?_,?_,?_,?_,?_,?_,?_,?_,?_,?_,?_,?_,?_,?_,?_,?_,?_,?_,?_,?_⟩
        ·intro x W he f
         have h0:x 4=.pointer (some ⟨wr.heap.size,0,none⟩):=f.1
         have q0:=(rb.ext he).cell (j:=0) rfl
         have q1:=(rb.ext he).cell (j:=1) rfl
         have q2:=(rb.ext he).cell (j:=2) rfl
         have q3:=(rb.ext he).cell (j:=3) rfl
         have q4:=(rb.ext he).cell (j:=4) rfl
         have q5:=(rb.ext he).cell (j:=5) rfl
         have q6:=(rb.ext he).cell (j:=6) rfl
         go_wp
         exact sQ
        ·intro x W he f
         have h0:x 19=entV m (.slice C1 m.seen.length c1) (.slice C2 m.counts.length c2) (.slice C3 m.items.length c3):=f.1
         have HC:=zH (zjk (hEA2.ext he) (Nat.le_trans hsm.items (by decide)))
         rw [hb] at HC
         go_wp
         refine HC.out.mono ?_
         rintro r W2 ⟨rfl,hx2⟩
         dsimp only
         go_wp
         exact zaa rfl hx2
        ·intro x W he f
         have h0:x 20=.bool true:=f.1
         go_wp
         exact sQ
        ·intro x W he f
         have h0:x 21=.bool false:=f.1
         go_wp
         exact sQ
        ·intro x W he f
         have h0:x 3=I pre.length:=f.1
         have h1:x 22=.bool false:=f.2.1
         go_wp
         exact sQ
        ·intro x W he f
         have h0:x 23=I pre.length:=f.1
         have h1:x 22=.bool false:=f.2.1
         go_wp
         exact sQ
        ·intro x W he f
         have h0:x 24=.bool true:=f.1
         have h1:x 22=.bool false:=f.2.1
         go_wp
         exact sQ
        ·intro x W he f
         have h0:x 1=.pointer (some ⟨w.heap.size,0,none⟩):=f.1
         have h1:x 25=.bool true:=f.2.1
         go_wp
         exact sQ
        ·intro x W he f
         have h0:x 26=.pointer (some ⟨w.heap.size,1,none⟩):=f.1
         have h1:x 25=.bool true:=f.2.1
         have c1:=(HB.out.ext he).cell (j:=1) rfl
         go_wp
         exact sQ
        ·intro x W he f
         have h0:x 3=I pre.length:=f.1
         have h1:x 25=.bool true:=f.2.1
         go_wp
         exact sQ
        ·intro x W he f
         have h0:x 28=I pre.length:=f.1
         have h1:x 25=.bool true:=f.2.1
         go_wp
         exact sQ
        ·intro x W he f
         have h0:x 27=.slice (some ⟨b,o,none⟩) se.length n2:=f.1
         have h1:x 29=I ((pre.length - 1:Nat):Int):=f.2.1
         have h2:x 25=.bool true:=f.2.2.1
         go_wp
         exact sQ
        ·intro x W he f
         have h0:x 30=.pointer (some ⟨b,o+(pre.length - 1) * 7,none⟩):=f.1
         have h1:x 25=.bool true:=f.2.1
         go_wp
         exact sQ
        ·intro x W he f
         have h0:x 31=.pointer (some ⟨b,o+(pre.length - 1) * 7,none⟩):=f.1
         have h1:x 25=.bool true:=f.2.1
         have c1:=he.cell hq0
         go_wp
         exact sQ
        ·intro x W he f
         have h0:x 4=.pointer (some ⟨wr.heap.size,0,none⟩):=f.1
         have h1:x 25=.bool true:=f.2.1
         go_wp
         exact sQ
        ·intro x W he f
         have h0:x 33=.pointer (some ⟨wr.heap.size,0,none⟩):=f.1
         have h1:x 25=.bool true:=f.2.1
         have q0:=(rb.ext he).cell (j:=0) rfl
         go_wp
         exact sQ
        ·intro x W he f
         have h0:x 32=St q.key:=f.1
         have h1:x 34=St m.key:=f.2.1
         have h2:x 25=.bool true:=f.2.2.1
         go_wp
         exact sQ
        ·intro x W he f
         have h0:x 25=.bool true:=f.1
         have h1:x 35=.bool false:=f.2.1
         have h2:x 22=.bool false:=f.2.2.1
         go_wp
         exact sQ
        ·intro x W he f
         have h0:x 22=.bool false:=f.1
         have h1:x 36=.bool false:=f.2.1
         go_wp
         exact sQ
        ·intro x W he f
         have h0:x 37=.bool false:=f.1
         go_wp
         exact sQ
        ·intro x W he f
         have h0:x 1=.pointer (some ⟨w.heap.size,0,none⟩):=f.1
         have h1:x 38=.bool false:=f.2.1
         go_wp
         exact sQ
        ·intro x W he f
         have h0:x 39=.pointer (some ⟨w.heap.size,0,none⟩):=f.1
         have h1:x 38=.bool false:=f.2.1
         have c1:=(HB.out.ext he).cell (j:=0) rfl
         go_wp
         exact sQ
        ·intro x W he f
         have h0:x 4=.pointer (some ⟨wr.heap.size,0,none⟩):=f.1
         have h1:x 38=.bool false:=f.2.1
         go_wp
         exact sQ
        ·intro x W he f
         have h0:x 41=.pointer (some ⟨wr.heap.size,1,none⟩):=f.1
         have h1:x 38=.bool false:=f.2.1
         have q1:=(rb.ext he).cell (j:=1) rfl
         go_wp
         exact sQ
        ·intro x W he f
         have h0:x 40=.slice A1 sa.length n1:=f.1
         have h1:x 42=.slice C1 m.seen.length c1:=f.2.1
         have h2:x 38=.bool false:=f.2.2.1
         have HC:=zH (zhl (HSA.out.ext (by decide) he) (hEA2.seen.ext (by decide) he) (Nat.le_trans hsa (by decide)) (Nat.le_trans hsm.seen (by decide)))
         go_wp
         refine HC.out.mono ?_
         rintro r W2 ⟨rfl,hx2⟩
         dsimp only
         go_wp
         exact zaa rfl hx2
        ·intro x W he f
         have h0:x 43=.bool (za6 sa m.seen):=f.1
         have h1:x 38=.bool false:=f.2.1
         go_wp
         exact sQ
       case hend =>
        intro x W he f
        have h38:x 38=.bool false:=f.2.2.2.2.2.2.2.2.2.2.2.2.2.2.2.2.2.2.2.1
        have h44:x 44=.bool (!za6 sa m.seen):=f.2.2.2.2.2.2.2.2.2.2.2.2.2.2.2.2.2.2.2.2.2.2.2.2.2.1
        clear f
        have HX:=zH (HXB.out.trans he)
        have HBW:=zH (HB.out.ext he)
        simp only [List.length_cons,List.length_nil,Nat.reduceAdd,List.take_succ_cons,List.take_zero,List.filterMap_cons,List.filterMap_nil,List.drop_succ_cons,List.drop_zero,zay,Act.put,List.setIfInBounds_toArray,List.set_cons_succ,List.set_cons_zero,h38,h44]
        cases hc:za6 sa m.seen with
        | false =>
         have HRF:=zH (show mayS ⟨sa,se,sp⟩=false by rw [HM2.out,HME2.out,hc];rfl)
         clear he
         go_wp
         go_wp2_with fail
         go_ret
         exact⟨by rw [HRF.out];rfl,HX.out⟩
        | true =>
         have HN:=zH (show zds sa none se=zds sa ((pre++[m]).getLast?.map (·.key)) post by rw [HME2.out,hc];simp)
         clear he
         go_wp
         go_wp2_with fail
         go_roundw
         case rel=>exact⟨pre++[m],post,by rw [HL.out];simp,by simp <;> omega,HN,HBW,HX.out⟩
         case measure=>simp [intOf];omega
   | nil =>
    rw [List.append_nil] at hl
    have hln:se.length=pre.length:=by rw [hl]
    have HM3:=zH (show mayS ⟨sa,se,sp⟩=zda sa none sp by rw [HM2.out,hme.out];simp [zds])
    have c2:=hrow.out.cell (j:=2) rfl
    have HX:=zH hx
    have HSA:=zH H.out.all
    clear hl hme hx HM2
    go_wp2_with fail
    obtain⟨wo,rfl⟩:∃ wo:World,wo=wr:=⟨_,rfl⟩
    go_loopw [50] (fun i wr2=>∃ p2 q2,sp=p2++q2∧i=I p2.length∧Hid (zda sa none sp=zda sa p2.getLast? q2)∧Hid (RowIs wr2 w.heap.size 30 [.slice A1 sa.length n1,.slice A2 se.length n2,.slice A3 sp.length n3] [])∧Ext w wr2) (fun i _=>sp.length - (intOf i).toNat)
    case atStart=>exact⟨[],sp,rfl,rfl,zH rfl,hrow,HX.out⟩
    case round =>
     obtain⟨p2,q2,hl2,rfl,hmp,hrow2,hx2⟩:=hrel
     cases q2 with
     | cons p q2 =>
      obtain⟨b,o,rfl,e0⟩:=HPT.out p2 q2 p wr hx2 hl2
      have hlt2:p2.length < sp.length:=by rw [hl2];simp
      have HL2:=zH hl2
      have hprev:(p2.length=0∧p2.getLast? = none) ∨ (0 < p2.length∧∃ q:Str,p2.getLast? = some q∧wr.cell? ⟨b,o+(p2.length - 1),none⟩=some (St q)):=by
       rcases Nat.eq_zero_or_pos p2.length with h0 | h0
       ·exact .inl ⟨h0,by rw [List.eq_nil_of_length_eq_zero h0];rfl⟩
       ·obtain⟨p',q,f1,f2,f3⟩:=zhn h0
        obtain⟨b',o',e,q0⟩:=HPT.out p' (p :: q2) q wr hx2 (by rw [hl2,f1];simp)
        cases e
        rw [f3] at q0
        exact .inr ⟨h0,q,f2,q0⟩
      have r0:=hrow2.out.cell (j:=0) rfl
      have r2:=hrow2.out.cell (j:=2) rfl
      have HMP:=zH (show zda sa none sp=(!p.isEmpty && ((match p2.getLast? with | none=>true | some k=>ltS k p) && (decide (ofM sa p=0) && zda sa (some p) q2))) from hmp.out)
      have HX2:=zH hx2
      have HOF:=zH (zkc p (HSA.out.ext (by decide) hx2))
      clear hl2 hmp hx2
      by_cases hpe:p = []
      ·subst hpe
       have HRF:=zH (show mayS ⟨sa,se,sp⟩=false by rw [HM3.out,HMP.out];rfl)
       clear hprev HOF
       go_wp2_with fail
       go_ret
       exact⟨by rw [HRF.out];rfl,HX2.out⟩
      ·have hpb:(p == [])=false:=by simpa using hpe
       have hpi:p.isEmpty=false:=by cases p with | nil=>exact absurd rfl hpe | cons _ _=>rfl
       rw [hpi] at HMP
       clear hpe hpi
       rcases hprev with ⟨h0,hp⟩ | ⟨h0,q,hp,hq0⟩
       ·rw [hp] at HMP
        obtain rfl:=List.eq_nil_of_length_eq_zero h0
        simp only [List.length_nil,Nat.add_zero] at e0
        have HME2:=zH (show zda sa none sp=(decide (ofM sa p=0) && zda sa (some p) q2) from HMP.out)
        clear hp
        go_wp2_with fail
        refine HOF.out.mono ?_
        rintro r W2 ⟨rfl,hx3⟩
        have HX3:=zH (HX2.out.trans hx3)
        have HRW:=zH (hrow2.out.ext hx3)
        obtain⟨z,hz9⟩:∃ z,ofM sa p=z:=⟨_,rfl⟩
        rw [hz9] at HME2
        rw [hz9]
        clear hx3 hz9
        rcases Nat.eq_zero_or_pos z with h9 | h9
        ·subst h9
         have HN:=zH (show zda sa none sp=zda sa ((([]:List Str)++[p]).getLast?) q2 by rw [HME2.out];simp)
         go_wp2_with fail
         go_roundw
         case rel=>exact⟨[]++[p],q2,by rw [HL2.out];simp,by simp,HN,HRW,HX3.out⟩
         case measure=>simp [intOf];omega
        ·have HRF:=zH (show mayS ⟨sa,se,sp⟩=false by rw [HM3.out,HME2.out];simp;omega)
         have h10:(z:Int) > 0:=by omega
         go_wp2_with fail
         go_ret
         exact⟨by rw [HRF.out];rfl,HX3.out⟩
       ·rw [hp] at HMP
        have k4:=zgf h0 (by omega)
        have k5:((p2.length - 1:Nat):Int) < (sp.length:Int):=by omega
        have k6:(0:Int)≤((p2.length - 1:Nat):Int):=by omega
        have k7:(((p2.length - 1:Nat):Int)).toNat=p2.length - 1:=by omega
        have k8:(0:Int) < (p2.length:Int):=by omega
        clear hp
        cases hlt3:ltS q p with
        | false =>
         have HRF:=zH (show mayS ⟨sa,se,sp⟩=false by rw [HM3.out,HMP.out];simp only [hlt3];rfl)
         clear HOF
         go_wp2_with fail
         go_ret
         exact⟨by rw [HRF.out];rfl,HX2.out⟩
        | true =>
         have HME2:=zH (show zda sa none sp=(decide (ofM sa p=0) && zda sa (some p) q2) by rw [HMP.out];simp only [hlt3];rfl)
         go_wp2_with fail
         refine HOF.out.mono ?_
         rintro r W2 ⟨rfl,hx3⟩
         have HX3:=zH (HX2.out.trans hx3)
         have HRW:=zH (hrow2.out.ext hx3)
         obtain⟨z,hz9⟩:∃ z,ofM sa p=z:=⟨_,rfl⟩
         rw [hz9] at HME2
         rw [hz9]
         clear hx3 hz9
         rcases Nat.eq_zero_or_pos z with h9 | h9
         ·subst h9
          have HN:=zH (show zda sa none sp=zda sa ((p2++[p]).getLast?) q2 by rw [HME2.out];simp)
          go_wp2_with fail
          go_roundw
          case rel=>exact⟨p2++[p],q2,by rw [HL2.out];simp,by simp <;> omega,HN,HRW,HX3.out⟩
          case measure=>simp [intOf];omega
         ·have HRF:=zH (show mayS ⟨sa,se,sp⟩=false by rw [HM3.out,HME2.out];simp;omega)
          have h10:(z:Int) > 0:=by omega
          go_wp2_with fail
          go_ret
          exact⟨by rw [HRF.out];rfl,HX3.out⟩
     | nil =>
      rw [List.append_nil] at hl2
      have hln2:sp.length=p2.length:=by rw [hl2]
      have HRT:=zH (show mayS ⟨sa,se,sp⟩=true by rw [HM3.out,hmp.out];rfl)
      have HX2:=zH hx2
      clear hl2 hmp hx2
      go_wp2_with fail
      go_ret
      exact⟨by rw [HRT.out];rfl,HX2.out⟩
end
section
open Go.RowKit Go.Shelf
theorem zhq:SmallE zag:=⟨by decide,by decide,by decide,(fun it h=>by cases h),by decide⟩
theorem zin {l:List Entry} {k:Str} {m:Entry} (h:zav l k=some m):m ∈ l:=List.mem_of_find?_eq_some h
theorem zop {l:List Entry} {k:Str} {m:Entry} (h:zav l k=some m):m.key=k:=by simpa using List.find?_some h
theorem zm2 {l:List Entry} (h:∀ e ∈ l,SmallE e) (k:Str):SmallE ((zav l k).getD zag):=by
 cases hf:zav l k with
 | none=>exact zhq
 | some m=>exact h m (zin hf)
theorem zzr {S:Nat→Prop} {s:State} {v1 v2 v3:Value} {w:World} (k:Str) (h:StAt w S s v1 v2 v3) (sm:∀ e ∈ s.entries,SmallE e) :
  Calls Tryz.prog 24 #[stV v1 v2 v3,St k] w fun r w'=>∃ u1 u2 u3,r=.returned (.tuple #[entV ((zav s.entries k).getD zag) u1 u2 u3,.bool (zav s.entries k).isSome])∧EntNew w' w.heap.size ((zav s.entries k).getD zag) u1 u2 u3∧Ext w w':=by
 obtain⟨sa,se,sp⟩:=s
 obtain⟨A1,n1,rfl,-,-⟩:=h.all.form
 obtain⟨A2,n2,rfl,-,-⟩:=h.entries.form
 obtain⟨A3,n3,rfl,-,-⟩:=h.pruned.form
 have hx0:=((Ext.refl w).alloc (.cells #[.slice A1 sa.length n1,.slice A2 se.length n2,.slice A3 sp.length n3] 30)).alloc (.cells #[St [],.slice none 0 0,.slice none 0 0,.slice none 0 0,.int .u64 0,St [],.bool false] 37)
 have rR0:=zah (w.alloc (.cells #[.slice A1 sa.length n1,.slice A2 se.length n2,.slice A3 sp.length n3] 30)) 37 [St [],.slice none 0 0,.slice none 0 0,.slice none 0 0,.int .u64 0,St [],.bool false]
 rw [World.size_alloc] at rR0
 have H1:=zH (zme k (h.entries.ext (by decide) hx0))
 have hz0:w.heap.size+2≤((w.alloc (.cells #[.slice A1 sa.length n1,.slice A2 se.length n2,.slice A3 sp.length n3] 30)).alloc (.cells #[St [],.slice none 0 0,.slice none 0 0,.slice none 0 0,.int .u64 0,St [],.bool false] 37)).heap.size:=by simp
 have HSM:=zH (zm2 sm k)
 clear h
 go_enter Tryz.func24,Tryz.ntmps24
 go_wp2_with fail
 generalize (w.alloc (.cells #[.slice A1 sa.length n1,.slice A2 se.length n2,.slice A3 sp.length n3] 30)).alloc (.cells #[St [],.slice none 0 0,.slice none 0 0,.slice none 0 0,.int .u64 0,St [],.bool false] 37)=W0 at *
 refine H1.out.mono ?_
 rintro r W1 ⟨v1,v2,v3,rfl,hA,hx1⟩
 simp only at hA HSM ⊢
 have HS0:=zH HSM.out
 clear HSM
 generalize he:(zav se k).getD zag=e at hA HS0 ⊢
 generalize his:(zav se k).isSome=is
 have HE:=zH he
 have HIS:=zH his
 clear he his
 obtain⟨C1,c1,rfl,-,-⟩:=hA.seen.form
 obtain⟨C2,c2,rfl,-,-⟩:=hA.counts.form
 obtain⟨C3,c3,rfl,-,-⟩:=hA.items.form
 have hxb:=(Ext.refl W1).alloc (.cells #[St e.key,.slice C1 e.seen.length c1,.slice C2 e.counts.length c2,.slice C3 e.items.length c3,U e.cell.1,St e.cell.2.1,.bool e.cell.2.2] 37)
 have HC:=zH (zf2 (hA.ext hxb) (Nat.le_trans HS0.out.seen (by decide)) (Nat.le_trans HS0.out.counts (by decide)) (Nat.le_trans HS0.out.items (by decide)) (fun it hit=>Nat.le_trans (HS0.out.dots it hit) (by decide)))
 have hx01:=hx0.trans (hx1.trans hxb)
 have hz1:=(hx1.trans hxb).size
 have rR1:=rR0.ext (hx1.trans hxb)
 clear hA hx0 hx1 rR0
 go_wp2_with fail
 refine HC.out.mono ?_
 rintro r W2 ⟨u1,u2,u3,rfl,hn,hx2⟩
 obtain⟨D1,d1,rfl,-,-⟩:=hn.seen.form
 obtain⟨D2,d2,rfl,-,-⟩:=hn.counts.form
 obtain⟨D3,d3,rfl,-,-⟩:=hn.items.form
 have hR:=rR1.ext hx2
 obtain⟨r0,r1,r2,r3,r4,r5,r6⟩:=hR.p7
 obtain⟨f0,f1,f2,f3,f4,f5,f6⟩:=hR.q7
 have HX:=zH (hx01.trans hx2)
 have HN:=zH hn
 clear hR rR1 hn hx2 hxb hx01
 go_wp2_with fail
 (try simp only [Exit.inBlock,Exit.then])
 refine bodyPost_ret (v:=.tuple #[entV e (.slice D1 e.seen.length d1) (.slice D2 e.counts.length d2) (.slice D3 e.items.length d3),.bool is]) (by simp [results,Tryz.f24,go_sem,entV,entC,r0,r1,r2,r3,r4,r5,r6]) rfl ?_
 have hp:=zjq (q:=w.heap.size+1) HX.out (by omega) HN.out (by omega)
 refine ⟨.slice D1 e.seen.length d1,.slice D2 e.counts.length d2,.slice D3 e.items.length d3,by rw [HE.out,HIS.out],?_⟩
 rw [HE.out]
 exact hp
theorem ValAt.lower {W:World} {base base':Nat} {e:Entry} {v:Value} (h:ValAt W base e v) (hb:base'≤base):ValAt W base' e v:=by
 unfold ValAt at h ⊢
 split
 ·rename_i h1;rw [if_pos h1] at h;exact h
 ·rename_i h1
  rw [if_neg h1] at h
  split
  ·rename_i h2;rw [if_pos h2] at h;obtain⟨s,e1,o⟩:=h;exact⟨s,e1,o.lower hb⟩
  ·rename_i h2
   rw [if_neg h2] at h
   exact h
def atE (l:List Entry) (k:Str):Entry:=(zav l k).getD { zag with key:=k }
theorem zqg {S:Nat→Prop} {s:State} {v1 v2 v3:Value} {w:World} (k:Str) (h:StAt w S s v1 v2 v3) (sm:∀ e ∈ s.entries,SmallE e) :
  Calls Tryz.prog 39 #[stV v1 v2 v3,St k] w fun r w'=>∃ v,r=.returned v∧ValAt w' w.heap.size (atE s.entries k) v∧Ext w w':=by
 obtain⟨sa,se,sp⟩:=s
 obtain⟨A1,n1,rfl,-,-⟩:=h.all.form
 obtain⟨A2,n2,rfl,-,-⟩:=h.entries.form
 obtain⟨A3,n3,rfl,-,-⟩:=h.pruned.form
 have hx0:=(Ext.refl w).alloc (.cells #[.slice A1 sa.length n1,.slice A2 se.length n2,.slice A3 sp.length n3] 30)
 have H1:=zH (zme k (h.entries.ext (by decide) hx0))
 have HSM:=zH sm
 have HAT:=zH (show atE se k=(zav se k).getD { zag with key:=k } from rfl)
 clear h sm
 go_enter Tryz.func39,Tryz.ntmps39
 go_wp2_with fail
 generalize w.alloc (.cells #[.slice A1 sa.length n1,.slice A2 se.length n2,.slice A3 sp.length n3] 30)=W0 at *
 refine H1.out.mono ?_
 rintro r W1 ⟨v1,v2,v3,rfl,hA,hx1⟩
 simp only at hA HSM HAT ⊢
 cases hf:zav se k with
 | none =>
  have HAT2:=zH (show atE se k = { zag with key:=k } by rw [HAT.out,hf];rfl)
  rw [hf] at hA
  simp only [Option.getD_none,Option.isSome_none] at hA ⊢
  have hA2:EntAt W1 S { zag with key:=k } (.slice none 0 0) (.slice none 0 0) (.slice none 0 0):=⟨Sl.nil _ _ (by decide),Sl.nil _ _ (by decide),Sl.nil _ _ (by decide)⟩
  obtain⟨C1,c1,rfl,-,-⟩:=hA.seen.form
  obtain⟨C2,c2,rfl,-,-⟩:=hA.counts.form
  obtain⟨C3,c3,rfl,-,-⟩:=hA.items.form
  have hxb:=(Ext.refl W1).alloc (.cells #[St k,.slice none 0 0,.slice none 0 0,.slice none 0 0,.int .u64 0,St [],.bool false] 37)
  have HV:=zH (zmz (hA2.ext hxb) (show (zad ([]:List Item)).length≤_ by decide))
  have HX:=zH (hx0.trans (hx1.trans hxb))
  clear hA hA2 hx0 hx1 hf HAT H1 hxb
  go_wp2_with fail
  refine HV.out.mono ?_
  rintro r W2 ⟨v,rfl,hv,hx2⟩
  have hs:=HX.out.size
  have HVV:=zH hv
  have HX2:=zH hx2
  clear hv hx2
  go_wp2_with fail
  go_ret
  exact⟨_,rfl,by rw [HAT2.out];exact HVV.out.lower hs,HX.out.trans HX2.out⟩
 | some e =>
  have HAT2:=zH (show atE se k=e by rw [HAT.out,hf];rfl)
  have hse:SmallE e:=HSM.out e (zin hf)
  rw [hf] at hA
  simp only [Option.getD_some,Option.isSome_some] at hA ⊢
  obtain⟨C1,c1,rfl,-,-⟩:=hA.seen.form
  obtain⟨C2,c2,rfl,-,-⟩:=hA.counts.form
  obtain⟨C3,c3,rfl,-,-⟩:=hA.items.form
  have hxb:=(Ext.refl W1).alloc (.cells #[St e.key,.slice C1 e.seen.length c1,.slice C2 e.counts.length c2,.slice C3 e.items.length c3,U e.cell.1,St e.cell.2.1,.bool e.cell.2.2] 37)
  have HV:=zH (zmz (hA.ext hxb) (Nat.le_trans hse.places (by decide)))
  have HX:=zH (hx0.trans (hx1.trans hxb))
  clear hA hx0 hx1 hf HAT H1 hxb
  go_wp2_with fail
  refine HV.out.mono ?_
  rintro r W2 ⟨v,rfl,hv,hx2⟩
  have hs:=HX.out.size
  have HVV:=zH hv
  have HX2:=zH hx2
  clear hv hx2
  go_wp2_with fail
  go_ret
  exact⟨_,rfl,by rw [HAT2.out];exact HVV.out.lower hs,HX.out.trans HX2.out⟩
end
section
open Go.RowKit Go.Shelf
abbrev valC (k:Nat) (n:Int) (l:Value) (t:Str) (is:Bool):Value:=.agg #[K8 k,I n,l,St t,.bool is]
theorem zw5 (n N:Int) (A:Option Addr) (a c:Nat) (t:Str) (z:Bool) (w:World) :
  Calls Tryz.prog 38 #[.iface 2 (I n),valC 1 N (.slice A a c) t z] w fun r w'=>r=.returned (.bool (decide (n=N)))∧Ext w w':=by
 have hta:=fun W=>zgk (P:=Tryz.prog) (x:=20) (v:=I n) W Tryz.underlying2 (by simp)
 by_cases h:n=N
 ·subst h
  go_enter Tryz.func38,Tryz.ntmps38
  go_wp2
  go_ret
  exact⟨by simp,(Ext.refl _).alloc _⟩
 ·have h':(n == N)=false:=by simpa using h
  go_enter Tryz.func38,Tryz.ntmps38
  go_wp2
  go_ret
  exact⟨by simp [h],(Ext.refl _).alloc _⟩
end
section
open Go.RowKit Go.Shelf
theorem yan {S S':Nat→Prop} {va vb:Value} {A B:List Str} {w:World} (ha:Sl strT w S va A) (hb:Sl strT w S' vb B) (t:Str) (z:Bool) (n:Int) :
  Calls Tryz.prog 38 #[.iface 28 va,valC 2 n vb t z] w fun r w'=>r=.returned (.bool (decide (A=B)))∧Ext w w':=by
 obtain⟨A1,n1,rfl,-,-⟩:=ha.form
 obtain⟨A2,n2,rfl,-,-⟩:=hb.form
 have hta:=fun W=>zgk (P:=Tryz.prog) (x:=20) (v:=.slice A1 A.length n1) W Tryz.underlying28 (by simp)
 have hx:=(Ext.refl w).alloc (.cells #[K8 2,I n,.slice A2 B.length n2,St t,.bool z] 90)
 have HT:=zH (zsf (ha.ext (by decide) hx) (hb.ext (by decide) hx))
 have HX:=zH hx
 clear ha hb hx
 go_enter Tryz.func38,Tryz.ntmps38
 go_wp2_with fail
 refine HT.out.mono ?_
 rintro r W1 ⟨rfl,hx1⟩
 go_wp2_with fail
 go_ret
 exact⟨rfl,HX.out.trans hx1⟩
theorem yao (w:World):(zeroValue 9).run Tryz.prog w=.ok (St []) w:=Tryz.zeroValue9 w
theorem yae (c:Cell) (N:Int) (A:Option Addr) (a d:Nat) (w:World) :
  Calls Tryz.prog 38 #[zfg c,valC 3 N (.slice A a d) (zd2 c).1 (zd2 c).2] w fun r w'=>r=.returned (.bool true)∧Ext w w':=by
 unfold zfg
 rcases h:zd2 c with ⟨t,is⟩
 cases is with
 | true =>
  have hta:=fun W=>zgk (P:=Tryz.prog) (x:=20) (v:=St t) W Tryz.underlying9 (by simp)
  simp only [if_true]
  go_enter Tryz.func38,Tryz.ntmps38
  go_wp2
  go_ret
  exact⟨by simp,(Ext.refl _).alloc _⟩
 | false =>
  obtain rfl:t = []:=by
   unfold zd2 at h
   split at h
   ·injection h with h1 h2;exact h1.symm
   ·injection h with h1 h2;cases h2
  have hta:=fun W=>znv (P:=Tryz.prog) (x:=20) W Tryz.underlying9 (by simp) (yao W)
  simp only [Bool.false_eq_true,if_false]
  go_enter Tryz.func38,Tryz.ntmps38
  go_wp2
  go_ret
  exact⟨by simp,(Ext.refl _).alloc _⟩
end
end Go.Proofs.YtdikcgmdmcfpfaaGreat
