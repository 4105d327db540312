/- Contracts of the functions that the statement goes through, and plain laws of them. -/
import Derived.Test.YtblkikjmocnllaaGreatDoorQv15
import Derived.Test.YtblkikjmocnllaaGreatDoorQv05
import Derived.Test.YtblkikjmocnllaaGreatDoorQv13
set_option linter.unusedVariables false
set_option linter.unusedSimpArgs false
set_option linter.unusedSectionVars false
namespace Go.Proofs.YtblkikjmocnllaaGreatDoor
open Go.RowKit Go.Shelf
def firstL : List Int → Int
 | [] => 0
 | c :: r => if c = 0 then firstL r else c
theorem firstL_skip : ∀ {a b : List Int}, (∀ x ∈ a, x = 0) → firstL (a ++ b) = firstL b
 | [], _, _ => rfl
 | x :: a, b, h => by
   rw [List.cons_append, firstL, if_pos (h x (by simp))]
   exact firstL_skip fun y hy => h y (by simp [hy])
def rankP (p : Str) : Int := if mayP p then 9 - (deepP p : Int) else 0
def settledM (p : Plan) : Int := if p.done then 1 else 0
def higherM (a b : Str) : Int := cmpI (rankP a) (rankP b)
def laterL (x y : Plan) : List Int := [cmpI (settledM x) (settledM y), higherM x.keeper y.keeper, cmpN x.round y.round, cmpPath x.keeper y.keeper, cmpS x.live y.live, cmpS x.by_ y.by_, cmpN x.cap y.cap, cmpS x.owner y.owner, cmpN x.base y.base]
def laterM (x y : Plan) : Plan := if firstL (laterL x y) < 0 then y else x
set_option maxRecDepth 100000 in
set_option maxHeartbeats 1000000 in
theorem told_any {g : Nat} {cb : Array Value} {C : World → Prop} {l : List (Nat × Int)} {w : World} (hC : ∀ W W', C W → Ext W W' → C W') (hf : ∀ e ∈ l, (∀ args w, (callFunc e.1 args).run Tryz.prog w = .ok (.enter e.1 args) w) ∧ ∀ W, C W → Calls Tryz.prog e.1 cb W fun r w' => r = .returned (I e.2) ∧ Ext W w')
   {T : TypeId} (hrow : RowIs w g T (l.map fun e => .func (.func e.1) #[] cb) []) (hC0 : C w) (hl : l.length ≤ 1000) :
   Calls Tryz.prog 60 #[.slice (some ⟨g, 0, none⟩) l.length l.length] w fun e w' => e = .returned (I (firstL (l.map (·.2)))) ∧ Ext w w' := by
 have HF := Lib.hid hf
 have HC := Lib.hid hC
 have H0 := Lib.hid hC0
 have HR := Lib.hid hrow
 clear hf hC hC0 hrow
 go_enter Tryz.func60, Tryz.ntmps60
 go_wp2_with fail
 go_loopw [8] (fun i wr => ∃ pre post, l = pre ++ post ∧ i = I pre.length ∧ (∀ x ∈ pre.map (·.2), x = 0) ∧ Ext w wr) (fun i _ => l.length - (intOf i).toNat)
 case atStart => exact ⟨[], l, rfl, rfl, by simp, Ext.refl _⟩
 case round =>
   obtain ⟨pre, post, hll, rfl, hpre, hx⟩ := hrel
   cases post with
   | nil =>
     rw [List.append_nil] at hll
     have hlen : l.length = pre.length := by rw [hll]
     have HK := Lib.hid (show firstL (l.map (·.2)) = 0 by rw [hll, ← List.append_nil (pre.map (·.2)), firstL_skip hpre]; rfl)
     clear hll hpre
     go_wp2_with fail
     go_ret
     exact ⟨by rw [HK.out]; rfl, hx⟩
   | cons e post =>
     have hlt : (pre.length : Int) < l.length := by rw [hll]; simp; omega
     obtain ⟨k, c⟩ := e
     have hme : (k, c) ∈ l := by rw [hll]; simp
     have hcell : wr.cell? ⟨g, pre.length, none⟩ = some (.func (.func k) #[] cb) := hx.cell (HR.out.cell (by rw [hll]; simp))
     have eg := (HF.out _ hme).1
     have HD := Lib.hid ((HF.out _ hme).2 wr (HC.out _ _ H0.out hx))
     have HL := Lib.hid hll
     have HP := Lib.hid hpre
     simp only at eg
     clear hll hpre hme
     by_cases hc : c = 0
     · have e1 : (c != 0) = false := by simpa using hc
       go_wp2_with fail
       refine HD.out.mono ?_
       rintro e w1 ⟨rfl, hb1⟩
       have HB := Lib.hid hb1
       clear hb1
       dsimp only
       go_wp2_with fail
       go_roundw
       case rel => exact ⟨pre ++ [(k, c)], post, by rw [HL.out]; simp, by simp, by
         intro y hy
         rw [List.map_append, List.mem_append] at hy
         rcases hy with hy | hy
         · exact HP.out y hy
         · simp at hy; rw [hy, hc], hx.trans HB.out⟩
       case measure => simp [intOf]; omega
     · have e1 : (c != 0) = true := by simpa using hc
       have HK := Lib.hid (show firstL (l.map (·.2)) = c by rw [HL.out, List.map_append, firstL_skip HP.out]; simp [firstL, hc])
       go_wp2_with fail
       refine HD.out.mono ?_
       rintro e w1 ⟨rfl, hb1⟩
       have HB := Lib.hid hb1
       clear hb1
       dsimp only
       go_wp2_with fail
       go_ret
       exact ⟨by rw [HK.out]; rfl, hx.trans HB.out⟩
set_option maxRecDepth 100000 in
set_option maxHeartbeats 1000000 in
theorem settled_any (p : Plan) (w : World) : Calls Tryz.prog 63 #[planV p] w fun e w' => e = .returned (I (settledM p)) ∧ Ext w w' := by
 have hx := (Ext.refl w).alloc (.cells #[St p.keeper, U p.round, St p.live, St p.by_, U p.cap, St p.owner, U p.base, .bool p.done] 45)
 have hc := (rowNew w 45 [St p.keeper, U p.round, St p.live, St p.by_, U p.cap, St p.owner, U p.base, .bool p.done]).cell (j := 7) rfl
 have HX := Lib.hid hx
 clear hx
 unfold planV settledM
 cases hd : p.done
 all_goals
   rw [hd] at hc
   rw [hd] at HX
   go_enter Tryz.func63, Tryz.ntmps63
   go_wp2_with fail
   go_ret
   exact ⟨rfl, HX.out⟩
set_option maxRecDepth 100000 in
set_option maxHeartbeats 1000000 in
theorem rank_any (p : Str) (hp : p.length < 4611686018427387904) (w : World) : Calls Tryz.prog 128 #[St p] w fun e w' => e = .returned (I (rankP p)) ∧ Ext w w' := by
 have HM := Lib.hid (may_any p hp)
 have HD := Lib.hid (deep_any p hp)
 have h8 : deepP p ≤ 8 := splitP_len p
 unfold rankP
 generalize deepP p = d at *
 cases hm : mayP p with
 | false =>
   rw [hm] at HM
   go_enter Tryz.func128, Tryz.ntmps128
   go_wp2_with fail
   refine (HM.out _).mono ?_
   rintro e w1 ⟨rfl, hx⟩
   go_wp2
   go_ret
   exact ⟨rfl, hx⟩
 | true =>
   rw [hm] at HM
   go_enter Tryz.func128, Tryz.ntmps128
   go_wp2_with fail
   refine (HM.out _).mono ?_
   rintro e w1 ⟨rfl, hx⟩
   go_wp2_with fail
   refine (HD.out _).mono ?_
   rintro e w2 ⟨rfl, hx2⟩
   go_wp2
   go_ret
   exact ⟨rfl, hx.trans hx2⟩
set_option maxRecDepth 100000 in
set_option maxHeartbeats 1000000 in
theorem higher_any (a b : Str) (ha : a.length < 4611686018427387904) (hb : b.length < 4611686018427387904) (w : World) : Calls Tryz.prog 65 #[St a, St b] w fun e w' => e = .returned (I (higherM a b)) ∧ Ext w w' := by
 have HA := Lib.hid (rank_any a ha)
 have HB := Lib.hid (rank_any b hb)
 unfold higherM
 generalize rankP a = ra at *
 generalize rankP b = rb at *
 have HC := Lib.hid (icmp_any ra rb)
 generalize cmpI ra rb = K at *
 have eg : ∀ args w, (callFunc 128 args).run Tryz.prog w = .ok (.enter 128 args) w := enters_of Tryz.func128 (by kernel_rfl) rfl
 go_enter Tryz.func65, Tryz.ntmps65
 go_wp2_with fail
 refine (HA.out _).mono ?_
 rintro e w1 ⟨rfl, hx1⟩
 go_wp2_with fail
 refine (HB.out _).mono ?_
 rintro e w2 ⟨rfl, hx2⟩
 go_wp2_with fail
 refine (HC.out _).mono ?_
 rintro e w3 ⟨rfl, rfl⟩
 go_wp2
 go_ret
 exact ⟨rfl, hx1.trans hx2⟩
set_option maxRecDepth 100000 in
set_option maxHeartbeats 1000000 in
theorem byText_any (a b : Str) (w : World) : Calls Tryz.prog 70 #[St a, St b] w fun e w' => e = .returned (I (cmpS a b)) ∧ Ext w w' := by
 have HC := Lib.hid (scmp_any a b)
 generalize cmpS a b = K at *
 go_enter Tryz.func70, Tryz.ntmps70
 go_wp2_with fail
 refine (HC.out _).mono ?_
 rintro e w1 ⟨rfl, rfl⟩
 go_wp2
 go_ret
 exact ⟨rfl, Ext.refl _⟩
def PlansAt (a b : Nat) (x y : Plan) (W : World) : Prop := RowIs W a 45 (planC x) [] ∧ RowIs W b 45 (planC y) []
theorem PlansAt.ext {a b : Nat} {x y : Plan} {W W' : World} (h : PlansAt a b x y W) (he : Ext W W') : PlansAt a b x y W' := ⟨h.1.ext he, h.2.ext he⟩
section
variable {a b : Nat} {x y : Plan} {W : World}
set_option maxRecDepth 100000 in
set_option maxHeartbeats 1000000 in
theorem later1_any (h : PlansAt a b x y W) : Calls Tryz.prog 61 #[.pointer (some ⟨a, 0, none⟩), .pointer (some ⟨b, 0, none⟩)] W fun e w' => e = .returned (I (cmpI (settledM x) (settledM y))) ∧ Ext W w' := by
 have hx := h.1.p8 rfl
 have hy := h.2.p8 rfl
 obtain ⟨sm, hsm⟩ : ∃ sm : Plan → Int, ∀ p, settledM p = sm p := ⟨settledM, fun _ => rfl⟩
 have HS := Lib.hid (fun (p : Plan) (hp : p = x ∨ p = y) W => (show Calls Tryz.prog 63 #[planV p] W fun e w' => e = .returned (I (sm p)) ∧ Ext W w' from by rw [← hsm]; exact settled_any p W))
 have H := Lib.hid h
 rw [hsm x, hsm y]
 have HC := Lib.hid (fun W => (icmp_any (sm x) (sm y) W).mono (R' := fun e w' => e = .returned (I (cmpI (sm x) (sm y))) ∧ Ext W w') (by rintro e w' ⟨rfl, rfl⟩; exact ⟨rfl, Ext.refl _⟩))
 generalize cmpI (sm x) (sm y) = K at *
 obtain ⟨⟨x0, x1, x2, x3⟩, x4, x5, x6, x7⟩ := hx
 obtain ⟨⟨y0, y1, y2, y3⟩, y4, y5, y6, y7⟩ := hy
 unfold planV at HS
 clear hsm h
 go_enter Tryz.func61, Tryz.ntmps61
 go_wp2_with fail
 go_region_held3 (fun V => V.cell? ⟨a, 0, none⟩ = some (St x.keeper) ∧ V.cell? ⟨a, 1, none⟩ = some (U x.round) ∧ V.cell? ⟨a, 2, none⟩ = some (St x.live) ∧ V.cell? ⟨a, 3, none⟩ = some (St x.by_) ∧ V.cell? ⟨a, 4, none⟩ = some (U x.cap) ∧ V.cell? ⟨a, 5, none⟩ = some (St x.owner) ∧ V.cell? ⟨a, 6, none⟩ = some (U x.base) ∧ V.cell? ⟨a, 7, none⟩ = some (.bool x.done) ∧ V.cell? ⟨b, 0, none⟩ = some (St y.keeper) ∧ V.cell? ⟨b, 1, none⟩ = some (U y.round) ∧ V.cell? ⟨b, 2, none⟩ = some (St y.live) ∧ V.cell? ⟨b, 3, none⟩ = some (St y.by_) ∧ V.cell? ⟨b, 4, none⟩ = some (U y.cap) ∧ V.cell? ⟨b, 5, none⟩ = some (St y.owner) ∧ V.cell? ⟨b, 6, none⟩ = some (U y.base) ∧ V.cell? ⟨b, 7, none⟩ = some (.bool y.done) ∧ Ext W V) (first | exact ⟨x0, x1, x2, x3, x4, x5, x6, x7, y0, y1, y2, y3, y4, y5, y6, y7, (Ext.refl _).drew⟩ | exact ⟨hb1.cell (‹_ ∧ _ ∧ _ ∧ _ ∧ _ ∧ _ ∧ _ ∧ _ ∧ _ ∧ _ ∧ _ ∧ _ ∧ _ ∧ _ ∧ _ ∧ _ ∧ Ext W _›).1, hb1.cell (‹_ ∧ _ ∧ _ ∧ _ ∧ _ ∧ _ ∧ _ ∧ _ ∧ _ ∧ _ ∧ _ ∧ _ ∧ _ ∧ _ ∧ _ ∧ _ ∧ Ext W _›).2.1, hb1.cell (‹_ ∧ _ ∧ _ ∧ _ ∧ _ ∧ _ ∧ _ ∧ _ ∧ _ ∧ _ ∧ _ ∧ _ ∧ _ ∧ _ ∧ _ ∧ _ ∧ Ext W _›).2.2.1, hb1.cell (‹_ ∧ _ ∧ _ ∧ _ ∧ _ ∧ _ ∧ _ ∧ _ ∧ _ ∧ _ ∧ _ ∧ _ ∧ _ ∧ _ ∧ _ ∧ _ ∧ Ext W _›).2.2.2.1, hb1.cell (‹_ ∧ _ ∧ _ ∧ _ ∧ _ ∧ _ ∧ _ ∧ _ ∧ _ ∧ _ ∧ _ ∧ _ ∧ _ ∧ _ ∧ _ ∧ _ ∧ Ext W _›).2.2.2.2.1, hb1.cell (‹_ ∧ _ ∧ _ ∧ _ ∧ _ ∧ _ ∧ _ ∧ _ ∧ _ ∧ _ ∧ _ ∧ _ ∧ _ ∧ _ ∧ _ ∧ _ ∧ Ext W _›).2.2.2.2.2.1, hb1.cell (‹_ ∧ _ ∧ _ ∧ _ ∧ _ ∧ _ ∧ _ ∧ _ ∧ _ ∧ _ ∧ _ ∧ _ ∧ _ ∧ _ ∧ _ ∧ _ ∧ Ext W _›).2.2.2.2.2.2.1, hb1.cell (‹_ ∧ _ ∧ _ ∧ _ ∧ _ ∧ _ ∧ _ ∧ _ ∧ _ ∧ _ ∧ _ ∧ _ ∧ _ ∧ _ ∧ _ ∧ _ ∧ Ext W _›).2.2.2.2.2.2.2.1, hb1.cell (‹_ ∧ _ ∧ _ ∧ _ ∧ _ ∧ _ ∧ _ ∧ _ ∧ _ ∧ _ ∧ _ ∧ _ ∧ _ ∧ _ ∧ _ ∧ _ ∧ Ext W _›).2.2.2.2.2.2.2.2.1, hb1.cell (‹_ ∧ _ ∧ _ ∧ _ ∧ _ ∧ _ ∧ _ ∧ _ ∧ _ ∧ _ ∧ _ ∧ _ ∧ _ ∧ _ ∧ _ ∧ _ ∧ Ext W _›).2.2.2.2.2.2.2.2.2.1, hb1.cell (‹_ ∧ _ ∧ _ ∧ _ ∧ _ ∧ _ ∧ _ ∧ _ ∧ _ ∧ _ ∧ _ ∧ _ ∧ _ ∧ _ ∧ _ ∧ _ ∧ Ext W _›).2.2.2.2.2.2.2.2.2.2.1, hb1.cell (‹_ ∧ _ ∧ _ ∧ _ ∧ _ ∧ _ ∧ _ ∧ _ ∧ _ ∧ _ ∧ _ ∧ _ ∧ _ ∧ _ ∧ _ ∧ _ ∧ Ext W _›).2.2.2.2.2.2.2.2.2.2.2.1, hb1.cell (‹_ ∧ _ ∧ _ ∧ _ ∧ _ ∧ _ ∧ _ ∧ _ ∧ _ ∧ _ ∧ _ ∧ _ ∧ _ ∧ _ ∧ _ ∧ _ ∧ Ext W _›).2.2.2.2.2.2.2.2.2.2.2.2.1, hb1.cell (‹_ ∧ _ ∧ _ ∧ _ ∧ _ ∧ _ ∧ _ ∧ _ ∧ _ ∧ _ ∧ _ ∧ _ ∧ _ ∧ _ ∧ _ ∧ _ ∧ Ext W _›).2.2.2.2.2.2.2.2.2.2.2.2.2.1, hb1.cell (‹_ ∧ _ ∧ _ ∧ _ ∧ _ ∧ _ ∧ _ ∧ _ ∧ _ ∧ _ ∧ _ ∧ _ ∧ _ ∧ _ ∧ _ ∧ _ ∧ Ext W _›).2.2.2.2.2.2.2.2.2.2.2.2.2.2.1, hb1.cell (‹_ ∧ _ ∧ _ ∧ _ ∧ _ ∧ _ ∧ _ ∧ _ ∧ _ ∧ _ ∧ _ ∧ _ ∧ _ ∧ _ ∧ _ ∧ _ ∧ Ext W _›).2.2.2.2.2.2.2.2.2.2.2.2.2.2.2.1, (‹_ ∧ _ ∧ _ ∧ _ ∧ _ ∧ _ ∧ _ ∧ _ ∧ _ ∧ _ ∧ _ ∧ _ ∧ _ ∧ _ ∧ _ ∧ _ ∧ Ext W _›).2.2.2.2.2.2.2.2.2.2.2.2.2.2.2.2.trans hb1⟩) (first | (go_at_call 63; refine (HS.out x (.inl rfl) _).mono ?_; rintro e w1 ⟨rfl, hb1⟩) | (go_at_call 63; refine (HS.out y (.inr rfl) _).mono ?_; rintro e w1 ⟨rfl, hb1⟩) | (go_at_call 62; refine (HC.out _).mono ?_; rintro e w1 ⟨rfl, hb1⟩))
 have hX6 := (‹_ ∧ _ ∧ _ ∧ _ ∧ _ ∧ _ ∧ _ ∧ _ ∧ _ ∧ _ ∧ _ ∧ _ ∧ _ ∧ _ ∧ _ ∧ _ ∧ Ext W _›).2.2.2.2.2.2.2.2.2.2.2.2.2.2.2.2
 go_wp2
 go_ret
 exact ⟨rfl, hX6⟩
set_option maxRecDepth 100000 in
set_option maxHeartbeats 1000000 in
theorem later2_any (h : PlansAt a b x y W) (hk : x.keeper.length < 4611686018427387904) (hl : y.keeper.length < 4611686018427387904) : Calls Tryz.prog 64 #[.pointer (some ⟨a, 0, none⟩), .pointer (some ⟨b, 0, none⟩)] W fun e w' => e = .returned (I (higherM x.keeper y.keeper)) ∧ Ext W w' := by
 have hx := h.1.cell (j := 0) rfl
 have hy := h.2.cell (j := 0) rfl
 have HC := Lib.hid (fun W => (higher_any x.keeper y.keeper hk hl W).mono (R' := fun e w' => e = .returned (I (higherM x.keeper y.keeper)) ∧ Ext W w') (by exact fun _ _ h => h))
 generalize higherM x.keeper y.keeper = K at *
 clear h
 go_enter Tryz.func64, Tryz.ntmps64
 go_wp2_with fail
 refine (HC.out _).mono ?_
 rintro e w1 ⟨rfl, hx1⟩
 go_wp2
 go_ret
 exact ⟨rfl, hx1⟩
set_option maxRecDepth 100000 in
set_option maxHeartbeats 1000000 in
theorem later3_any (h : PlansAt a b x y W) : Calls Tryz.prog 66 #[.pointer (some ⟨a, 0, none⟩), .pointer (some ⟨b, 0, none⟩)] W fun e w' => e = .returned (I (cmpN x.round y.round)) ∧ Ext W w' := by
 have hx := h.1.cell (j := 1) rfl
 have hy := h.2.cell (j := 1) rfl
 have HC := Lib.hid (fun W => (ncmp_any x.round y.round W).mono (R' := fun e w' => e = .returned (I (cmpN x.round y.round)) ∧ Ext W w') (by rintro e w' ⟨rfl, rfl⟩; exact ⟨rfl, Ext.refl _⟩))
 generalize cmpN x.round y.round = K at *
 clear h
 go_enter Tryz.func66, Tryz.ntmps66
 go_wp2_with fail
 refine (HC.out _).mono ?_
 rintro e w1 ⟨rfl, hx1⟩
 go_wp2
 go_ret
 exact ⟨rfl, hx1⟩
set_option maxRecDepth 100000 in
set_option maxHeartbeats 1000000 in
theorem later4_any (h : PlansAt a b x y W) (hk : x.keeper.length < 4611686018427387904) (hl : y.keeper.length < 4611686018427387904) : Calls Tryz.prog 68 #[.pointer (some ⟨a, 0, none⟩), .pointer (some ⟨b, 0, none⟩)] W fun e w' => e = .returned (I (cmpPath x.keeper y.keeper)) ∧ Ext W w' := by
 have hx := h.1.cell (j := 0) rfl
 have hy := h.2.cell (j := 0) rfl
 have HC := Lib.hid (fun W => (pcmp_any x.keeper y.keeper hk hl W).mono (R' := fun e w' => e = .returned (I (cmpPath x.keeper y.keeper)) ∧ Ext W w') (by exact fun _ _ h => h))
 generalize cmpPath x.keeper y.keeper = K at *
 clear h
 go_enter Tryz.func68, Tryz.ntmps68
 go_wp2_with fail
 refine (HC.out _).mono ?_
 rintro e w1 ⟨rfl, hx1⟩
 go_wp2
 go_ret
 exact ⟨rfl, hx1⟩
set_option maxRecDepth 100000 in
set_option maxHeartbeats 1000000 in
theorem later5_any (h : PlansAt a b x y W) : Calls Tryz.prog 69 #[.pointer (some ⟨a, 0, none⟩), .pointer (some ⟨b, 0, none⟩)] W fun e w' => e = .returned (I (cmpS x.live y.live)) ∧ Ext W w' := by
 have hx := h.1.cell (j := 2) rfl
 have hy := h.2.cell (j := 2) rfl
 have HC := Lib.hid (fun W => (byText_any x.live y.live W).mono (R' := fun e w' => e = .returned (I (cmpS x.live y.live)) ∧ Ext W w') (by exact fun _ _ h => h))
 generalize cmpS x.live y.live = K at *
 clear h
 go_enter Tryz.func69, Tryz.ntmps69
 go_wp2_with fail
 refine (HC.out _).mono ?_
 rintro e w1 ⟨rfl, hx1⟩
 go_wp2
 go_ret
 exact ⟨rfl, hx1⟩
set_option maxRecDepth 100000 in
set_option maxHeartbeats 1000000 in
theorem later6_any (h : PlansAt a b x y W) : Calls Tryz.prog 71 #[.pointer (some ⟨a, 0, none⟩), .pointer (some ⟨b, 0, none⟩)] W fun e w' => e = .returned (I (cmpS x.by_ y.by_)) ∧ Ext W w' := by
 have hx := h.1.cell (j := 3) rfl
 have hy := h.2.cell (j := 3) rfl
 have HC := Lib.hid (fun W => (byText_any x.by_ y.by_ W).mono (R' := fun e w' => e = .returned (I (cmpS x.by_ y.by_)) ∧ Ext W w') (by exact fun _ _ h => h))
 generalize cmpS x.by_ y.by_ = K at *
 clear h
 go_enter Tryz.func71, Tryz.ntmps71
 go_wp2_with fail
 refine (HC.out _).mono ?_
 rintro e w1 ⟨rfl, hx1⟩
 go_wp2
 go_ret
 exact ⟨rfl, hx1⟩
set_option maxRecDepth 100000 in
set_option maxHeartbeats 1000000 in
theorem later7_any (h : PlansAt a b x y W) : Calls Tryz.prog 72 #[.pointer (some ⟨a, 0, none⟩), .pointer (some ⟨b, 0, none⟩)] W fun e w' => e = .returned (I (cmpN x.cap y.cap)) ∧ Ext W w' := by
 have hx := h.1.cell (j := 4) rfl
 have hy := h.2.cell (j := 4) rfl
 have HC := Lib.hid (fun W => (ncmp_any x.cap y.cap W).mono (R' := fun e w' => e = .returned (I (cmpN x.cap y.cap)) ∧ Ext W w') (by rintro e w' ⟨rfl, rfl⟩; exact ⟨rfl, Ext.refl _⟩))
 generalize cmpN x.cap y.cap = K at *
 clear h
 go_enter Tryz.func72, Tryz.ntmps72
 go_wp2_with fail
 refine (HC.out _).mono ?_
 rintro e w1 ⟨rfl, hx1⟩
 go_wp2
 go_ret
 exact ⟨rfl, hx1⟩
set_option maxRecDepth 100000 in
set_option maxHeartbeats 1000000 in
theorem later8_any (h : PlansAt a b x y W) : Calls Tryz.prog 73 #[.pointer (some ⟨a, 0, none⟩), .pointer (some ⟨b, 0, none⟩)] W fun e w' => e = .returned (I (cmpS x.owner y.owner)) ∧ Ext W w' := by
 have hx := h.1.cell (j := 5) rfl
 have hy := h.2.cell (j := 5) rfl
 have HC := Lib.hid (fun W => (byText_any x.owner y.owner W).mono (R' := fun e w' => e = .returned (I (cmpS x.owner y.owner)) ∧ Ext W w') (by exact fun _ _ h => h))
 generalize cmpS x.owner y.owner = K at *
 clear h
 go_enter Tryz.func73, Tryz.ntmps73
 go_wp2_with fail
 refine (HC.out _).mono ?_
 rintro e w1 ⟨rfl, hx1⟩
 go_wp2
 go_ret
 exact ⟨rfl, hx1⟩
set_option maxRecDepth 100000 in
set_option maxHeartbeats 1000000 in
theorem later9_any (h : PlansAt a b x y W) : Calls Tryz.prog 74 #[.pointer (some ⟨a, 0, none⟩), .pointer (some ⟨b, 0, none⟩)] W fun e w' => e = .returned (I (cmpN x.base y.base)) ∧ Ext W w' := by
 have hx := h.1.cell (j := 6) rfl
 have hy := h.2.cell (j := 6) rfl
 have HC := Lib.hid (fun W => (ncmp_any x.base y.base W).mono (R' := fun e w' => e = .returned (I (cmpN x.base y.base)) ∧ Ext W w') (by rintro e w' ⟨rfl, rfl⟩; exact ⟨rfl, Ext.refl _⟩))
 generalize cmpN x.base y.base = K at *
 clear h
 go_enter Tryz.func74, Tryz.ntmps74
 go_wp2_with fail
 refine (HC.out _).mono ?_
 rintro e w1 ⟨rfl, hx1⟩
 go_wp2
 go_ret
 exact ⟨rfl, hx1⟩
end
end Go.Proofs.YtblkikjmocnllaaGreatDoor
namespace Go.Proofs.YtblkikjmocnllaaGreatDoor
open Go.RowKit Go.Shelf
def put8 (W : World) (g : Nat) (a0 a1 a2 a3 a4 a5 a6 a7 : Value) : World := (((((((W.setCell ⟨g, 0, none⟩ a0).setCell ⟨g, 1, none⟩ a1).setCell ⟨g, 2, none⟩ a2).setCell ⟨g, 3, none⟩ a3).setCell ⟨g, 4, none⟩ a4).setCell ⟨g, 5, none⟩ a5).setCell ⟨g, 6, none⟩ a6).setCell ⟨g, 7, none⟩ a7
section
variable {W w : World} {g T : Nat} {a0 a1 a2 a3 a4 a5 a6 a7 : Value}
theorem put8_row {b0 b1 b2 b3 b4 b5 b6 b7 : Value} (h : RowIs W g T [b0, b1, b2, b3, b4, b5, b6, b7] []) : RowIs (put8 W g a0 a1 a2 a3 a4 a5 a6 a7) g T [a0, a1, a2, a3, a4, a5, a6, a7] [] :=
 (((((((h.set (j := 0) (by simp) a0).set (j := 1) (by simp) a1).set (j := 2) (by simp) a2).set (j := 3) (by simp) a3).set (j := 4) (by simp) a4).set (j := 5) (by simp) a5).set (j := 6) (by simp) a6).set (j := 7) (by simp) a7
theorem put8_ext (h : Ext w W) (hg : w.heap.size ≤ g) : Ext w (put8 W g a0 a1 a2 a3 a4 a5 a6 a7) :=
 (((((((h.set (p := ⟨g, 0, none⟩) hg _).set (p := ⟨g, 1, none⟩) hg _).set (p := ⟨g, 2, none⟩) hg _).set (p := ⟨g, 3, none⟩) hg _).set (p := ⟨g, 4, none⟩) hg _).set (p := ⟨g, 5, none⟩) hg _).set (p := ⟨g, 6, none⟩) hg _).set (p := ⟨g, 7, none⟩) hg _
end
set_option maxRecDepth 100000 in
set_option maxHeartbeats 4000000 in
theorem later_any (x y : Plan) (hx : x.keeper.length < 4611686018427387904) (hy : y.keeper.length < 4611686018427387904) (w : World) : Calls Tryz.prog 23 #[planV x, planV y] w fun e w' => e = .returned (planV (laterM x y)) ∧ Ext w w' := by
 have ra := rowNew w 45 (planC x)
 have xa := (Ext.refl w).alloc (.cells (planC x).toArray 45)
 have rb := rowNew (w.alloc (.cells (planC x).toArray 45)) 45 (planC y)
 have xb := xa.alloc (.cells (planC y).toArray 45)
 have rc := rowNew ((w.alloc (.cells (planC x).toArray 45)).alloc (.cells (planC y).toArray 45)) 45 (planC plan0)
 have xc := xb.alloc (.cells (planC plan0).toArray 45)
 simp only [World.size_alloc] at rb rc
 have hpl : PlansAt w.heap.size (w.heap.size + 1) x y (((w.alloc (.cells (planC x).toArray 45)).alloc (.cells (planC y).toArray 45)).alloc (.cells (planC plan0).toArray 45)) := ⟨(ra.alloc _).alloc _, rb.alloc _⟩
 have hsz : (((w.alloc (.cells (planC x).toArray 45)).alloc (.cells (planC y).toArray 45)).alloc (.cells (planC plan0).toArray 45)).heap.size = w.heap.size + 3 := by simp
 have HT := Lib.hid (fun (W : World) (h : PlansAt w.heap.size (w.heap.size + 1) x y W) (g : Nat) (hr : RowIs W g 96 ([(61, cmpI (settledM x) (settledM y)), (64, higherM x.keeper y.keeper), (66, cmpN x.round y.round), (68, cmpPath x.keeper y.keeper), (69, cmpS x.live y.live), (71, cmpS x.by_ y.by_), (72, cmpN x.cap y.cap), (73, cmpS x.owner y.owner), (74, cmpN x.base y.base)].map fun (e : Nat × Int) => .func (.func e.1) #[] #[.pointer (some ⟨w.heap.size, 0, none⟩), .pointer (some ⟨w.heap.size + 1, 0, none⟩)]) []) =>
   told_any (C := PlansAt w.heap.size (w.heap.size + 1) x y) (fun _ _ h k => h.ext k) (by
     intro e he
     simp only [List.mem_cons, List.not_mem_nil, or_false] at he
     rcases he with rfl | rfl | rfl | rfl | rfl | rfl | rfl | rfl | rfl
     · exact ⟨enters_of Tryz.func61 (by kernel_rfl) rfl, fun W h => later1_any h⟩
     · exact ⟨enters_of Tryz.func64 (by kernel_rfl) rfl, fun W h => later2_any h hx hy⟩
     · exact ⟨enters_of Tryz.func66 (by kernel_rfl) rfl, fun W h => later3_any h⟩
     · exact ⟨enters_of Tryz.func68 (by kernel_rfl) rfl, fun W h => later4_any h hx hy⟩
     · exact ⟨enters_of Tryz.func69 (by kernel_rfl) rfl, fun W h => later5_any h⟩
     · exact ⟨enters_of Tryz.func71 (by kernel_rfl) rfl, fun W h => later6_any h⟩
     · exact ⟨enters_of Tryz.func72 (by kernel_rfl) rfl, fun W h => later7_any h⟩
     · exact ⟨enters_of Tryz.func73 (by kernel_rfl) rfl, fun W h => later8_any h⟩
     · exact ⟨enters_of Tryz.func74 (by kernel_rfl) rfl, fun W h => later9_any h⟩) hr h (by simp))
 have hfl : firstL ([(61, cmpI (settledM x) (settledM y)), (64, higherM x.keeper y.keeper), (66, cmpN x.round y.round), (68, cmpPath x.keeper y.keeper), (69, cmpS x.live y.live), (71, cmpS x.by_ y.by_), (72, cmpN x.cap y.cap), (73, cmpS x.owner y.owner), (74, cmpN x.base y.base)].map fun (e : Nat × Int) => e.2) = firstL (laterL x y) := rfl
 rw [hfl] at HT
 obtain ⟨K, hK⟩ : ∃ K, firstL (laterL x y) = K := ⟨_, rfl⟩
 have hres : laterM x y = if K < 0 then y else x := by unfold laterM; rw [hK]
 rw [hK] at HT
 have HRS := Lib.hid hres
 have HW := Lib.hid (And.intro hpl (And.intro rc (And.intro xc hsz)))
 have HWF := Lib.hid (show ∀ n0 : Nat, n0 = w.heap.size → True from fun _ _ => trivial)
 clear hK hres hfl hpl ra rb rc xa xb xc hsz hx hy
 unfold planV
 unfold planC plan0 at HW
 go_enter Tryz.func23, Tryz.ntmps23
 go_wp2_with fail
 have h3 := HW.out.2.2.2
 have hr4 := rowNew (((w.alloc (.cells (planC x).toArray 45)).alloc (.cells (planC y).toArray 45)).alloc (.cells (planC plan0).toArray 45)) 96 [.func (.func 61) #[] #[.pointer (some ⟨w.heap.size, 0, none⟩), .pointer (some ⟨w.heap.size + 1, 0, none⟩)], .func (.func 64) #[] #[.pointer (some ⟨w.heap.size, 0, none⟩), .pointer (some ⟨w.heap.size + 1, 0, none⟩)], .func (.func 66) #[] #[.pointer (some ⟨w.heap.size, 0, none⟩), .pointer (some ⟨w.heap.size + 1, 0, none⟩)], .func (.func 68) #[] #[.pointer (some ⟨w.heap.size, 0, none⟩), .pointer (some ⟨w.heap.size + 1, 0, none⟩)], .func (.func 69) #[] #[.pointer (some ⟨w.heap.size, 0, none⟩), .pointer (some ⟨w.heap.size + 1, 0, none⟩)], .func (.func 71) #[] #[.pointer (some ⟨w.heap.size, 0, none⟩), .pointer (some ⟨w.heap.size + 1, 0, none⟩)], .func (.func 72) #[] #[.pointer (some ⟨w.heap.size, 0, none⟩), .pointer (some ⟨w.heap.size + 1, 0, none⟩)], .func (.func 73) #[] #[.pointer (some ⟨w.heap.size, 0, none⟩), .pointer (some ⟨w.heap.size + 1, 0, none⟩)], .func (.func 74) #[] #[.pointer (some ⟨w.heap.size, 0, none⟩), .pointer (some ⟨w.heap.size + 1, 0, none⟩)]]
 have x34 := (Ext.refl (((w.alloc (.cells (planC x).toArray 45)).alloc (.cells (planC y).toArray 45)).alloc (.cells (planC plan0).toArray 45))).alloc (.cells ([.func (.func 61) #[] #[.pointer (some ⟨w.heap.size, 0, none⟩), .pointer (some ⟨w.heap.size + 1, 0, none⟩)], .func (.func 64) #[] #[.pointer (some ⟨w.heap.size, 0, none⟩), .pointer (some ⟨w.heap.size + 1, 0, none⟩)], .func (.func 66) #[] #[.pointer (some ⟨w.heap.size, 0, none⟩), .pointer (some ⟨w.heap.size + 1, 0, none⟩)], .func (.func 68) #[] #[.pointer (some ⟨w.heap.size, 0, none⟩), .pointer (some ⟨w.heap.size + 1, 0, none⟩)], .func (.func 69) #[] #[.pointer (some ⟨w.heap.size, 0, none⟩), .pointer (some ⟨w.heap.size + 1, 0, none⟩)], .func (.func 71) #[] #[.pointer (some ⟨w.heap.size, 0, none⟩), .pointer (some ⟨w.heap.size + 1, 0, none⟩)], .func (.func 72) #[] #[.pointer (some ⟨w.heap.size, 0, none⟩), .pointer (some ⟨w.heap.size + 1, 0, none⟩)], .func (.func 73) #[] #[.pointer (some ⟨w.heap.size, 0, none⟩), .pointer (some ⟨w.heap.size + 1, 0, none⟩)], .func (.func 74) #[] #[.pointer (some ⟨w.heap.size, 0, none⟩), .pointer (some ⟨w.heap.size + 1, 0, none⟩)]] : List Value).toArray 96)
 rw [show (((w.alloc (.cells (planC x).toArray 45)).alloc (.cells (planC y).toArray 45)).alloc (.cells (planC plan0).toArray 45)).heap.size = w.heap.size + 1 + 1 + 1 from by simp] at hr4
 refine (HT.out _ (HW.out.1.ext x34) _ hr4).mono ?_
 rintro e w2 ⟨rfl, hx2⟩
 have hx4 := x34.trans hx2
 have HA := Lib.hid (And.intro (HW.out.1.ext hx4) (And.intro (HW.out.2.1.ext hx4) (HW.out.2.2.1.trans hx4)))
 clear hr4 x34 hx2 hx4 HT h3
 have pb := HA.out.1.2
 have pa := HA.out.1.1
 have pc := HA.out.2.1
 unfold planC at pa pb
 obtain ⟨⟨a0, a1, a2, a3⟩, a4, a5, a6, a7⟩ := pa.p8 rfl
 obtain ⟨⟨b0, b1, b2, b3⟩, b4, b5, b6, b7⟩ := pb.p8 rfl
 obtain ⟨⟨c0, c1, c2, c3⟩, c4, c5, c6, c7⟩ := pc.p8 rfl
 obtain ⟨⟨f0, f1, f2, f3⟩, f4, f5, f6, f7⟩ := pc.f8
 clear HW pa pb pc
 by_cases hlt : K < 0
 · have HK := Lib.hid (HRS.out.trans (if_pos hlt))
   go_wp2
   clear a0 a1 a2 a3 a4 a5 a6 a7 b0 b1 b2 b3 b4 b5 b6 b7 c0 c1 c2 c3 c4 c5 c6 c7 f0 f1 f2 f3 f4 f5 f6 f7
   have r9 := put8_row (a0 := St y.keeper) (a1 := U y.round) (a2 := St y.live) (a3 := St y.by_) (a4 := U y.cap) (a5 := St y.owner) (a6 := U y.base) (a7 := .bool y.done) HA.out.2.1
   have x9 := put8_ext (g := w.heap.size + 1 + 1) (a0 := St y.keeper) (a1 := U y.round) (a2 := St y.live) (a3 := St y.by_) (a4 := U y.cap) (a5 := St y.owner) (a6 := U y.base) (a7 := .bool y.done) HA.out.2.2 (by omega)
   change bodyPost _ _ _ _ _ (put8 w2 (w.heap.size + 1 + 1) (St y.keeper) (U y.round) (St y.live) (St y.by_) (U y.cap) (St y.owner) (U y.base) (.bool y.done))
   generalize put8 w2 (w.heap.size + 1 + 1) (St y.keeper) (U y.round) (St y.live) (St y.by_) (U y.cap) (St y.owner) (U y.base) (.bool y.done) = W9 at *
   obtain ⟨⟨g0, g1, g2, g3⟩, g4, g5, g6, g7⟩ := r9.p8 rfl
   refine bodyPost_ret (v := planV y) (by simp [results, Tryz.f23, go_sem, g0, g1, g2, g3, g4, g5, g6, g7, planV]) rfl ?_
   exact ⟨by rw [HK.out]; rfl, x9⟩
 · have HK := Lib.hid (HRS.out.trans (if_neg hlt))
   go_wp2
   clear a0 a1 a2 a3 a4 a5 a6 a7 b0 b1 b2 b3 b4 b5 b6 b7 c0 c1 c2 c3 c4 c5 c6 c7 f0 f1 f2 f3 f4 f5 f6 f7
   have r9 := put8_row (a0 := St x.keeper) (a1 := U x.round) (a2 := St x.live) (a3 := St x.by_) (a4 := U x.cap) (a5 := St x.owner) (a6 := U x.base) (a7 := .bool x.done) HA.out.2.1
   have x9 := put8_ext (g := w.heap.size + 1 + 1) (a0 := St x.keeper) (a1 := U x.round) (a2 := St x.live) (a3 := St x.by_) (a4 := U x.cap) (a5 := St x.owner) (a6 := U x.base) (a7 := .bool x.done) HA.out.2.2 (by omega)
   change bodyPost _ _ _ _ _ (put8 w2 (w.heap.size + 1 + 1) (St x.keeper) (U x.round) (St x.live) (St x.by_) (U x.cap) (St x.owner) (U x.base) (.bool x.done))
   generalize put8 w2 (w.heap.size + 1 + 1) (St x.keeper) (U x.round) (St x.live) (St x.by_) (U x.cap) (St x.owner) (U x.base) (.bool x.done) = W9 at *
   obtain ⟨⟨g0, g1, g2, g3⟩, g4, g5, g6, g7⟩ := r9.p8 rfl
   refine bodyPost_ret (v := planV x) (by simp [results, Tryz.f23, go_sem, g0, g1, g2, g3, g4, g5, g6, g7, planV]) rfl ?_
   exact ⟨by rw [HK.out]; rfl, x9⟩
end Go.Proofs.YtblkikjmocnllaaGreatDoor
namespace Go.Proofs.YtblkikjmocnllaaGreatDoor
open Go.RowKit Go.Shelf
section
set_option maxRecDepth 100000
theorem eqIn_span (d : Nat) (x : Span) (w : World) : (Op.equalIn (d + 1 + 1) 76 (.agg #[I x.1, I x.2]) (.agg #[I x.1, I x.2])).run Tryz.prog w = .ok true w := by
 have hS : Tryz.prog.underlying 76 = some (.struct (Tryz.prog.fieldsOf 76)) := by kernel_rfl
 have hp : Tryz.prog.stoodInHeld 76 = false := by kernel_rfl
 have u1 := Tryz.underlying3
 have a1 := Tryz.isAgg3
 have z1 := Tryz.sizeOf3
 rw [run_equalIn_agg w (d + 1) 76 _ _ hS hp]
 simp only [Program.fieldsOf, Tryz.underlying76]
 go_simp
theorem eqIn_word (d : Nat) (x : Word) (w : World) : (Op.equalIn (d + 1 + 1) 71 (wordV x) (wordV x)).run Tryz.prog w = .ok true w := by
 have hS : Tryz.prog.underlying 71 = some (.struct (Tryz.prog.fieldsOf 71)) := by kernel_rfl
 have hp : Tryz.prog.stoodInHeld 71 = false := by kernel_rfl
 have u1 := Tryz.underlying9
 have u2 := Tryz.underlying23
 have u3 := Tryz.underlying4
 have a1 := Tryz.isAgg9
 have a2 := Tryz.isAgg23
 have a3 := Tryz.isAgg4
 have z1 := Tryz.sizeOf9
 have z2 := Tryz.sizeOf23
 have z3 := Tryz.sizeOf4
 unfold wordV
 rw [run_equalIn_agg w (d + 1) 71 _ _ hS hp]
 simp only [Program.fieldsOf, Tryz.underlying71]
 go_simp
theorem eqIn_pruned (d : Nat) (a c : Str) (b e : Nat) (w : World) : (Op.equalIn (d + 1 + 1) 43 (.agg #[St a, U b, St c, U e]) (.agg #[St a, U b, St c, U e])).run Tryz.prog w = .ok true w := by
 have hS : Tryz.prog.underlying 43 = some (.struct (Tryz.prog.fieldsOf 43)) := by kernel_rfl
 have hp : Tryz.prog.stoodInHeld 43 = false := by kernel_rfl
 have u1 := Tryz.underlying9
 have u2 := Tryz.underlying23
 have a1 := Tryz.isAgg9
 have a2 := Tryz.isAgg23
 have z1 := Tryz.sizeOf9
 have z2 := Tryz.sizeOf23
 rw [run_equalIn_agg w (d + 1) 43 _ _ hS hp]
 simp only [Program.fieldsOf, Tryz.underlying43]
 go_simp
theorem eqIn_plan (d : Nat) (p : Plan) (w : World) : (Op.equalIn (d + 1 + 1 + 1) 45 (planV p) (planV p)).run Tryz.prog w = .ok true w := by
 have hS : Tryz.prog.underlying 45 = some (.struct (Tryz.prog.fieldsOf 45)) := by kernel_rfl
 have hp : Tryz.prog.stoodInHeld 45 = false := by kernel_rfl
 have u1 := Tryz.underlying9
 have u2 := Tryz.underlying23
 have u3 := Tryz.underlying4
 have a1 := Tryz.isAgg9
 have a2 := Tryz.isAgg23
 have a3 := Tryz.isAgg4
 have a4 := Tryz.isAgg43
 have z1 := Tryz.sizeOf9
 have z2 := Tryz.sizeOf23
 have z3 := Tryz.sizeOf4
 have z4 := Tryz.sizeOf43
 have hq := fun w => eqIn_pruned d p.by_ p.owner p.cap p.base w
 unfold planV
 rw [run_equalIn_agg w (d + 1 + 1) 45 _ _ hS hp]
 simp only [Program.fieldsOf, Tryz.underlying45]
 go_simp
theorem eql_plan (p : Plan) (w : World) : (binOp .eql 45 (planV p) (planV p)).run Tryz.prog w = .ok (.bool true) w := by
 have h := eqIn_plan 9997 p w
 unfold planV at h ⊢
 rw [run_eql_struct, show (10000 : Nat) = 9997 + 1 + 1 + 1 from rfl, h]; rfl
theorem neq_span (x : Span) (w : World) : (binOp .neq 76 (.agg #[I x.1, I x.2]) (.agg #[I x.1, I x.2])).run Tryz.prog w = .ok (.bool false) w := by
 rw [run_neq_struct, show (10000 : Nat) = 9998 + 1 + 1 from rfl, eqIn_span]; rfl
theorem neq_word (x : Word) (w : World) : (binOp .neq 71 (wordV x) (wordV x)).run Tryz.prog w = .ok (.bool false) w := by
 have h := eqIn_word 9998 x w
 unfold wordV at h ⊢
 rw [run_neq_struct, show (10000 : Nat) = 9998 + 1 + 1 from rfl, h]; rfl
end
set_option maxRecDepth 100000 in
set_option maxHeartbeats 1000000 in
theorem equal_span {S S' : Nat → Prop} {va vb : Value} {A : List Span} {w : World} (ha : Sl spanT w S va A) (hb : Sl spanT w S' vb A) :
   Calls Tryz.prog 100 #[va, vb] w fun e w' => e = .returned (.bool true) ∧ ∃ n, w' = w.drewN n := by
 have ha' := ha
 have hb' := hb
 obtain ⟨Aa, ca, rfl, h1, h2⟩ := ha.form
 obtain ⟨Ab, cb, rfl, h3, h4⟩ := hb.form
 clear ha hb
 have HAT := Lib.hid (fun (pre post : List Span) (m : Span) (wr : World) (h : Ext w wr) (hl : A = pre ++ m :: post) => span_at ha' h hl)
 have HBT := Lib.hid (fun (pre post : List Span) (m : Span) (wr : World) (h : Ext w wr) (hl : A = pre ++ m :: post) => span_at hb' h hl)
 have k0 : ((A.length : Int) != (A.length : Int)) = false := by simp
 clear ha' hb'
 have hgd : Tryz.prog.eqGuardType Tryz.prog.depth 76 = false := by kernel_rfl
 go_enter Tryz.func100, Tryz.ntmps100
 go_wp2_with fail
 clear k0
 go_loopw [13] (fun i wr => ∃ pre pa, A = pre ++ pa ∧ i = I pre.length ∧ ∃ n, wr = w.drewN n) (fun i _ => A.length - (intOf i).toNat)
 case atStart => exact ⟨[], A, rfl, rfl, 0, rfl⟩
 case round =>
   obtain ⟨pre, pa, hla, rfl, nn, rfl⟩ := hrel
   cases pa with
   | cons x pa =>
     have hq1 := HAT.out pre pa x w (Ext.refl _) hla
     have hq2 := HBT.out pre pa x w (Ext.refl _) hla
     obtain ⟨b1, o1, rfl, p0, p1⟩ := hq1
     obtain ⟨b2, o2, rfl, q0, q1⟩ := hq2
     have hlt : pre.length < A.length := by rw [hla]; simp
     have HLA := Lib.hid hla
     have hne := fun W => neq_span x W
     clear hla
     go_wp2_with fail
     go_quiet (fail)
     go_wp2_with fail
     go_roundw
     case rel => exact ⟨pre ++ [x], pa, by rw [HLA.out]; simp, by simp, _, rfl⟩
     case measure => simp [intOf]; omega
   | nil =>
     rw [List.append_nil] at hla
     have hlen : A.length = pre.length := by rw [hla]
     clear hla
     go_wp2_with fail
     go_ret
     exact ⟨rfl, nn, rfl⟩
set_option maxRecDepth 100000 in
set_option maxHeartbeats 1000000 in
theorem equal_word {S S' : Nat → Prop} {va vb : Value} {A : List Word} {w : World} (ha : Sl wordT w S va A) (hb : Sl wordT w S' vb A) :
   Calls Tryz.prog 101 #[va, vb] w fun e w' => e = .returned (.bool true) ∧ ∃ n, w' = w.drewN n := by
 have ha' := ha
 have hb' := hb
 obtain ⟨Aa, ca, rfl, h1, h2⟩ := ha.form
 obtain ⟨Ab, cb, rfl, h3, h4⟩ := hb.form
 clear ha hb
 have HAT := Lib.hid (fun (pre post : List Word) (m : Word) (wr : World) (h : Ext w wr) (hl : A = pre ++ m :: post) => word_at ha' h hl)
 have HBT := Lib.hid (fun (pre post : List Word) (m : Word) (wr : World) (h : Ext w wr) (hl : A = pre ++ m :: post) => word_at hb' h hl)
 have k0 : ((A.length : Int) != (A.length : Int)) = false := by simp
 clear ha' hb'
 have hgd : Tryz.prog.eqGuardType Tryz.prog.depth 71 = false := by kernel_rfl
 go_enter Tryz.func101, Tryz.ntmps101
 go_wp2_with fail
 clear k0
 go_loopw [13] (fun i wr => ∃ pre pa, A = pre ++ pa ∧ i = I pre.length ∧ ∃ n, wr = w.drewN n) (fun i _ => A.length - (intOf i).toNat)
 case atStart => exact ⟨[], A, rfl, rfl, 0, rfl⟩
 case round =>
   obtain ⟨pre, pa, hla, rfl, nn, rfl⟩ := hrel
   cases pa with
   | cons x pa =>
     have hq1 := HAT.out pre pa x w (Ext.refl _) hla
     have hq2 := HBT.out pre pa x w (Ext.refl _) hla
     obtain ⟨b1, o1, rfl, p0, p1, p2, p3, p4, p5, p6⟩ := hq1
     obtain ⟨b2, o2, rfl, q0, q1, q2, q3, q4, q5, q6⟩ := hq2
     have hlt : pre.length < A.length := by rw [hla]; simp
     have HLA := Lib.hid hla
     have hne := fun W => neq_word x W
     unfold wordV at hne
     clear hla
     go_wp2_with fail
     go_quiet (fail)
     go_wp2_with fail
     go_roundw
     case rel => exact ⟨pre ++ [x], pa, by rw [HLA.out]; simp, by simp, _, rfl⟩
     case measure => simp [intOf]; omega
   | nil =>
     rw [List.append_nil] at hla
     have hlen : A.length = pre.length := by rw [hla]
     clear hla
     go_wp2_with fail
     go_ret
     exact ⟨rfl, nn, rfl⟩
end Go.Proofs.YtblkikjmocnllaaGreatDoor
namespace Go.Proofs.YtblkikjmocnllaaGreatDoor
open Go.RowKit Go.Shelf
theorem dig_ofNat {d : Nat} (h : d < 10) : (UInt8.ofNat (48 + d)).toNat = 48 + d := by
 rw [UInt8.toNat_ofNat']
 omega
theorem dec_step {u : Nat} (h : ¬ u < 10) : Lib.decDigits u = Lib.decDigits (u / 10) ++ [UInt8.ofNat (48 + u % 10)] := by rw [Lib.decDigits, dif_neg h]
theorem dec_dig (u : Nat) : (Lib.decDigits u).all digB = true := by
 induction u using Nat.strongRecOn with
 | _ u ih =>
   by_cases h : u < 10
   · rw [Lib.decDigits_one h]
     simp only [List.all_cons, List.all_nil, Bool.and_true, digB, dig_ofNat h, Bool.and_eq_true, decide_eq_true_eq]
     omega
   · rw [dec_step h, List.all_append, ih (u / 10) (by omega)]
     simp only [List.all_cons, List.all_nil, Bool.and_true, digB, dig_ofNat (show u % 10 < 10 by omega), Bool.and_eq_true, decide_eq_true_eq, Bool.true_and]
     omega
theorem dec_val (u : Nat) : digV (Lib.decDigits u) 0 = u := by
 induction u using Nat.strongRecOn with
 | _ u ih =>
   by_cases h : u < 10
   · rw [Lib.decDigits_one h]
     simp only [digV, dig_ofNat h]
     omega
   · rw [dec_step h, digV_append, ih (u / 10) (by omega)]
     simp only [digV, dig_ofNat (show u % 10 < 10 by omega)]
     omega
theorem dec_head {u : Nat} (h1 : 1 ≤ u) : ∃ b r, Lib.decDigits u = b :: r ∧ b ≠ 48 := by
 induction u using Nat.strongRecOn with
 | _ u ih =>
   by_cases h : u < 10
   · refine ⟨_, [], Lib.decDigits_one h, fun e => ?_⟩
     have := congrArg UInt8.toNat e
     rw [dig_ofNat h] at this
     have h48 : (48 : UInt8).toNat = 48 := rfl
     omega
   · obtain ⟨b, r, e, hb⟩ := ih (u / 10) (by omega) (by omega)
     exact ⟨b, r ++ [UInt8.ofNat (48 + u % 10)], by rw [dec_step h, e]; rfl, hb⟩
theorem dec_len {u : Nat} (h : u ≤ 1073741824) : (Lib.decDigits u).length ≤ 10 := by
 rw [Lib.decDigits_length]
 have h1 := Lib.nDigits_pos u
 by_cases h0 : u = 0
 · subst h0; rw [Lib.nDigits_small (by omega)]; omega
 · apply Nat.le_of_not_lt
   intro hc
   have key : ∀ (k v : Nat), Lib.nDigits v = k + 1 → 1 ≤ k → 10 ^ k ≤ v := by
     intro k
     induction k with
     | zero => intro v _ h; omega
     | succ k ih =>
       intro v hv _
       by_cases hs : v < 10
       · rw [Lib.nDigits_small hs] at hv; omega
       · rw [Lib.nDigits_big hs] at hv
         by_cases hk : 1 ≤ k
         · have := ih (v / 10) (by omega) hk
           rw [Nat.pow_succ]
           omega
         · have : k = 0 := by omega
           subst this
           simp
           omega
   have h2 := key (Lib.nDigits u - 1) u (by omega) (by omega)
   have h3 : 10 ^ 10 ≤ 10 ^ (Lib.nDigits u - 1) := Nat.pow_le_pow_right (by decide) (by omega)
   have h4 : (10 : Nat) ^ 10 = 10000000000 := by decide
   omega
theorem numS_dec {u : Nat} (h1 : 1 ≤ u) (h2 : u ≤ 1073741824) : numS (Lib.decDigits u) = u := by
 obtain ⟨b, r, e, hb⟩ := dec_head h1
 have hl := dec_len h2
 have hd := dec_dig u
 have hv := dec_val u
 unfold numS
 rw [hv, hd]
 have hne : (Lib.decDigits u).isEmpty = false := by rw [e]; rfl
 have hh : ((Lib.decDigits u).head? == some 48) = false := by
   rw [e]
   simp only [List.head?_cons]
   exact beq_eq_false_iff_ne.2 (fun h => hb (by injection h))
 rw [hne, hh, decide_eq_false (by omega)]
 simp
 omega
theorem numS_form {s : Str} (h : numS s ≠ 0) : s = Lib.decDigits (numS s) :=
 have h1 : numS (Lib.decDigits (numS s)) = numS s := numS_dec (by omega) (numS_le s)
 numS_inj h1.symm h
theorem childP_ok {p c : Str} {n : Int} (h : childP p n = (c, 0)) : 1 ≤ n ∧ n ≤ 1073741824 ∧ 0 < deepP p ∧ deepP p < 8 ∧ c = p ++ 46 :: Lib.decDigits n.toNat := by
 unfold childP at h
 split at h
 · injection h with h1 h2; cases h2
 · split at h
   · injection h with h1 h2; cases h2
   · split at h
     · injection h with h1 h2; cases h2
     · rename_i h1 h2 h3
       have hn : 1 ≤ n := by omega
       rw [itoa_pos hn] at h
       injection h with h4 h5
       have := splitP_len p
       unfold deepP at *
       exact ⟨hn, by omega, by omega, by omega, h4.symm⟩
theorem dot_free {u : Nat} : (46 : UInt8) ∉ Lib.decDigits u := by
 intro h
 have := List.all_eq_true.1 (dec_dig u) _ h
 simp [digB] at this
theorem childP_split {p c : Str} {n : Int} (h : childP p n = (c, 0)) : splitP c = splitP p ++ [n.toNat] := by
 obtain ⟨h1, h2, h3, h4, rfl⟩ := childP_ok h
 obtain ⟨e, hz⟩ := splitP_some (p := p) (fun h => by unfold deepP at h3; rw [h] at h3; simp at h3)
 have hs := splitC_last (c := 46) p (dot_free (u := n.toNat))
 have hn : numS (Lib.decDigits n.toNat) = n.toNat := numS_dec (by omega) (by omega)
 conv => lhs; unfold splitP
 simp only [hs, List.map_append, List.map_cons, List.map_nil, hn]
 rw [← e]
 have hall : (splitP p ++ [n.toNat]).all (· != 0) = true := by
   rw [List.all_eq_true]
   intro x hx
   rcases List.mem_append.1 hx with hx | hx
   · rw [e] at hx
     simpa using hz x hx
   · rw [List.mem_singleton] at hx
     subst hx
     simp; omega
 have hlen : (splitP p ++ [n.toNat]).length ≤ 8 := by simp; unfold deepP at h4; omega
 have hh : (splitP p ++ [n.toNat]).head? = some 1 := by
   have := splitP_head (p := p) (fun h => by unfold deepP at h3; rw [h] at h3; simp at h3)
   rw [List.head?_append, this]; rfl
 rw [hall, hh, decide_eq_true hlen]
 rfl
theorem childP_par {p c : Str} {n : Int} (h : childP p n = (c, 0)) : parP c = p := by
 have hs := childP_split h
 obtain ⟨h1, h2, h3, h4, hc⟩ := childP_ok h
 have h5 : splitP (parP c) = splitP p := by rw [parP_split, hs]; simp
 exact splitP_inj h5 (by rw [h5]; intro h; unfold deepP at h3; rw [h] at h3; simp at h3)
theorem childP_num {p c : Str} {n : Int} (h : childP p n = (c, 0)) : (numP c : Int) = n := by
 have hs := childP_split h
 obtain ⟨h1, h2, h3, h4, hc⟩ := childP_ok h
 unfold numP deepP
 rw [hs]
 unfold deepP at h3
 rw [if_neg (by simp; omega)]
 simp
 omega
theorem childP_deep {p c : Str} {n : Int} (h : childP p n = (c, 0)) : deepP c = deepP p + 1 := by unfold deepP; rw [childP_split h]; simp
theorem conv_one (W : World) (T : TypeId) (d : Nat) (h : d < 256) (z : Int) (hz : z = (d : Int)) : (convert 139 9 (.slice (some ⟨W.heap.size, 0, none⟩) 1 1)).run Tryz.prog (W.alloc (.cells #[.int .u8 z] T)) = .ok (.string ⟨#[UInt8.ofNat d]⟩) (W.alloc (.cells #[.int .u8 z] T)) := by
 have h2 := run_convert_bytes_back (P := Tryz.prog) (W.alloc (.cells #[.int .u8 z] T)) 139 9 5 ⟨W.heap.size, 0, none⟩ 1 [UInt8.ofNat d] Tryz.underlying139 Tryz.underlying5 Tryz.underlying9 (fun j hj => by
   have hj0 : j = 0 := by simpa using hj
   subst hj0
   simp only [List.getElem_cons_zero]
   rw [UInt8.toNat_ofNat', show d % 2 ^ 8 = d by omega, ← hz]
   have := (rowNew W T [.int .u8 z]).cell (j := 0) rfl
   exact this)
 exact h2
set_option maxRecDepth 100000 in
set_option maxHeartbeats 2000000 in
theorem refNum_any (n : Nat) (hn : n ≤ 4611686018427387904) (w : World) : Calls Tryz.prog 78 #[I n] w fun e w' => e = .returned (St (Lib.decDigits n)) ∧ Ext w w' := by
 go_enter Tryz.func78, Tryz.ntmps78
 go_wp2_with fail
 go_loopw [0, 3] (fun m s wr => ∃ (k : Nat) (acc : Str), m = I k ∧ s = St acc ∧ k ≤ 4611686018427387904 ∧ Hid (Lib.decDigits n = Lib.decDigits k ++ acc) ∧ Ext w wr) (fun m _ _ => (intOf m).toNat)
 case atStart => exact ⟨n, [], rfl, rfl, hn, Lib.hid (by simp), Ext.refl _⟩
 case round =>
   obtain ⟨k, acc, rfl, rfl, hk, hd, hx⟩ := hrel
   have hal : acc.length ≤ 4611686018427387905 := by
     have h1 := digits_len n
     rw [hd.out, List.length_append] at h1
     omega
   by_cases hlt : k < 10
   · have e1 : ¬ (k : Int) > 9 := by omega
     have hcv := conv_one wr 5 (48 + k) (by omega) (48 + (k : Int)) (by omega)
     have HF := Lib.hid (show (⟨#[UInt8.ofNat (48 + k)]⟩ : ByteArray) ++ ⟨acc.toArray⟩ = ⟨(Lib.decDigits n).toArray⟩ by rw [hd.out, Lib.decDigits_one hlt]; exact bytes_append [_] acc)
     have HX := Lib.hid hx
     generalize UInt8.ofNat (48 + k) = dd at *
     clear hd hx hlt
     go_wp2_with fail
     go_ret
     exact ⟨congrArg (fun b => Ending.returned (Value.string b)) HF.out, HX.out.alloc _⟩
   · have e1 : (k : Int) > 9 := by omega
     have hcv := conv_one wr 5 (48 + k % 10) (by omega) (48 + (k : Int) % 10) (by omega)
     have HX := Lib.hid hx
     have HD := Lib.hid (show Lib.decDigits n = Lib.decDigits (k / 10) ++ (UInt8.ofNat (48 + k % 10) :: acc) by rw [hd.out, dec_step hlt]; simp)
     have HB := Lib.hid (show (⟨#[UInt8.ofNat (48 + k % 10)]⟩ : ByteArray) ++ ⟨acc.toArray⟩ = ⟨(UInt8.ofNat (48 + k % 10) :: acc).toArray⟩ from bytes_append [_] acc)
     generalize UInt8.ofNat (48 + k % 10) = dd at *
     clear hd hx hlt
     go_wp2_with fail
     go_roundw
     case rel => exact ⟨k / 10, dd :: acc, rfl, congrArg Value.string HB.out, by omega, Lib.hid HD.out, HX.out.alloc _⟩
     case measure => simp [intOf]; omega
end Go.Proofs.YtblkikjmocnllaaGreatDoor
