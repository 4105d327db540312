/- MemberVoid's plain law. No program in sight. -/
import Derived.Test.YtblkikjmocnllaaGreatDoorQv29
import Derived.Test.YtblkikjmocnllaaGreatDoorQv31
import Derived.Test.YtblkikjmocnllaaGreatDoorQv21
set_option linter.unusedVariables false
set_option linter.unusedSimpArgs false
set_option linter.unusedSectionVars false
namespace Go.Proofs.YtblkikjmocnllaaGreatDoor
theorem findP_path {l : List Mbr} {p : Str} {x : Mbr} (h : findP l p = some x) : x.path = p := by
 unfold findP at h
 simpa using List.find?_some h
theorem findP_mem {l : List Mbr} {p : Str} {x : Mbr} (h : findP l p = some x) : x ∈ l := List.mem_of_find?_eq_some h
theorem findP_append (a b : List Mbr) (p : Str) : findP (a ++ b) p = (findP a p).or (findP b p) := by unfold findP; rw [List.find?_append]
theorem findP_cons (x : Mbr) (l : List Mbr) (p : Str) : findP (x :: l) p = if x.path = p then some x else findP l p := by
 unfold findP
 rw [List.find?_cons]
 by_cases h : x.path = p <;> simp [h]
theorem findP_filter (f : Str → Bool) (l : List Mbr) (p : Str) : findP (l.filter fun x => f x.path) p = if f p then findP l p else none := by
 induction l with
 | nil => simp [findP]
 | cons x l ih =>
   rw [List.filter_cons]
   by_cases hx : x.path = p
   · subst hx
     have hb : (f x.path = true) ∨ ¬ (f x.path = true) := Classical.em _
     have e : findP (x :: l) x.path = some x := by rw [findP_cons, if_pos rfl]
     split
     · rename_i h
       rw [e, findP_cons, if_pos rfl]
     · rename_i h
       rw [ih]
       simp [h]
   · have e : findP (x :: l) p = findP l p := by rw [findP_cons, if_neg hx]
     split
     · rw [findP_cons, if_neg hx, ih, e]
     · rw [ih, e]
theorem findP_map {f : Mbr → Mbr} (hf : ∀ m, (f m).path = m.path) (l : List Mbr) (p : Str) : findP (l.map f) p = (findP l p).map f := by
 induction l with
 | nil => rfl
 | cons x l ih =>
   rw [List.map_cons, findP_cons, findP_cons, hf]
   split
   · rfl
   · exact ih
theorem findP_put (l : List Mbr) (m : Mbr) (p : Str) : findP (putM l m) p = if p = m.path then some m else findP l p := by
 have hd : findP (dropP l m.path) p = if p = m.path then none else findP l p := by
   unfold dropP
   rw [findP_filter (fun q => !decide (q = m.path))]
   by_cases h : p = m.path <;> simp [h]
 unfold putM
 generalize posM (dropP l m.path) m.path = i
 have hs : findP (dropP l m.path) p = (findP ((dropP l m.path).take i) p).or (findP ((dropP l m.path).drop i) p) := by rw [← findP_append, List.take_append_drop]
 rw [findP_append, findP_cons]
 by_cases h : p = m.path
 · rw [if_pos h]
   rw [hd, if_pos h] at hs
   have h1 : findP ((dropP l m.path).take i) p = none := by
     cases hq : findP ((dropP l m.path).take i) p with
     | none => rfl
     | some y => rw [hq] at hs; cases hs
   rw [h1, if_pos h.symm]; rfl
 · rw [if_neg (fun e => h e.symm), if_neg h, ← hs, hd, if_neg h]
theorem findP_voided (l : List Mbr) (p : Str) : findP (voidedM l) p = (findP l p).map (vset l) := findP_map (vset_path l) l p
theorem any_same {α : Type} {f g : α → Bool} : ∀ {l : List α}, (∀ x ∈ l, f x = g x) → l.any f = l.any g
 | [], _ => rfl
 | x :: l, h => by rw [List.any_cons, List.any_cons, h x (by simp), any_same fun y hy => h y (List.mem_cons_of_mem _ hy)]
theorem goneAt_voided (l : List Mbr) (q : Str) : goneAt (voidedM l) q = goneAt l q := by
 unfold goneAt
 have h1 := at_find (voidedM l) (parP q)
 have h2 := at_find l (parP q)
 unfold atP at h1 h2
 rw [h1, h2, findP_voided]
 cases findP l (parP q) with
 | none => rfl
 | some x => simp only [Option.map_some]; rw [vset_gone]
theorem forgotten_voided (l : List Mbr) (q : Str) : forgottenM (voidedM l) q = forgottenM l q := by
 unfold forgottenM
 congr 1
 exact any_same fun x _ => goneAt_voided l x
theorem findP_bare (l : List Mbr) (p : Str) : findP (bareM l) p = if forgottenM l p then none else (findP l p).map fun x => wordsM (leftM (voidedM l)) (vset l x) := by
 unfold bareM
 rw [findP_map (f := wordsM (leftM (voidedM l))) (fun _ => rfl)]
 unfold leftM
 rw [findP_filter (fun q => !forgottenM (voidedM l) q), forgotten_voided, findP_voided]
 cases forgottenM l p with
 | true => rfl
 | false => cases findP l p <;> rfl
theorem goneAt_find (l : List Mbr) (q : Str) : goneAt l q = match findP l (parP q) with | some x => withinL x.gone (numP q) | none => false := by
 have h2 := at_find l (parP q)
 unfold atP at h2
 unfold goneAt
 rw [h2]
 cases findP l (parP q) <;> rfl
theorem voidM_find (l : List Mbr) (q : Str) : voidM l q = match findP l (parP q) with | some x => cutsM x q | none => false := by
 have h2 := at_find l (parP q)
 unfold atP at h2
 unfold voidM
 rw [h2]
 cases findP l (parP q) <;> rfl
theorem vIn_find (l : List Mbr) (n : Nat) (p : Str) : vIn l (n + 1) p = match findP l (parP p) with | none => false | some x => if vIn l n (parP p) then decide (1 ≤ numP p) else cutsM x p := by
 rw [vIn, at_find]
 cases findP l (parP p) <;> rfl
theorem chkF_tail {α : Type} {ok : α → Bool} {le : α → α → Bool} : ∀ {l : List α} {t : α}, chkF ok le (some t) l = true → ∀ y ∈ l, ∃ s, le s y = true
 | [], _, _, y, hy => by cases hy
 | x :: r, t, h, y, hy => by
   simp [chkF] at h
   rcases List.mem_cons.1 hy with rfl | hy
   · exact ⟨t, h.1.2⟩
   · exact chkF_tail h.2 y hy
structure MayF (l : List Mbr) : Prop where
 len : l.length ≤ 24
 pos : 0 < l.length
 ok : ∀ x ∈ l, okM l x = true
 par : ∀ x ∈ l, x.path ≠ [49] → parOk l x.path = true
theorem may_facts {l : List Mbr} (h : may20 l = true) : MayF l := by
 unfold may20 at h
 cases hl : l.head? with
 | none => rw [hl] at h; cases h
 | some f =>
   rw [hl] at h
   simp only [Bool.and_eq_true, decide_eq_true_eq] at h
   obtain ⟨h1, h2, h3, h4⟩ := h
   cases l with
   | nil => cases hl
   | cons x r =>
     injection hl with hl
     subst hl
     refine ⟨h1, by simp, chkF_ok h4, ?_⟩
     intro y hy hne
     rcases List.mem_cons.1 hy with rfl | hy
     · exact absurd h2 hne
     · simp [chkF] at h4
       obtain ⟨s, hs⟩ := chkF_tail h4.2 y hy
       unfold leM at hs
       simp only [Bool.and_eq_true] at hs
       exact hs.2
theorem ok_parts {l : List Mbr} {x : Mbr} (h : okM l x = true) : mayP x.path = true ∧ forgottenM l x.path = false ∧ (voidM l x.path = true → x.status = 4 ∧ x.cut = 1) ∧ FieldsM x := by
 unfold okM at h
 simp only [Bool.and_eq_true, Bool.or_eq_true, Bool.not_eq_true', decide_eq_true_eq] at h
 obtain ⟨h1, h2, h3, h4, -⟩ := h
 refine ⟨h1, h2, fun hv => ?_, h4⟩
 rcases h3 with h3 | h3
 · rw [h3] at hv; cases hv
 · exact h3
theorem vIn_void {l : List Mbr} (hok : ∀ x ∈ l, voidM l x.path = true → x.status = 4 ∧ x.cut = 1) : ∀ (n : Nat) (p : Str), vIn l n p = true → voidM l p = true
 | 0, _, h => by cases h
 | n + 1, p, h => by
   rw [vIn_find] at h
   rw [voidM_find]
   cases hf : findP l (parP p) with
   | none => rw [hf] at h; cases h
   | some x =>
     rw [hf] at h
     simp only at h ⊢
     split at h
     · rename_i hv
       have h1 := vIn_void hok n _ hv
       rw [← findP_path hf] at h1
       obtain ⟨h2, h3⟩ := hok x (findP_mem hf) h1
       unfold cutsM
       rw [h2, h3]
       simp at h ⊢
       omega
     · exact h
theorem void_in {l : List Mbr} {p : Str} (h : voidM l p = true) : voidIn l p = true := by
 rw [voidM_find] at h
 unfold voidIn
 rw [vIn_find]
 cases hf : findP l (parP p) with
 | none => rw [hf] at h; cases h
 | some x =>
   rw [hf] at h
   simp only at h ⊢
   split
   · unfold cutsM at h
     simp only [Bool.and_eq_true, decide_eq_true_eq] at h
     simp; omega
   · exact h
theorem voidIn_is {l : List Mbr} (hok : ∀ x ∈ l, voidM l x.path = true → x.status = 4 ∧ x.cut = 1) (p : Str) : voidIn l p = voidM l p := by
 cases h : voidM l p with
 | true => exact void_in h
 | false =>
   cases h2 : voidIn l p with
   | false => rfl
   | true => rw [vIn_void hok _ _ h2] at h; cases h
def sameVoid (a b : Option Mbr) : Prop := (a.map fun x => (x.status, x.cut)) = b.map fun x => (x.status, x.cut)
theorem vIn_same {a l : List Mbr} {d : Nat} (h : ∀ q, deepP q < d → sameVoid (findP a q) (findP l q)) : ∀ (n : Nat) (p : Str), 0 < deepP p → deepP p ≤ d → vIn a n p = vIn l n p
 | 0, _, _, _ => rfl
 | n + 1, p, h0, hp => by
   rw [vIn_find, vIn_find]
   have hd := parP_deep p
   have h1 := h (parP p) (by omega)
   unfold sameVoid at h1
   by_cases h2 : deepP p < 2
   · have e0 : ∀ x, cutsM x p = false := fun x => cutsM_short h2
     have en : numP p = 0 := numP_le h2
     cases findP a (parP p) <;> cases findP l (parP p) <;> simp [e0, en]
   · have ih := vIn_same h n (parP p) (by omega) (by omega)
     rw [ih]
     cases ha : findP a (parP p) with
     | none =>
       cases hb : findP l (parP p) with
       | none => rfl
       | some y => rw [ha, hb] at h1; cases h1
     | some x =>
       cases hb : findP l (parP p) with
       | none => rw [ha, hb] at h1; cases h1
       | some y =>
         rw [ha, hb] at h1
         simp only [Option.map_some, Option.some.injEq, Prod.mk.injEq] at h1
         simp only [cutsM, h1.1, h1.2]
def sameGone (a b : Option Mbr) : Prop := (a.map fun x => x.gone) = b.map fun x => x.gone
theorem goneAt_same {a l : List Mbr} {q : Str} (h : sameGone (findP a (parP q)) (findP l (parP q))) : goneAt a q = goneAt l q := by
 rw [goneAt_find, goneAt_find]
 unfold sameGone at h
 cases ha : findP a (parP q) with
 | none =>
   cases hb : findP l (parP q) with
   | none => rfl
   | some y => rw [ha, hb] at h; cases h
 | some x =>
   cases hb : findP l (parP q) with
   | none => rw [ha, hb] at h; cases h
   | some y =>
     rw [ha, hb] at h
     simp only [Option.map_some, Option.some.injEq] at h
     simp only [h]
theorem chain_deep : ∀ (n : Nat) (p q : Str), q ∈ chainF n p → deepP q < deepP p
 | 0, p, q, h => by simp [chainF] at h
 | n + 1, p, q, h => by
   rw [chainF] at h
   split at h
   · cases h
   · rename_i hne
     have hd := parP_deep p
     have hp : 2 ≤ deepP p := by
       apply Nat.le_of_not_lt
       intro hc
       exact hne (by unfold parP; rw [if_pos hc])
     rcases List.mem_cons.1 h with rfl | h
     · omega
     · have := chain_deep n _ q h
       omega
theorem chain_may : ∀ (n : Nat) (p q : Str), q ∈ chainF n p → 0 < deepP q
 | 0, p, q, h => by simp [chainF] at h
 | n + 1, p, q, h => by
   rw [chainF] at h
   split at h
   · cases h
   · rename_i hne
     have hd := parP_deep p
     have hp : 2 ≤ deepP p := by
       apply Nat.le_of_not_lt
       intro hc
       exact hne (by unfold parP; rw [if_pos hc])
     rcases List.mem_cons.1 h with rfl | h
     · omega
     · exact chain_may n _ q h
theorem deep_par_ne {p q : Str} (h : deepP p < deepP q) : p ≠ q := fun e => by rw [e] at h; omega
theorem void_law {l : List Mbr} {path child grand : Str} {m : Mbr} {k : Int} (hmay : may20 l = true) (hf : findP l path = some m) (hst : m.status = 4) (hc : childP path k = (child, 0)) (hn : findP l child = none) (hfo : forgottenM l child = false) (hg : childP child 1 = (grand, 0)) :
   ∃ x, findP (bareM (putM (putM l { m with kids := max m.kids k }) ⟨child, 2, 1, 0, 0, [], plan0, []⟩)) child = some x ∧ decide (x.status = 4) = decide (0 < m.cut ∧ m.cut ≤ k) ∧
     knownM (bareM (putM (putM l { m with kids := max m.kids k }) ⟨child, 2, 1, 0, 0, [], plan0, []⟩)) grand = if x.status = 4 then 4 else 0 := by
 have F := may_facts hmay
 obtain ⟨a, ha⟩ : ∃ a, putM (putM l { m with kids := max m.kids k }) ⟨child, 2, 1, 0, 0, [], plan0, []⟩ = a := ⟨_, rfl⟩
 rw [ha]
 have hmp := findP_path hf
 have hfa : ∀ q, findP a q = if q = child then some ⟨child, 2, 1, 0, 0, [], plan0, []⟩ else if q = path then some { m with kids := max m.kids k } else findP l q := by
   intro q
   rw [← ha, findP_put, findP_put]
   simp only [hmp]
 have hcp := childP_par hc
 have hcn := childP_num hc
 have hcd := childP_deep hc
 have hgp := childP_par hg
 have hgn := childP_num hg
 have hgd := childP_deep hg
 obtain ⟨hk1, hk2, hpd, -, -⟩ := childP_ok hc
 have hne : path ≠ child := deep_par_ne (by omega)
 have hsv : ∀ q, deepP q < deepP child → sameVoid (findP a q) (findP l q) := fun q hq => by
   unfold sameVoid
   rw [hfa, if_neg (deep_par_ne hq)]
   split
   · rename_i e; rw [e, hf]; rfl
   · rfl
 have hsg : ∀ q, deepP q < deepP child → sameGone (findP a q) (findP l q) := fun q hq => by
   unfold sameGone
   rw [hfa, if_neg (deep_par_ne hq)]
   split
   · rename_i e; rw [e, hf]; rfl
   · rfl
 have hokv : ∀ x ∈ l, voidM l x.path = true → x.status = 4 ∧ x.cut = 1 := fun x hx => (ok_parts (F.ok x hx)).2.2.1
 have hvp : voidIn a path = voidM l path := by
   rw [← voidIn_is hokv]
   exact vIn_same hsv 8 path hpd (by omega)
 have hvc : voidIn a child = decide (0 < m.cut ∧ m.cut ≤ k) := by
   have h8 := splitP_len child
   rw [voidIn_step, at_find, hcp, hfa, if_neg hne, if_pos rfl]
   simp only
   rw [hvp]
   have hcut : cutsM { m with kids := max m.kids k } child = decide (0 < m.cut ∧ m.cut ≤ k) := by
     unfold cutsM
     simp only [hst, decide_true, Bool.true_and, hcn]
     rw [Bool.eq_iff_iff]; simp
   cases hv : voidM l path with
   | true =>
     rw [← hmp] at hv
     obtain ⟨-, h2⟩ := hokv m (findP_mem hf) hv
     simp only [if_true]
     rw [h2, Bool.eq_iff_iff]
     simp; omega
   | false => simpa using hcut
 have hch : chainP child = path :: chainP path := by
   have := chainP_step child
   rw [hcp] at this
   rw [this, if_neg (mayP_ne (by unfold mayP; simpa using hpd))]
 have hfa2 : forgottenM a child = false := by
   have hmc : mayP child = true := by unfold mayP; simp; omega
   unfold forgottenM at hfo ⊢
   rw [hmc, Bool.true_and] at hfo ⊢
   rw [← hfo]
   refine any_same fun q hq => ?_
   have hqd : 0 < deepP q ∧ deepP q ≤ deepP child := by
     rcases List.mem_cons.1 hq with rfl | hq
     · omega
     · have := chain_deep _ _ _ hq
       have := chain_may _ _ _ hq
       omega
   exact goneAt_same (hsg _ (by rw [parP_deep]; omega))
 have hfc : findP (bareM a) child = some (wordsM (leftM (voidedM a)) (vset a ⟨child, 2, 1, 0, 0, [], plan0, []⟩)) := by
   rw [findP_bare, hfa2, hfa, if_pos rfl]
   rfl
 refine ⟨_, hfc, ?_, ?_⟩
 · show decide ((vset a ⟨child, 2, 1, 0, 0, [], plan0, []⟩).status = 4) = _
   unfold vset
   simp only
   rw [hvc]
   by_cases h : 0 < m.cut ∧ m.cut ≤ k
   · simp [h]
   · simp only [h, decide_false]; rfl
 have hgl : findP l grand = none := by
   cases hq : findP l grand with
   | none => rfl
   | some y =>
     exfalso
     have hy := findP_path hq
     have h1 := F.par y (findP_mem hq) (by
       rw [hy]
       intro e
       have hd1 : deepP [49] = 1 := by decide +kernel
       rw [e, hd1] at hgd
       omega)
     unfold parOk at h1
     rw [hy, hgp, at_find, hn] at h1
     cases h1
 have hag : findP a grand = none := by
   rw [hfa, if_neg (fun e => by rw [e] at hgd; omega), if_neg (fun e => by rw [e] at hgd; omega), hgl]
 have hbg : atP (bareM a) grand = none := by rw [at_find, findP_bare, hag]; split <;> rfl
 have hcg : chainP grand = child :: chainP child := by
   have := chainP_step grand
   rw [hgp] at this
   rw [this, if_neg (mayP_ne (by unfold mayP; simp; omega))]
 have hgb : ∀ q, goneAt (bareM a) q = true → goneAt a q = true := fun q hq => by
   rw [goneAt_find] at hq ⊢
   rw [findP_bare] at hq
   split at hq
   · rename_i y hy
     split at hy
     · cases hy
     · obtain ⟨z, hz1, hz2⟩ := Option.map_eq_some_iff.1 hy
       rw [hz1]
       simp only
       rw [← hz2] at hq
       have e : (wordsM (leftM (voidedM a)) (vset a z)).gone = z.gone := vset_gone a z
       rwa [e] at hq
   · cases hq
 have hfg : forgottenM (bareM a) grand = false := by
   unfold forgottenM
   rw [hcg, List.any_cons]
   have h1 : goneAt (bareM a) grand = false := by
     rw [goneAt_find, hgp, hfc]
     show withinL (vset a ⟨child, 2, 1, 0, 0, [], plan0, []⟩).gone _ = false
     rw [vset_gone]
     rfl
   rw [h1, Bool.false_or]
   have h2 : (child :: chainP child).any (goneAt (bareM a)) = false := by
     rw [List.any_eq_false]
     intro q hq hgt
     have hmc : mayP child = true := by unfold mayP; simp; omega
     unfold forgottenM at hfa2
     rw [hmc, Bool.true_and, List.any_eq_false] at hfa2
     exact hfa2 q hq (hgb q hgt)
   rw [h2, Bool.and_false]
 unfold knownM
 rw [hbg]
 simp only
 rw [hfg, hcg]
 simp only [Bool.false_eq_true, if_false]
 rw [voidChain, at_find, hfc]
 simp only
 show (if cutsM (wordsM (leftM (voidedM a)) (vset a ⟨child, 2, 1, 0, 0, [], plan0, []⟩)) grand then 4 else 0) = if (vset a ⟨child, 2, 1, 0, 0, [], plan0, []⟩).status = 4 then 4 else 0
 have hnum : (numP grand : Int) = 1 := hgn
 unfold vset
 simp only
 rw [hvc]
 by_cases h : 0 < m.cut ∧ m.cut ≤ k
 · have hn1 : numP grand = 1 := by omega
   simp [h, cutsM, wordsM, hn1]
 · simp only [h, decide_false]
   simp [cutsM, wordsM]
end Go.Proofs.YtblkikjmocnllaaGreatDoor
