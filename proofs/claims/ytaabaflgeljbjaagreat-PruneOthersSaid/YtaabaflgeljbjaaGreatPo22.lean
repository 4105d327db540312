/- Contracts and plain laws. -/
import Derived.Test.YtaabaflgeljbjaaGreatPo15
import Derived.Test.YtaabaflgeljbjaaGreatPo16
import Derived.Test.YtaabaflgeljbjaaGreatPo20
import Derived.Test.YtaabaflgeljbjaaGreatPo21
import Derived.Test.YtaabaflgeljbjaaGreatPo19
import Derived.Test.YtaabaflgeljbjaaGreatPo13
set_option linter.unusedVariables false
set_option linter.unusedSimpArgs false
set_option maxRecDepth 100000
set_option maxHeartbeats 40000000
namespace Go.Proofs.YtaabaflgeljbjaaGreat
section
open Go.RowKit Go.Shelf Go.Sort
theorem zpw {tid base:Nat} {v:Value} {l:List zan} {w:World} (h:Own w base tid 3 v l.length (l.flatMap zby)) {pre post:List zan} {m:zan} (hl:l=pre++m :: post) :
  ∃ g c,v=.slice (some ⟨g,0,none⟩) l.length c/\∀ w',Ext w w'->w'.cell? ⟨g,pre.length * 3,none⟩=some (St m.1)/\w'.cell? ⟨g,pre.length * 3+1,none⟩=some (St m.2.1)/\w'.cell? ⟨g,pre.length * 3+2,none⟩=some (U m.2.2):=by
 obtain⟨g,cap,cur,rfl,-,-,-⟩:=h.pos (by rw [hl];simp;omega);have hp:=zfj pre
 have e:∀ j,(zby m)[j]? = (l.flatMap zby)[pre.length * 3+j]? ∨ 3<=j:=fun j=>by
  rcases Nat.lt_or_ge j 3 with hj | hj
  ·left
   rw [hl,List.flatMap_append,List.flatMap_cons,<- hp,List.getElem?_append_right (by omega),Nat.add_sub_cancel_left,List.getElem?_append_left (by simp [zby];omega)]
  ·exact .inr hj
 refine ⟨g,cap,rfl,fun w' hx=>?_⟩;have h0:=(e 0).resolve_right (by omega);have h1:=(e 1).resolve_right (by omega);have h2:=(e 2).resolve_right (by omega);exact⟨hx.cell (h.cell rfl h0.symm),hx.cell (h.cell rfl h1.symm),hx.cell (h.cell rfl h2.symm)⟩
theorem zlp:∀ ps:List zan,(zdo ps).length<=ps.length:=by
 have:∀ (ps:List zan) (l:List Item),(ps.foldl zbq l).length<=l.length+ps.length:=by
  intro ps
  induction ps with
  | nil=>simp
  | cons p r ih =>
   intro l;rw [List.foldl_cons];refine Nat.le_trans (ih _) ?_
   have:(zbq l p).length<=l.length+1:=by
    unfold zbq
    split
    ·simp
    ·rename_i it he
     split
     ·have:l ≠ []:=by rintro rfl;simp at he
      have:=List.length_pos_iff.2 this;simp;(try omega)
     ·simp
   simp;omega
 intro ps
 simpa [zdo] using this ps []
theorem zmf {l:List Item} {p:zan} {n:Nat} (hl:∀ it ∈ l,it.2.length<=n):∀ it ∈ zbq l p,it.2.length<=n+1:=by
 intro it h;unfold zbq at h
 split at h
 ·simp at h;subst h;simp
 ·rename_i a ha;have ham:a ∈ l:=List.mem_of_getLast? ha
  split at h
  ·rcases List.mem_append.1 h with h | h
   ·exact Nat.le_succ_of_le (hl it (List.dropLast_subset _ h))
   ·simp at h;subst h;simp;exact hl a ham
  ·rcases List.mem_append.1 h with h | h
   ·exact Nat.le_succ_of_le (hl it h)
   ·simp at h;subst h;simp
theorem zpx (ps:List zan):∀ it ∈ zdo ps,it.2.length<=ps.length:=by
 have:∀ (ps:List zan) (l:List Item) (n:Nat),(∀ it ∈ l,it.2.length<=n)->∀ it ∈ ps.foldl zbq l,it.2.length<=n+ps.length:=by
  intro ps
  induction ps with
  | nil=>intro l n hl it h;exact hl it h
  | cons p r ih=>intro l n hl it h;have:=ih (zbq l p) (n+1) (zmf hl) it h;simp only [List.length_cons];omega
 intro it h;have:=this ps [] 0 (by simp) it h;omega
def zy4 (W:World) (base:Nat) (v:Value) (ps:List zan):Prop :=
 (ps = []/\v=.slice none 0 0) ∨ ∃ its last,zdo ps=its++[last]/\ItemsAt W base v its last
set_option maxRecDepth 100000 in
set_option maxHeartbeats 1000000 in
theorem zhn {p : Nat} {ks : List zan} {w : World} (hm : SetOf zat w p ks) (hL : ks.length <= 1099511627776) :
   Calls Tryz.prog 145 #[.map (some p)] w fun e w' => ∃ v', e = .returned v' /\ OwnL itemT 57 w' w.heap.size (fun b => w.heap.size <= b) v' (zbc ks) /\ Ext w w' := by
 have HK := zH (zua p w)
 have hxk := (Ext.refl w).alloc (.cells #[.map (some p)] 217)
 have HS := zH (zpv (B := w.heap.size) (by simp [go_sem]) (hm.ext hxk) hL)
 clear hm
 go_enter Tryz.func145, Tryz.ntmps145
 go_wp2_with fail
 refine HK.out.mono ?_
 rintro e wk ⟨rfl, rfl⟩
 go_wp2_with fail
 refine HS.out.mono ?_
 rintro e W2 ⟨vk, rfl, hks, hx2⟩
 have hkl : (zb7 (ltOf cmpP) ks).length = ks.length := (zbh _).length_eq
 have HI := zH (show zbc ks = zdo (zb7 (ltOf cmpP) ks) from rfl)
 generalize zb7 (ltOf cmpP) ks = qs at *
 have hkl2 : qs.length <= 1099511627776 := by omega
 clear hkl
 have HW2 := zH (hxk.trans hx2)
 have hff := hks.form
 obtain ⟨A, c, rfl, hc1, hc2⟩ := hff
 have HAT := zH (fun (pre post : List zan) (m : zan) (hl : qs = pre ++ m :: post) => zpw hks hl)
 clear hks hx2 hxk
 go_wp2_with fail
 go_loopw [4, 13] (fun l i wr => ∃ pre post, qs = pre ++ post /\ i = I pre.length /\ Hid (zy4 wr W2.heap.size l pre) /\ Ext W2 wr) (fun _ i _ => qs.length - (intOf i).toNat)
 case atStart => exact ⟨[], qs, rfl, rfl, zH (.inl ⟨rfl, rfl⟩), Ext.refl _⟩
 case round =>
   obtain ⟨pre, post, hl, rfl, hrow, hx⟩ := hrel
   cases post with
   | cons q post =>
     obtain ⟨gk, ck, e, hcells⟩ := HAT.out pre post q hl
     obtain ⟨rfl, rfl⟩ : A = some ⟨gk, 0, none⟩ /\ c = ck := by injection e with e1 e2 e3; exact ⟨e1, e3⟩
     obtain ⟨hd0, hd1, hd2⟩ := hcells wr hx
     have hlt : pre.length < qs.length := by rw [hl]; simp
     have HL := zH hl
     have hx1 := (Ext.refl wr).alloc (.cells #[St q.1, St q.2.1, U q.2.2] 220)
     have b0 : (wr.alloc (.cells #[St q.1, St q.2.1, U q.2.2] 220)).cell? ⟨wr.heap.size, 0, none⟩ = some (St q.1) := by simp [go_sem]
     have b1 : (wr.alloc (.cells #[St q.1, St q.2.1, U q.2.2] 220)).cell? ⟨wr.heap.size, 1, none⟩ = some (St q.2.1) := by simp [go_sem]
     have b2 : (wr.alloc (.cells #[St q.1, St q.2.1, U q.2.2] 220)).cell? ⟨wr.heap.size, 2, none⟩ = some (U q.2.2) := by simp [go_sem]
     have HX := zH (hx.trans hx1)
     have hn3 := hx.size
     have hsz1 : wr.heap.size + 1 <= (wr.alloc (.cells #[St q.1, St q.2.1, U q.2.2] 220)).heap.size := by simp
     have hsz2 : (wr.alloc (.cells #[St q.1, St q.2.1, U q.2.2] 220)).heap.size <= wr.heap.size + 1 := by simp
     clear hl hx e hcells
     rcases hrow.out with ⟨rfl, rfl⟩ | ⟨its, ⟨t, ds⟩, hg, hI⟩
     · clear hrow
       simp only [List.length_nil, Nat.zero_mul, Nat.zero_add] at hd0 hd1 hd2 hlt ⊢
       go_wp2_with fail
       generalize wr.alloc (.cells #[St q.1, St q.2.1, U q.2.2] 220) = W1 at *
       go_quiet (fail)
       go_wp2_with (at_builtin; refine zag rfl (.tmp 32) (.tmp 36) 42 rfl W2.heap.size 57 2 40 (.agg #[St [], .slice none 0 0]) Tryz.underlying42 zdl rfl (by omega) _ 0 [] rfl (Own.nil _ _ _ _ _) _ 1 1 _ rfl (Src.new rfl (by intro u hu; simp at hu; rcases hu with rfl | rfl <;> rfl)) (by omega) (by omega) (by first | omega | (simp; omega)) ?_; intro v' W3 hown hgr
                    have hI := ItemsAt.first q.1 (by simpa using hown)
                    have hxa : Ext W1 W3 := Ext.grew ((((Ext.refl W1).drewN _).alloc _)) hgr (fun b ⟨g, n, c, e, _, _⟩ => by cases e)
                    have c1 := hxa.cell b1
                    have c2 := hxa.cell b2
                    obtain ⟨g, cap, dv, rfl, hcap1, hcap2, hgb, t0, t1, tf, hdv, hdg⟩ := hI.tells
                    obtain ⟨Ad, cd, rfl, hcd1, hcd2⟩ := hdv.form
                    simp only [List.length_nil, Nat.zero_mul, Nat.zero_add] at hcap1 t0 t1 tf ⊢)
       have HX3 := zH (HX.out.trans hxa)
       have t1d := (Ext.refl W3).drew.cell t1
       have tfd := ((Ext.refl W3).drew.frozen (o := 1) (zad t1)).trans tf
       have hId := zH (hI.ext (Ext.refl W3).drew)
       have HXD := zH (HX3.out.drew)
       have hglt := zad t1d
       have hwd := HXD.out.size
       have hwd3 := HX3.out.size
       have t1a := ((Ext.refl W3).alloc (.cells #[St q.2.1, U q.2.2] 59)).cell t1
       have hvd := zH (hdv.ext (Ext.refl W3).drew)
       clear hI hdv
       go_region_law (refine zfl rfl (.tmp 47) (.tmp 50) 55 rfl W2.heap.size 59 2 24 (.agg #[St [], U 0]) Tryz.underlying55 zd3 rfl (by omega) (.slice Ad 0 cd) 0 (([] : List Dot).flatMap zae) (by simp [Act.eval, Act.put]) (hvd.out.alloc _) (some ⟨W3.heap.size, 0, none⟩) 1 1 [St q.2.1, U q.2.2] (by simp [Act.eval, Act.put]) (Src.new rfl (by intro u hu; simp at hu; rcases hu with rfl | rfl <;> rfl)) (by omega) (by omega) (by first | omega | (simp; omega)) ?_; intro dv' W5 hown5 hgr5
                      have hxe := (Ext.refl W3.drew).alloc (.cells #[St q.2.1, U q.2.2] 59)
                      have hsame5 := hgr5.same g (Nat.lt_of_lt_of_le hglt hxe.size) (fun hb => hdg _ hb rfl)
                      have t5 : W5.cell? ⟨g, 1, none⟩ = some (.slice Ad 0 cd) := (World.cell?_of_block (a := ⟨g, 1, none⟩) hsame5).trans (hxe.cell t1d)
                      have tf5 : W5.frozen? ⟨g, 1, none⟩ = false := by
                        have h := (hxe.frozen (o := 1) hglt).trans tfd
                        unfold World.frozen? at h ⊢
                        simp only [] at h ⊢
                        rw [hsame5]
                        exact h
                      have hg5 : Grew (W3.drew.alloc (.cells #[St q.2.1, U q.2.2] 59)) W5 (.slice Ad 0 cd) dv' := hgr5
                      have hi : ItemsAt (W3.drew.alloc (.cells #[St q.2.1, U q.2.2] 59)) W2.heap.size (.slice (some ⟨g, 0, none⟩) (0 + 1) cap) [] (q.1, []) := hId.out.ext hxe
                      have hI5 := zH (ItemsAt.dotN (n := 0) (its := []) rfl (d := q.2) hi (hxe.cell t1d) hg5 hown5)
                      have HX5 := zH (Ext.grewOwn (HXD.out.alloc _) hg5 (hvd.out.alloc _) (Nat.le_refl _))
                      obtain ⟨Ae, ce, rfl, hce1, hce2⟩ := hown5.form
                      clear hxe hsame5 hi hown5 hgr5 hg5)
       all_goals
         go_wp2
         go_roundw
         case rel => exact ⟨[] ++ [q], post, by rw [HL.out]; simp, by simp, zH (.inr ⟨[], (q.1, [] ++ [q.2]), rfl, hI5.out⟩), HX5.out.set (by simpa using hgb) _⟩
         case measure => simp [intOf]; omega
     · have HG := zH hg
       clear hrow hg
       have hI1 := hI.ext hx1
       obtain ⟨g, cap, dv, rfl, hcap1, hcap2, hgb, t0, t1, tf, hdv, hdg⟩ := hI1.tells
       obtain ⟨Ad, cd, rfl, hcd1, hcd2⟩ := hdv.form
       have HI1 := zH hI1
       have HDV := zH hdv
       have HDG := zH hdg
       have hgl := zlp pre
       rw [HG.out, List.length_append, List.length_singleton] at hgl
       have hdl : ds.length <= pre.length := zpx pre (t, ds) (by rw [HG.out]; simp)
       have hgw : g < wr.heap.size := by
         obtain ⟨g2, _, _, e, _, _, _, tt, -⟩ := hI.tells
         cases e
         exact zad tt
       have k1 : (((its.length : Int) + 1) == 0) = false := by rw [beq_eq_false_iff_ne]; omega
       have k4 : IntKind.i64.wrap ((its.length : Int) + 1 - 1) = its.length := by rw [show (its.length : Int) + 1 - 1 = its.length by omega]; simp [IntKind.wrap, IntKind.signed, IntKind.bits]; omega
       have k5 : IntKind.i64.wrap (its.length : Int) = its.length := by simp [IntKind.wrap, IntKind.signed, IntKind.bits]; omega
       have k6 : ((its.length : Int)).toNat = its.length := by omega
       have k7 : (0 : Int) <= (its.length : Int) := by omega
       have k8 : (its.length : Int) < (its.length : Int) + 1 := by omega
       clear hI hI1 hdv hdg
       by_cases htq : t = q.1
       · subst htq
         go_wp2_with fail
         generalize wr.alloc (.cells #[St q.1, St q.2.1, U q.2.2] 220) = W1 at *
         go_quiet (fail)
         go_wp2_with fail
         have hxn : Ext W1 (W1.drewN nq) := (Ext.refl W1).drewN nq
         generalize W1.drewN nq = W3 at *
         have hI := HI1.out.ext hxn
         have hdv := HDV.out.ext hxn
         have hdg := HDG.out
         have HX3 := zH (HX.out.trans hxn)
         have c1 := hxn.cell b1
         have c2 := hxn.cell b2
         have t1 := (show W3.cell? ⟨g, its.length * 2 + 1, none⟩ = some (.slice Ad ds.length cd) from hxn.cell ‹W1.cell? ⟨g, its.length * 2 + 1, none⟩ = some (.slice Ad ds.length cd)›)
         have tf := (hxn.frozen (o := its.length * 2 + 1) (zad ‹W1.cell? ⟨g, its.length * 2 + 1, none⟩ = some (.slice Ad ds.length cd)›)).trans ‹W1.frozen? ⟨g, its.length * 2 + 1, none⟩ = false›
         have t1d := (Ext.refl W3).drew.cell t1
         have tfd := ((Ext.refl W3).drew.frozen (o := (its.length * 2 + 1)) (zad t1)).trans tf
         have hId := zH (hI.ext (Ext.refl W3).drew)
         have HXD := zH (HX3.out.drew)
         have hglt := zad t1d
         have hwd := HXD.out.size
         have hwd3 := HX3.out.size
         have t1a := ((Ext.refl W3).alloc (.cells #[St q.2.1, U q.2.2] 59)).cell t1
         have hvd := zH (hdv.ext (Ext.refl W3).drew)
         clear hI hdv
         go_region_law (refine zfl rfl (.tmp 47) (.tmp 50) 55 rfl W2.heap.size 59 2 24 (.agg #[St [], U 0]) Tryz.underlying55 zd3 rfl (by omega) (.slice Ad ds.length cd) ds.length (ds.flatMap zae) (by simp [Act.eval, Act.put]) (hvd.out.alloc _) (some ⟨W3.heap.size, 0, none⟩) 1 1 [St q.2.1, U q.2.2] (by simp [Act.eval, Act.put]) (Src.new rfl (by intro u hu; simp at hu; rcases hu with rfl | rfl <;> rfl)) (by omega) (by omega) (by first | omega | (simp; omega)) ?_; intro dv' W5 hown5 hgr5
                        have hxe := (Ext.refl W3.drew).alloc (.cells #[St q.2.1, U q.2.2] 59)
                        have hsame5 := hgr5.same g (Nat.lt_of_lt_of_le hglt hxe.size) (fun hb => hdg _ hb rfl)
                        have t5 : W5.cell? ⟨g, (its.length * 2 + 1), none⟩ = some (.slice Ad ds.length cd) := (World.cell?_of_block (a := ⟨g, (its.length * 2 + 1), none⟩) hsame5).trans (hxe.cell t1d)
                        have tf5 : W5.frozen? ⟨g, (its.length * 2 + 1), none⟩ = false := by
                          have h := (hxe.frozen (o := (its.length * 2 + 1)) hglt).trans tfd
                          unfold World.frozen? at h ⊢
                          simp only [] at h ⊢
                          rw [hsame5]
                          exact h
                        have hg5 : Grew (W3.drew.alloc (.cells #[St q.2.1, U q.2.2] 59)) W5 (.slice Ad ds.length cd) dv' := hgr5
                        have hi : ItemsAt (W3.drew.alloc (.cells #[St q.2.1, U q.2.2] 59)) W2.heap.size (.slice (some ⟨g, 0, none⟩) (its.length + 1) cap) its (q.1, ds) := hId.out.ext hxe
                        have hI5 := zH (ItemsAt.dotN (n := its.length) (its := its) rfl (d := q.2) hi (hxe.cell t1d) hg5 hown5)
                        have HX5 := zH (Ext.grewOwn (HXD.out.alloc _) hg5 (hvd.out.alloc _) (Nat.le_refl _))
                        obtain ⟨Ae, ce, rfl, hce1, hce2⟩ := hown5.form
                        clear hxe hsame5 hi hown5 hgr5 hg5)
         all_goals
           go_wp2
           go_roundw
           case rel => exact ⟨pre ++ [q], post, by rw [HL.out]; simp, by simp, zH (.inr ⟨its, (q.1, ds ++ [q.2]), (by rw [zf4, HG.out]; exact zf0 _ _ _ _), hI5.out⟩), HX5.out.set (by simpa using hgb) _⟩
           case measure => simp [intOf]; omega
       · have hne : (t == q.1) = false := by simpa using htq
         have hne2 : (q.1 == t) = false := by simpa using (fun e => htq e.symm)
         go_wp2_with fail
         generalize wr.alloc (.cells #[St q.1, St q.2.1, U q.2.2] 220) = W1 at *
         go_quiet (fail)
         obtain ⟨xs, hxs, hmore⟩ := (HI1.out.ext (((Ext.refl W1).drewN nq).alloc (.cells #[St q.1, .slice none 0 0] 57))).row
         have HMORE := zH hmore
         clear hmore
         go_wp2_with (at_builtin; refine zag rfl (.tmp 32) (.tmp 36) 42 rfl W2.heap.size 57 2 40 (.agg #[St [], .slice none 0 0]) Tryz.underlying42 zdl rfl (by omega) _ (its.length + 1) xs rfl hxs _ 1 1 _ rfl (Src.new rfl (by intro u hu; simp at hu; rcases hu with rfl | rfl <;> rfl)) (by omega) (by omega) (by first | omega | (simp; omega)) ?_; intro v' W3 hown hgr
                      have hI := HMORE.out W3 v' q.1 hown hgr
                      have hxa : Ext W2 W3 := Ext.grewOwn ((HX.out.trans ((Ext.refl W1).drewN nq)).alloc (.cells #[St q.1, .slice none 0 0] 57)) hgr hxs (Nat.le_refl _)
                      have hxb := ((Ext.refl W1).drewN nq).alloc (.cells #[St q.1, .slice none 0 0] 57)
                      have c1 : W3.cell? ⟨wr.heap.size, 1, none⟩ = some (St q.2.1) := (World.cell?_of_block (a := ⟨wr.heap.size, 1, none⟩) (hgr.same wr.heap.size (zad (hxb.cell b1)) (fun ⟨g', n', c', e, _, e2⟩ => by cases e; omega))).trans (hxb.cell b1)
                      have c2 : W3.cell? ⟨wr.heap.size, 2, none⟩ = some (U q.2.2) := (World.cell?_of_block (a := ⟨wr.heap.size, 2, none⟩) (hgr.same wr.heap.size (zad (hxb.cell b2)) (fun ⟨g', n', c', e, _, e2⟩ => by cases e; omega))).trans (hxb.cell b2)
                      have HX3 := zH hxa
                      clear hcap1 hcap2 hgb t0 t1 tf
                      obtain ⟨g, cap, dv, rfl, hcap1, hcap2, hgb, t0, t1, tf, hdv, hdg⟩ := hI.tells
                      obtain ⟨Ad, cd, rfl, hcd1, hcd2⟩ := hdv.form
                      simp only [List.length_append, List.length_cons, List.length_nil, Nat.zero_add] at hcap1 t0 t1 tf hI ⊢)
         have t1d := (Ext.refl W3).drew.cell t1
         have tfd := ((Ext.refl W3).drew.frozen (o := ((its.length + 1) * 2 + 1)) (zad t1)).trans tf
         have hId := zH (hI.ext (Ext.refl W3).drew)
         have HXD := zH (HX3.out.drew)
         have hglt := zad t1d
         have hwd := HXD.out.size
         have hwd3 := HX3.out.size
         have t1a := ((Ext.refl W3).alloc (.cells #[St q.2.1, U q.2.2] 59)).cell t1
         have hvd := zH (hdv.ext (Ext.refl W3).drew)
         clear hI hdv
         go_region_law (refine zfl rfl (.tmp 47) (.tmp 50) 55 rfl W2.heap.size 59 2 24 (.agg #[St [], U 0]) Tryz.underlying55 zd3 rfl (by omega) (.slice Ad 0 cd) 0 (([] : List Dot).flatMap zae) (by simp [Act.eval, Act.put]) (hvd.out.alloc _) (some ⟨W3.heap.size, 0, none⟩) 1 1 [St q.2.1, U q.2.2] (by simp [Act.eval, Act.put]) (Src.new rfl (by intro u hu; simp at hu; rcases hu with rfl | rfl <;> rfl)) (by omega) (by omega) (by first | omega | (simp; omega)) ?_; intro dv' W5 hown5 hgr5
                        have hxe := (Ext.refl W3.drew).alloc (.cells #[St q.2.1, U q.2.2] 59)
                        have hsame5 := hgr5.same g (Nat.lt_of_lt_of_le hglt hxe.size) (fun hb => hdg _ hb rfl)
                        have t5 : W5.cell? ⟨g, ((its.length + 1) * 2 + 1), none⟩ = some (.slice Ad 0 cd) := (World.cell?_of_block (a := ⟨g, ((its.length + 1) * 2 + 1), none⟩) hsame5).trans (hxe.cell t1d)
                        have tf5 : W5.frozen? ⟨g, ((its.length + 1) * 2 + 1), none⟩ = false := by
                          have h := (hxe.frozen (o := ((its.length + 1) * 2 + 1)) hglt).trans tfd
                          unfold World.frozen? at h ⊢
                          simp only [] at h ⊢
                          rw [hsame5]
                          exact h
                        have hg5 : Grew (W3.drew.alloc (.cells #[St q.2.1, U q.2.2] 59)) W5 (.slice Ad 0 cd) dv' := hgr5
                        have hi : ItemsAt (W3.drew.alloc (.cells #[St q.2.1, U q.2.2] 59)) W2.heap.size (.slice (some ⟨g, 0, none⟩) ((its.length + 1) + 1) cap) (its ++ [(t, ds)]) (q.1, []) := hId.out.ext hxe
                        have hI5 := zH (ItemsAt.dotN (n := its.length + 1) (its := (its ++ [(t, ds)])) (by simp) (d := q.2) hi (hxe.cell t1d) hg5 hown5)
                        have HX5 := zH (Ext.grewOwn (HXD.out.alloc _) hg5 (hvd.out.alloc _) (Nat.le_refl _))
                        obtain ⟨Ae, ce, rfl, hce1, hce2⟩ := hown5.form
                        clear hxe hsame5 hi hown5 hgr5 hg5)
         all_goals
           go_wp2
           go_roundw
           case rel => exact ⟨pre ++ [q], post, by rw [HL.out]; simp, by simp, zH (.inr ⟨(its ++ [(t, ds)]), (q.1, [] ++ [q.2]), (by rw [zf4, HG.out, zfh _ _ _ hne]; rfl), hI5.out⟩), HX5.out.set (by simpa using hgb) _⟩
           case measure => simp [intOf]; omega
   | nil =>
     rw [List.append_nil] at hl
     have hlen : qs.length = pre.length := by rw [hl]
     have HL := zH hl
     have HX := zH hx
     have hn3 := HW2.out.size
     have HROW := zH (show OwnL itemT 57 wr W2.heap.size (fun b => W2.heap.size <= b) u4 (zbc ks) by
       rw [HI.out, HL.out]
       rcases hrow.out with ⟨rfl, rfl⟩ | ⟨its, last, hg, hI⟩
       · exact OwnL.nil _ _
       · rw [hg]; exact hI.done)
     clear hl hx hrow
     go_wp2_with fail
     go_ret
     exact ⟨_, rfl, (HROW.out.lower hn3).mono (fun b _ hb => Nat.le_trans hn3 hb), HW2.out.trans HX.out⟩
end
section
open Go.RowKit Go.Shelf
end
section
open Go.RowKit Go.Shelf
end
section
open Go.RowKit Go.Shelf
end
section
open Go.RowKit Go.Shelf
def zcc (l:List Item) (s:Str):List zan:=(setL (zac l)).filter fun m=>m.1 != s
def zgq (l:List Item) (s:Str):List Item:=zbc (zcc l s)
theorem zkq (l:List Item) (s:Str):(zcc l s).length<=(zac l).length:=Nat.le_trans (List.length_filter_le _ _) (ze7 _)
theorem znt (l:List Item) (s:Str):(zcc l s).Nodup:=(zcz _).filter _
theorem zwd {S:Nat->Prop} {v:Value} {l:List Item} {w:World} (s:Str) (hv:Sl itemT w S v l) (hl:(zac l).length<=1099511627776) :
  Calls Tryz.prog 182 #[v,St s] w fun e w'=>∃ v',e=.returned v'/\OwnL itemT 57 w' w.heap.size (fun b=>w.heap.size<=b) v' (zgq l s)/\Ext w w':=by
 have hx0:=(Ext.refl w).alloc (.cells #[St s] 9);have hb0:(w.alloc (.cells #[St s] 9)).cell? ⟨w.heap.size,0,none⟩=some (St s):=by simp [go_sem]
 have H1:=zH (zln (hv.ext (by decide) hx0));have HT:=zH (show zgq l s=zbc (zcc l s) from rfl);obtain⟨A,c,rfl,-,-⟩:=hv.form;clear hv;go_enter Tryz.func182,Tryz.ntmps182;go_wp2_with fail;refine H1.out.mono ?_;rintro e W1 ⟨p,rfl,hp1,hp2,hx1⟩;have hx01:=hx0.trans hx1;have hb1:=hx1.cell hb0;have hlt:=zad hb1;have H2:=zH (zok hp2 (zrv s w.heap.size W1.heap.size (by have:=hx01.size;omega)) hb1 (Nat.le_refl _));clear hp2;go_wp2_with fail;refine H2.out.mono ?_;rintro e W2 ⟨q,ks,rfl,hq1,hpm,hq2,hx2⟩;have hx02:=hx01.trans hx2;have hlen:=zkq l s;have H3:=zH (zhn hq2 (by have:=hpm.length_eq;unfold zcc at hlen;omega));have HI:=zH (zf3 hpm);clear hq2 hpm;go_wp2_with fail;refine H3.out.mono ?_;rintro e W3 ⟨v',rfl,hv,hx3⟩;rw [HI.out,<- zcc,<- HT.out] at hv;have hs9:=hx02.size;have HV:=zH ((hv.lower hs9).mono (fun b _ hb=>Nat.le_trans hs9 hb));have hff:=hv.form;obtain⟨Az,cz,rfl,-,-⟩:=hff;clear hv;go_wp2_with fail;go_ret;exact⟨_,rfl,HV.out,hx02.trans hx3⟩
def zbg (l:List Item):List Str:=(zbc (setL (zac l))).map (·.1)
theorem zlt (ks:List zan):(zbc ks).length<=ks.length:=by
 unfold zbc;refine Nat.le_trans (zlp _) ?_;rw [(zbh ks).length_eq];exact Nat.le_refl _
theorem zuo {S:Nat->Prop} {v:Value} {l:List Item} {w:World} (hv:Sl itemT w S v l) (hl:(zac l).length<=1099511627776) :
  Calls Tryz.prog 103 #[v] w fun e w'=>∃ v',e=.returned v'/\Own w' w.heap.size 9 1 v' (zbg l).length ((zbg l).flatMap strC)/\Ext w w':=by
 have H1:=zH (zln hv);obtain⟨A,c,rfl,-,-⟩:=hv.form;have HT:=zH (show zbg l=(zbc (setL (zac l))).map (·.1) from rfl);have hlen:=ze7 (zac l);clear hv;go_enter Tryz.func103,Tryz.ntmps103;go_wp2_with fail;refine H1.out.mono ?_;rintro e W1 ⟨p,rfl,hp1,hp2,hx1⟩;have H2:=zH (zhn hp2 (by omega));clear hp2;go_wp2_with fail;refine H2.out.mono ?_;rintro e W2 ⟨v2,rfl,hv2,hx2⟩;have hil:=zlt (setL (zac l));generalize zbc (setL (zac l))=its at *;have hsl:=hv2.sl (S':=fun _=>True) (by decide) (fun _ _ _=>trivial) (fun _ _ _=>trivial);obtain⟨A2,c2,rfl,hc1,hc2⟩:=hsl.form;have HAT:=zH (fun (pre post:List Item) (m:Item) (wr:World) (h:Ext W2 wr) (hl:its=pre++m :: post)=>zcp hsl h hl);have HX2:=zH (hx1.trans hx2);clear hv2 hsl hx1 hx2;go_wp2_with fail
 go_loopw [3,10] (fun l i wr=>∃ pre post,its=pre++post/\i=I pre.length/\Own wr W2.heap.size 9 1 l pre.length ((pre.map (·.1)).flatMap strC)/\Ext W2 wr) (fun _ i _=>its.length - (intOf i).toNat)
 case atStart=>exact⟨[],its,rfl,rfl,Own.nil _ _ _ _ _,Ext.refl _⟩
 case round =>
  obtain⟨pre,post,hl,rfl,hown,hx⟩:=hrel
  cases post with
  | cons it post =>
   obtain⟨b,o,vd,rfl,hd0,hd1,hsl⟩:=HAT.out pre post it wr hx hl;have hlt:pre.length < its.length:=(by rw [hl];simp);have hff:=hsl.form;obtain⟨A3,c3,rfl,-,-⟩:=hff;have HL:=zH hl;have hn3:=hx.size;have HX:=zH hx;have HO:=zH hown;clear hl hx hsl
   go_wp2_with (at_builtin;refine zag rfl (.tmp 14) (.tmp 17) 24 rfl W2.heap.size 9 1 16 (St []) Tryz.underlying24 zdu rfl (by omega) _ pre.length ((pre.map (·.1)).flatMap strC) rfl ((hown.alloc _).alloc _) _ 1 1 [St it.1] rfl (Src.newAt (by simp) rfl (by intro u hu;simp at hu;subst hu;rfl)) (by omega) (by omega) (by simp;omega) ?_;intro v' w' hown2 hgr)
   go_roundw
   case rel=>exact⟨pre++[it],post,by rw [HL.out];simp,by simp,by simpa [strC] using hown2,Ext.grewOwn ((HX.out.alloc _).alloc _) hgr ((HO.out.alloc _).alloc _) (Nat.le_refl _)⟩
   case measure=>simp [intOf];omega
  | nil=>rw [List.append_nil] at hl;have HL:=zH hl;have hlen2:its.length=pre.length:=(by rw [hl]);have HX:=zH hx;have HO:=zH hown;have hn3:=HX2.out.size;have hff:=hown.form;obtain⟨A3,c3,rfl,-,-⟩:=hff;clear hl hx hown;go_wp2_with fail;go_ret;exact⟨_,rfl,by rw [HT.out,HL.out,List.length_map];exact HO.out.lower hn3,HX2.out.trans HX.out⟩
end
section
open Go.RowKit Go.Shelf
theorem zr3 (w:World):(zeroValue 3).run Tryz.prog w=.ok (I 0) w:=Tryz.zeroValue3 w
def zfq (ks:List zan):List Str:=setL (ks.map (·.1))
theorem zp0 {a b:List zan} (h:a.Perm b):(zfq a).length=(zfq b).length :=
 (zc3 (zcz _) (zcz _) fun x=>by rw [mem_setL,mem_setL];exact (h.map _).mem_iff).length_eq
theorem znu {κ ν:Type} {K:κ->Value} {V:ν->Value} {w:World} {b:Nat} {L:List (κ × ν)} {P:Program} {t kt et:TypeId} (ht:P.underlying t=some (.map kt et)) (h:MapIs K V w b L) (ty:TypeId) :
  (Builtin.len_ #[t] ty #[.map (some b)]).run P w=.ok (.int .i64 (L.length:Int)) w:=by
 obtain⟨es,c,h1,h2,-⟩:=h
 have hlen:es.size=L.length:=by
  have:=congrArg List.length h2
  simpa using this
 simp [Builtin.len_,run_underlying ht,MapKept.run_getObj_map h1,hlen,goInt]
def putB (l:List Item) (s:Str) (d:Dot):List Item × Nat :=
 if 4096 < s.length then ([],4) else if 256<=(zfq (zcc l s)).length then ([],6) else (zbc (addK (zcc l s) (s,d)),0)
theorem zwe {S:Nat->Prop} {v:Value} {l:List Item} {w:World} (s:Str) (d:Dot) (hv:Sl itemT w S v l) (hl:(zac l).length < 1099511627776) :
  Calls Tryz.prog 180 #[v,St s,dotV d] w fun e w'=>∃ v',e=.returned (.tuple #[v',I (putB l s d).2])/\OwnL itemT 57 w' w.heap.size (fun b=>w.heap.size<=b) v' (putB l s d).1/\Ext w w':=by
 have hx0:=((Ext.refl w).alloc (.cells #[St s] 9)).alloc (.cells #[St d.1,U d.2] 59)
 by_cases hlong:4096 < s.length
 ·have HP:=zH (show putB l s d=([],4) by simp [putB,hlong]);have hs:(s.length:Int) > 4096:=by omega
  obtain⟨A,c,rfl,-,-⟩:=hv.form;clear hv;go_enter Tryz.func180,Tryz.ntmps180;go_wp2_with fail
  go_ret2
  exact⟨_,by rw [HP.out];rfl,by rw [HP.out];exact OwnL.nil _ _,hx0⟩
 ·have hs:¬ (s.length:Int) > 4096:=by omega
  have HP:=zH (show putB l s d=if 256<=(zfq (zcc l s)).length then ([],6) else (zbc (addK (zcc l s) (s,d)),0) by simp [putB,hlong]);have hb0:((w.alloc (.cells #[St s] 9)).alloc (.cells #[St d.1,U d.2] 59)).cell? ⟨w.heap.size,0,none⟩=some (St s):=by simp [go_sem]
  have hb1:((w.alloc (.cells #[St s] 9)).alloc (.cells #[St d.1,U d.2] 59)).cell? ⟨w.heap.size+1,0,none⟩=some (St d.1):=by simp [go_sem]
  have hb2:((w.alloc (.cells #[St s] 9)).alloc (.cells #[St d.1,U d.2] 59)).cell? ⟨w.heap.size+1,1,none⟩=some (U d.2):=by simp [go_sem]
  have H1:=zH (zln (hv.ext (by decide) hx0));have hmm:=@run_makeMap Tryz.prog;have hz0:((w.alloc (.cells #[St s] 9)).alloc (.cells #[St d.1,U d.2] 59)).heap.size=w.heap.size+1+1:=by simp
  have HZ0:=zH hz0;have hlen:=zkq l s;have hnd:=znt l s;obtain⟨A,c,rfl,-,-⟩:=hv.form;clear hv hz0;go_enter Tryz.func180,Tryz.ntmps180;go_wp2_with fail;generalize (w.alloc (.cells #[St s] 9)).alloc (.cells #[St d.1,U d.2] 59)=W0 at *;refine H1.out.mono ?_;rintro e W1 ⟨p,rfl,hp1,hp2,hx1⟩;have hx01:=hx0.trans hx1;have hc0:=hx1.cell hb0;have hlt:=zad hc0;have H2:=zH (zok hp2 (zt8 s w.heap.size W1.heap.size (by omega)) hc0 (Nat.le_refl _));clear hp2;go_wp2_with fail;refine H2.out.mono ?_;rintro e W2 ⟨q,ks,rfl,hq1,hpm,hq2,hx2⟩;rw [<- zcc] at hpm;have hx02:=hx01.trans hx2;have d0:=(hx1.trans hx2).cell hb0;have d1:=(hx1.trans hx2).cell hb1;have d2:=(hx1.trans hx2).cell hb2;have hxm:=(Ext.refl W2).alloc (.map #[] 0);obtain⟨W3,hr,hR,hx3,hsz⟩:=zco (P:=Tryz.prog) Tryz.underlying217 (hq2.ext hxm);have HR:=zH hR;have HN:=zH (MapIs.new (κ:=Str) (ν:=Int) (K:=St) (V:=I) W2 |>.ext hx3);have HQ:=zH ((hq2.ext hxm).ext hx3);have HND:=zH hq2.nodup;have hqw:=hq2.lt;rw [World.size_alloc] at hr hsz;have hx23:=hxm.trans hx3;have hx03:=hx02.trans hx23;have f0:=hx23.cell d0;have f1:=hx23.cell d1;have f2:=hx23.cell d2;have hb0l:=zad d0;have hb1l:=zad d1;have HPM:=zH hpm;have HX03:=zH hx03;have hqb:w.heap.size<=q:=Nat.le_trans hx01.size hq1;have hs2:=hx02.size;have hklen:ks.length=(zcc l s).length:=hpm.length_eq;have hklen2:ks.length < 1099511627776:=by omega
  clear hR hq2 hpm hxm hx3 hx23 hx03 hx0 hx1 hx2 hklen d0 d1 d2 hb0 hb1 hb2;go_wp2_with fail
  go_loopw [21] (fun u wr=>∃ done rest L,(done++rest.map Prod.fst).Perm ks/\RangeIs zat zd5 wr q (W2.heap.size+1) (ks.map fun k=>(k,())) rest/\Hid (MapIs St I wr W2.heap.size L/\L.map Prod.fst=zfq done) /\
   (wr.cell? ⟨w.heap.size,0,none⟩=some (St s)/\wr.cell? ⟨w.heap.size+1,0,none⟩=some (St d.1)/\wr.cell? ⟨w.heap.size+1,1,none⟩=some (U d.2))/\SetOf zat wr q ks/\Ext w wr) (fun _ wr=>wr.rangeLeft q (W2.heap.size+1))
  case atStart=>exact⟨[],_,[],by rw [zeq];exact .refl _,by have:=HR.out;rwa [World.size_alloc] at this,zH ⟨HN.out,rfl⟩,⟨f0,f1,f2⟩,HQ.out,HX03.out⟩
  case round =>
   obtain⟨done,rest,L,hperm,hR,hML,⟨g0,g1,g2⟩,hS,hx⟩:=hrel;rcases zc6 (P:=Tryz.prog) 0 hR with ⟨rfl,hrun⟩ | ⟨r1,k,r2,wn,rfl,hrun,hR2,ht,hent⟩
   ·have hnx:∀ ty,(Instr.next (.pointer (some ⟨W2.heap.size+1,0,none⟩)) false ty).run Tryz.prog wr=.ok (.tuple #[.bool false]) wr:=fun ty=>hrun
    have hd:done.Perm ks:=(by simpa using hperm);have hdo:=hd.trans HPM.out;obtain⟨hMap,hkeys⟩:=hML.out;have hln:=znu (P:=Tryz.prog) Tryz.underlying129 hMap 3
    have hN:L.length=(zfq (zcc l s)).length:=by have h2:=congrArg List.length hkeys;simp at h2;rw [h2];exact zp0 hdo
    rw [hN] at hln;obtain⟨N,hNN⟩:∃ N,(zfq (zcc l s)).length=N:=⟨_,rfl⟩
    rw [hNN] at HP hln;have HX:=zH hx;clear hML hR hperm hrun hkeys hNN hx hMap hN
    by_cases h256:256<=N
    ·have HP2:=zH (show putB l s d=([],6) by rw [HP.out,if_pos h256]);have hz:(N:Int) ≥ 256:=(by omega);clear hd hdo hS;go_wp2_with fail
     go_ret2
     exact⟨_,by rw [HP2.out];rfl,by rw [HP2.out];exact OwnL.nil _ _,HX.out⟩
    ·have HP2:=zH (show putB l s d=(zbc (addK (zcc l s) (s,d)),0) by rw [HP.out,if_neg h256]);have hz:¬ (N:Int) ≥ 256:=(by omega);obtain⟨w4,hup,hs4,ht4⟩:=zdg (P:=Tryz.prog) Tryz.underlying217 zjg hS (s,d);have hx4:=HX.out.turned ht4 hqb;have hpm4:(addK ks (s,d)).Perm (addK (zcc l s) (s,d)):=zc3 (zig HND.out _) (zig hnd _) fun x=>by rw [zk3,zk3,HPM.out.mem_iff]
     have h5:=zoh ks (s,d);have H5:=zH (zhn hs4 (by omega));have HI:=zH (zf3 hpm4);have HX4:=zH hx4;clear hd hdo hS hs4 ht4 hx4 hpm4 hnd;go_wp2_with fail;refine H5.out.mono ?_;rintro e w5 ⟨v',rfl,hv,hx5⟩;rw [HI.out] at hv;have hs9:=HX4.out.size;have HV:=zH ((hv.lower hs9).mono (fun b _ hb=>Nat.le_trans hs9 hb));have hff:=hv.form;obtain⟨Az,cz,rfl,-,-⟩:=hff;clear hv;go_wp2_with fail
     go_ret2
     exact⟨_,by rw [HP2.out];rfl,by rw [HP2.out];exact HV.out,HX4.out.trans hx5⟩
   ·have hnx:∀ ty,(Instr.next (.pointer (some ⟨W2.heap.size+1,0,none⟩)) false ty).run Tryz.prog wr=.ok (.tuple #[.bool true,zat k.1,zd5 k.2]) wn:=fun ty=>hrun
    have hxn:=hx.turned ht (by omega);have hx1:=(Ext.refl wn).alloc (.cells #[St k.1.1,St k.1.2.1,U k.1.2.2] 220);have hMn:MapIs St I (wn.alloc (.cells #[St k.1.1,St k.1.2.1,U k.1.2.2] 220)) W2.heap.size L:=(hML.out.1.keep (ht.other _ (by omega))).ext hx1;have hlk:=(zbk (P:=Tryz.prog) (z:=0) Tryz.underlying129 ze1 zr3 hMn k.1.1).1;obtain⟨z,hz⟩:∃ z,getL 0 L k.1.1=z:=⟨_,rfl⟩
    rw [hz] at hlk;obtain⟨w3,hup,hm3,ht3⟩:=zas (P:=Tryz.prog) Tryz.underlying129 ze1 hMn k.1.1 (wrap64 (z+1));have g0n:=ht3.cell (hx1.cell (ht.cell g0 (by omega))) (by omega);have g1n:=ht3.cell (hx1.cell (ht.cell g1 (by omega))) (by omega);have g2n:=ht3.cell (hx1.cell (ht.cell g2 (by omega))) (by omega);have HR2:=zH ((hR2.ext hx1).keep (ht3.other q (by omega)) (ht3.other _ (by omega)));have HS2:=zH (((hS.keep (ht.other q (by omega))).ext hx1).keep (ht3.other q (by omega)));have HX2:=zH ((hxn.trans hx1).turned ht3 (by omega));have HM3:=zH hm3
    have HKEY:=zH (show (putL L k.1.1 (wrap64 (z+1))).map Prod.fst=zfq (done++[k.1]) by
     rw [zhi,hML.out.2];unfold zfq;rw [List.map_append,List.map_singleton,zhk]
     rfl)
    have HML:=zH hR.left_eq;have HPM3:=zH hperm;clear hperm hR hrun hR2 hx ht hxn hS hx1 hm3 ht3 hMn hz hML;go_wp2_with fail;go_roundw
    case rel=>exact⟨done++[k.1],r1++r2,_,by have h1:=HPM3.out;simp only [List.map_append,List.map_cons] at h1 ⊢;rw [List.append_assoc];exact ((List.perm_middle (l₁:=r1.map Prod.fst) (a:=k.1) (l₂:=r2.map Prod.fst)).symm.append_left done).trans h1,HR2.out,zH ⟨HM3.out,HKEY.out⟩,⟨g0n,g1n,g2n⟩,HS2.out,HX2.out⟩
    case measure=>rw [HML.out,HR2.out.left_eq];simp
end
section
open Go.RowKit Go.Shelf
def ze6 (prev:Option Dot) (all:List Dot) (d:Dot):Bool :=
 !d.1.isEmpty && decide (1<=d.2) && decide (d.2<=281474976710656) && (match prev with | none=>true | some q=>decide (cmpD q d < 0)) && !decide (d ∈ all)
def zdi:Option Dot->List Dot->List Dot->Option (List Dot)
 | _,all,[]=>some all
 | prev,all,d :: r=>if ze6 prev all d then zdi (some d) (all++[d]) r else none
def zfr (prev:Option Str) (it:Item):Bool:=(match prev with | none=>true | some s=>ltS s it.1) && decide (it.1.length<=4096) && !it.2.isEmpty
def zcu:Option Str->List Dot->List Item->Bool
 | _,_,[]=>true
 | prev,all,it :: r=>if zfr prev it then (match zdi none all it.2 with | none=>false | some a=>zcu (some it.1) a r) else false
def mayB (l:List Item):Bool:=zcu none [] l
theorem zgr {α:Type} {l:List α} (h:0 < l.length):∃ pre q,l=pre++[q]/\l.getLast? = some q/\pre.length=l.length - 1:=by
 rcases List.eq_nil_or_concat l with rfl | ⟨pre,q,rfl⟩
 ·simp at h
 ·exact⟨pre,q,by simp,by simp,by simp⟩
theorem zfs {n:Nat} (h:0 < n) (h2:n<=9223372036854775807):IntKind.i64.wrap ((n:Int) - 1)=((n - 1:Nat):Int):=by
 rw [show (n:Int) - 1=((n - 1:Nat):Int) by omega];exact IntWalk.i64_in _ (by omega)
theorem zwf {S:Nat->Prop} {v:Value} {l:List Item} {w:World} (hv:Sl itemT w S v l) (hl40:l.length<=1099511627776) :
  Calls Tryz.prog 77 #[v] w fun e w'=>e=.returned (.bool (mayB l))/\Ext w w':=by
 have hv':=hv;obtain⟨A,c,rfl,hc1,hc2⟩:=hv.form;have HAT:=zH (fun (pre post:List Item) (m:Item) (wr:World) (h:Ext w wr) (hl:l=pre++m :: post)=>zcp hv' h hl);have HCMP:=zH zkl;have hmm:=@run_makeMap Tryz.prog;clear hv hv';go_enter Tryz.func77,Tryz.ntmps77;go_wp2_with fail
 go_loopw [13] (fun i wr=>∃ pre post all,l=pre++post/\i=I pre.length/\Hid (mayB l=zcu (pre.getLast?.map (·.1)) all post)/\SetOf dotV wr w.heap.size all/\Ext w wr) (fun i _=>l.length - (intOf i).toNat)
 case atStart=>exact⟨[],l,[],rfl,rfl,zH rfl,SetOf.new w,(Ext.refl w).alloc _⟩
 case round =>
  obtain⟨pre,post,all,hl,rfl,hm,hS,hx⟩:=hrel
  cases post with
  | cons it post =>
   obtain⟨b,o,vd,rfl,hd0,hd1,hsl⟩:=HAT.out pre post it wr hx hl;have hlt:pre.length < l.length:=(by rw [hl];simp);have hsl':=hsl;have hff:=hsl.form;obtain⟨A2,c2,rfl,hc3,hc4⟩:=hff;have hx1:=(Ext.refl wr).alloc (.cells #[St it.1,.slice A2 it.2.length c2] 57);have t0:(wr.alloc (.cells #[St it.1,.slice A2 it.2.length c2] 57)).cell? ⟨wr.heap.size,0,none⟩=some (St it.1):=(by simp [go_sem]);have t1:(wr.alloc (.cells #[St it.1,.slice A2 it.2.length c2] 57)).cell? ⟨wr.heap.size,1,none⟩=some (.slice A2 it.2.length c2):=(by simp [go_sem]);have hws:=hS.lt;have HIN:=zH (fun (p2 q2:List Dot) (x:Dot) (wr':World) (h:Ext w wr') (hl:it.2=p2++x :: q2)=>zer hsl' h hl);have HM:=zH (show mayB l=if zfr (pre.getLast?.map (·.1)) it then (match zdi none all it.2 with | none=>false | some a=>zcu (some it.1) a post) else false by rw [hm.out];rfl);have HL:=zH hl;have HS:=zH (hS.ext hx1);have HX:=zH (hx.trans hx1)
   have hprev:(pre.length=0/\pre.getLast?.map (·.1)=none) ∨ (0 < pre.length/\∃ q:Item,pre.getLast?.map (·.1)=some q.1/\(wr.alloc (.cells #[St it.1,.slice A2 it.2.length c2] 57)).cell? ⟨b,o+(pre.length - 1) * 2,none⟩=some (St q.1)):=by
    rcases Nat.eq_zero_or_pos pre.length with h0 | h0
    ·exact .inl ⟨h0,by rw [List.eq_nil_of_length_eq_zero h0];rfl⟩
    ·obtain⟨p',q,e1,e2,e3⟩:=zgr h0;obtain⟨b',o',v',e,q0,-,-⟩:=HAT.out p' (it :: post) q wr hx (by rw [hl,e1];simp);cases e;rw [e3] at q0;exact .inr ⟨h0,q,by rw [e2];rfl,hx1.cell q0⟩
   clear hl hS hsl hsl' hx hx1 hm
   by_cases hok:zfr (pre.getLast?.map (·.1)) it=true
   ·have HM2:=zH (show mayB l=(match zdi none all it.2 with | none=>false | some a=>zcu (some it.1) a post) by rw [HM.out,if_pos hok]);unfold zfr at hok;simp only [Bool.and_eq_true,decide_eq_true_eq,Bool.not_eq_true'] at hok;obtain⟨⟨hok1,hok2⟩,hok3⟩:=hok
    have hne:0 < it.2.length:=by
     cases h2:it.2 with
     | nil=>rw [h2] at hok3;cases hok3
     | cons a r=>simp
    have k1d:decide ((4096:Int) < (List.length it.1:Int))=false:=decide_eq_false (by omega);have k2:((it.2.length:Int) == 0)=false:=(by rw [beq_eq_false_iff_ne];omega);have k2d:decide (it.2.length=0)=false:=decide_eq_false (by omega);clear HM hok2 hok3;rcases hprev with ⟨h0,hp⟩ | ⟨h0,q,hp,q0⟩
    case' inl=>have k0:¬ (pre.length:Int) > 0:=(by omega);have k0n:¬ 0 < pre.length:=(by omega);clear hp h0 hok1;go_wp2_with fail;generalize wr.alloc (.cells #[St it.1,.slice A2 it.2.length c2] 57)=W1 at *;go_quiet (fail);clear k0 k0n k1d k2 k2d;go_wp2_with fail
    case' inr=>rw [hp] at hok1;have k0:(pre.length:Int) > 0:=(by omega);have k4:=zfs h0 (by omega);have k5:((pre.length - 1:Nat):Int) < (l.length:Int):=(by omega);have k6:(0:Int)<=((pre.length - 1:Nat):Int):=(by omega);have k7:(((pre.length - 1:Nat):Int)).toNat=pre.length - 1:=(by omega);clear hp;go_wp2_with fail;generalize wr.alloc (.cells #[St it.1,.slice A2 it.2.length c2] 57)=W1 at *;go_quiet (fail);clear k0 k4 k5 k6 k7 q0 hok1 k1d k2 k2d;go_wp2_with fail
    all_goals
     have hxn:Ext W1 (W1.drewN nq):=(Ext.refl W1).drewN nq;obtain⟨wo,rfl⟩:∃ wo:World,wo=wr:=⟨_,rfl⟩
     go_loopw [46] (fun j wr2=>∃ p2 q2 all2,it.2=p2++q2/\j=I p2.length/\Hid (mayB l=(match zdi p2.getLast? all2 q2 with | none=>false | some a=>zcu (some it.1) a post))/\SetOf dotV wr2 w.heap.size all2 /\
      (wr2.cell? ⟨wo.heap.size,0,none⟩=some (St it.1)/\wr2.cell? ⟨wo.heap.size,1,none⟩=some (.slice A2 it.2.length c2))/\Ext w wr2) (fun j _=>it.2.length - (intOf j).toNat)
     case atStart=>exact⟨[],it.2,all,rfl,rfl,HM2,HS.out.ext hxn,⟨hxn.cell t0,hxn.cell t1⟩,HX.out.trans hxn⟩
     case round =>
      obtain⟨p2,q2,all2,hl2,rfl,hm2,hS2,⟨s0,s1⟩,hx2⟩:=hrel;clear t0 t1
      cases q2 with
      | cons x q2 =>
       obtain⟨b2,o2,rfl,e0,e1⟩:=HIN.out p2 q2 x wr hx2 hl2;have hlt2:p2.length < it.2.length:=(by rw [hl2];simp);have hxa:=(Ext.refl wr).alloc (.cells #[St x.1,U x.2] 59);have u0:(wr.alloc (.cells #[St x.1,U x.2] 59)).cell? ⟨wr.heap.size,0,none⟩=some (St x.1):=(by simp [go_sem]);have u1:(wr.alloc (.cells #[St x.1,U x.2] 59)).cell? ⟨wr.heap.size,1,none⟩=some (U x.2):=(by simp [go_sem]);have r0:=hxa.cell s0;have r1:=hxa.cell s1;have HS2:=zH (hS2.ext hxa);have HX2:=zH (hx2.trans hxa);have HL2:=zH hl2;have HMM:=zH (show mayB l=(match (if ze6 p2.getLast? all2 x then zdi (some x) (all2++[x]) q2 else none) with | none=>false | some a=>zcu (some it.1) a post) by rw [hm2.out];rfl)
       have hpd:(p2.length=0/\p2.getLast? = none) ∨ (0 < p2.length/\∃ q:Dot,p2.getLast? = some q/\(wr.alloc (.cells #[St x.1,U x.2] 59)).cell? ⟨b2,o2+(p2.length - 1) * 2,none⟩=some (St q.1)/\(wr.alloc (.cells #[St x.1,U x.2] 59)).cell? ⟨b2,o2+(p2.length - 1) * 2+1,none⟩=some (U q.2)):=by
        rcases Nat.eq_zero_or_pos p2.length with h0 | h0
        ·exact .inl ⟨h0,by rw [List.eq_nil_of_length_eq_zero h0];rfl⟩
        ·obtain⟨p',q,e1,e2,e3⟩:=zgr h0;obtain⟨b',o',e,q0,q1⟩:=HIN.out p' (x :: q2) q wr hx2 (by rw [hl2,e1];simp);cases e;rw [e3] at q0 q1;exact .inr ⟨h0,q,e2,hxa.cell q0,hxa.cell q1⟩
       clear hl2 hS2 hx2 hm2 s0 s1 hxa
       by_cases hd:!x.1.isEmpty && decide (1<=x.2) && decide (x.2<=281474976710656)
       ·obtain⟨xs,xn⟩:=x
        cases xs with
        | nil=>simp at hd
        | cons a r =>
         simp only [Bool.and_eq_true,decide_eq_true_eq] at hd;obtain⟨⟨-,h1⟩,h2⟩:=hd;have kA:decide ((xn:Int) < 1)=false:=decide_eq_false (by omega);have kB:decide ((281474976710656:Int) < (xn:Int))=false:=decide_eq_false (by omega);have kC:¬ (xn:Int) < 1:=(by omega);have kD:¬ (xn:Int) > 281474976710656:=(by omega);have hwb:=wr;rcases hpd with ⟨h0,hp⟩ | ⟨h0,q,hp,q0,q1⟩
         case' inl=>have HOK:=zH (show ze6 p2.getLast? all2 (a :: r,xn) = !decide ((a :: r,xn) ∈ all2) by rw [hp];simp [ze6];omega);have k0:¬ (p2.length:Int) > 0:=(by omega);have k0n:¬ 0 < p2.length:=(by omega);clear hp h0;go_wp2_with fail;generalize wr.alloc (.cells #[St (a :: r),U xn] 59)=W2 at *;go_quiet (fail);have hx3:Ext W2 (W2.drewN nq):=(Ext.refl W2).drewN nq;generalize W2.drewN nq=W3 at *
         case' inr =>
          have k0:(p2.length:Int) > 0:=(by omega);have k4:=zfs h0 (by omega);have k5:((p2.length - 1:Nat):Int) < (it.2.length:Int):=(by omega);have k6:(0:Int)<=((p2.length - 1:Nat):Int):=(by omega);have k7:(((p2.length - 1:Nat):Int)).toNat=p2.length - 1:=(by omega);go_wp2_with fail;generalize wr.alloc (.cells #[St (a :: r),U xn] 59)=W2 at *;obtain⟨Wd,hWd⟩:∃ Wd,W2.drew=Wd:=⟨_,rfl⟩
          have hxd:Ext W2 Wd:=(by rw [<- hWd];exact (Ext.refl W2).drew);have u0d:=hxd.cell u0;have u1d:=hxd.cell u1;have r1d:=hxd.cell r1;have q0d:=hxd.cell q0;have q1d:=hxd.cell q1;refine wp_region_still_tail 24 (by kernel_rfl) (by kernel_rfl) ?_;simp only [List.take_succ_cons,List.take_zero,List.drop_succ_cons,List.drop_zero];change wpStill _ _ W2.drew (fun a'=>wpList _ _ _ _ a' W2.drew) _ _;rw [hWd]
          repeat still_step
          refine wpStill_nil ?_;go_wp2_with fail;refine (HCMP.out q (a :: r,xn) Wd).mono ?_;rintro e W3 ⟨rfl,nq2,os,hgrow⟩;have hx3:Ext W2 W3:=hxd.trans (by rw [hgrow];exact zv8 _ _ _);clear hgrow hWd hxd u0d u1d r1d q0d q1d q0 q1 k0 k4 k5 k6 k7;obtain⟨z,hz⟩:∃ z,cmpD q (a :: r,xn)=z:=⟨_,rfl⟩
          rw [hz]
          by_cases hzn:z < 0
          case neg =>
           have HF:=zH (show mayB l=false by
            rw [HMM.out];have:ze6 p2.getLast? all2 (a :: r,xn)=false:=by rw [hp];simp [ze6];intro _ _ hlt;rw [hz] at hlt;exact absurd hlt hzn
            rw [this];rfl)
           have kz:z ≥ 0:=(by omega);clear hp hz h0;go_wp2_with fail;go_ret;exact⟨by rw [HF.out];rfl,HX2.out.trans hx3⟩
          case' pos=>have HOK:=zH (show ze6 p2.getLast? all2 (a :: r,xn) = !decide ((a :: r,xn) ∈ all2) by rw [hp];simp [ze6,hz,hzn];omega);have kz:¬ z ≥ 0:=(by omega);clear hp hz h0
         all_goals
          have v0:=hx3.cell u0;have v1:=hx3.cell u1;have w0:=hx3.cell r0;have w1:=hx3.cell r1;have hS3:=HS2.out.ext hx3;have hlk:=znq (P:=Tryz.prog) Tryz.underlying188 zt2 zv5 hS3 (a :: r,xn);have hx4:=(Ext.refl W3).alloc (.cells #[] 141)
          by_cases hmem:(a :: r,xn) ∈ all2
          ·have HF:=zH (show mayB l=false by rw [HMM.out,HOK.out];simp [hmem]);simp only [hmem,decide_true] at hlk;clear hmem hS3;go_wp2_with fail;go_ret;exact⟨by rw [HF.out];rfl,(HX2.out.trans hx3).alloc _⟩
          ·have HF:=zH (show mayB l=(match zdi (p2++[(a :: r,xn)]).getLast? (addK all2 (a :: r,xn)) q2 with | none=>false | some a=>zcu (some it.1) a post) by
            rw [HMM.out,HOK.out];have:addK all2 (a :: r,xn)=all2++[(a :: r,xn)]:=by unfold addK;rw [if_neg hmem]
            rw [this];simp [hmem])
           simp only [hmem,decide_false] at hlk;obtain⟨w5,hup,hs5,ht5⟩:=zdg (P:=Tryz.prog) Tryz.underlying188 zt2 (hS3.ext hx4) (a :: r,xn);have hwa:=hS3.lt;have HS5:=zH hs5;have v0a:=hx4.cell v0;have v1a:=hx4.cell v1;have y0:=ht5.cell (hx4.cell w0) (by omega);have y1:=ht5.cell (hx4.cell w1) (by omega);have HX5:=zH (((HX2.out.trans hx3).trans hx4).turned ht5 (Nat.le_refl _));clear hmem hS3 hs5 ht5 hx3 hx4;go_wp2_with fail;go_roundw
           case rel=>exact⟨p2++[(a :: r,xn)],q2,_,by rw [HL2.out];simp,by simp,HF,HS5.out,⟨y0,y1⟩,HX5.out⟩
           case measure=>simp [intOf];omega
       ·have HF:=zH (show mayB l=false by rw [HMM.out];simp only [ze6,Bool.eq_false_iff.2 hd];rfl);clear HMM hpd HIN HS2;obtain⟨xs,xn⟩:=x
        cases xs with
        | nil=>go_wp2_with fail;generalize wr.alloc (.cells #[St [],U xn] 59)=W2 at *;go_quiet (fail);go_wp2_with fail;go_ret;exact⟨by rw [HF.out];rfl,HX2.out.drewN _⟩
        | cons a r =>
         by_cases h1:1<=xn
         ·have h2:281474976710656 < xn:=by
           simp at hd;omega
          have kA:decide ((xn:Int) < 1)=false:=decide_eq_false (by omega);have kB:decide ((281474976710656:Int) < (xn:Int))=true:=decide_eq_true (by omega);clear hd;go_wp2_with fail;generalize wr.alloc (.cells #[St (a :: r),U xn] 59)=W2 at *;go_quiet (fail);go_wp2_with fail;go_ret;exact⟨by rw [HF.out];rfl,HX2.out.drewN _⟩
         ·obtain rfl:xn=0:=by omega
          clear hd h1;go_wp2_with fail;generalize wr.alloc (.cells #[St (a :: r),U 0] 59)=W2 at *;go_quiet (fail);go_wp2_with fail;go_ret;exact⟨by rw [HF.out];rfl,HX2.out.drewN _⟩
      | nil =>
       rw [List.append_nil] at hl2;have hlen2:it.2.length=p2.length:=(by rw [hl2]);have HF:=zH (show mayB l=zcu ((pre++[it]).getLast?.map (·.1)) all2 post by rw [hm2.out];simp [zdi]);have HS2:=zH hS2;have HX2:=zH hx2;clear hl2 hm2 hS2 hx2 s0 s1;go_wp2_with fail;go_roundw
       case rel=>exact⟨pre++[it],post,all2,by rw [HL.out];simp,by simp,HF,HS2.out,HX2.out⟩
       case measure=>simp [intOf];omega
   ·have HF:=zH (show mayB l=false by rw [HM.out,if_neg hok]);rcases hprev with ⟨h0,hp⟩ | ⟨h0,q,hp,q0⟩
    ·rw [hp] at hok;have k0:¬ (pre.length:Int) > 0:=(by omega);have k0n:¬ 0 < pre.length:=by omega
     by_cases hL:4096 < it.1.length
     ·have k1:(it.1.length:Int) > 4096:=(by omega);clear hp hok h0;go_wp2_with fail;generalize wr.alloc (.cells #[St it.1,.slice A2 it.2.length c2] 57)=W1 at *;go_quiet (fail);go_wp2_with fail;go_ret;exact⟨by rw [HF.out];rfl,HX.out.drewN _⟩
     ·have k1:¬ (it.1.length:Int) > 4096:=by omega
      have hE:it.2.length=0:=by
       unfold zfr at hok
       cases h2:it.2 with
       | nil=>rfl
       | cons a r=>exact absurd (by simp [h2];omega) hok
      clear hp hok HIN HM HS h0;obtain⟨ts,ds⟩:=it;obtain rfl:ds = []:=List.eq_nil_of_length_eq_zero hE;clear hE;simp only [List.length_nil] at t0 t1 hd1 hc3 HX ⊢;have k1e:¬ (ts.length:Int) > 4096:=k1;have k1d:decide ((4096:Int) < (List.length ts:Int))=false:=decide_eq_false (by omega);clear k1;go_wp2_with fail;generalize wr.alloc (.cells #[St ts,.slice A2 0 c2] 57)=W1 at *;go_quiet (fail);go_wp2_with fail;go_ret;exact⟨by rw [HF.out];rfl,HX.out.drewN _⟩
    ·rw [hp] at hok;have k0:(pre.length:Int) > 0:=(by omega);have k4:=zfs h0 (by omega);have k5:((pre.length - 1:Nat):Int) < (l.length:Int):=(by omega);have k6:(0:Int)<=((pre.length - 1:Nat):Int):=(by omega);have k7:(((pre.length - 1:Nat):Int)).toNat=pre.length - 1:=(by omega);cases hq:ltS q.1 it.1
     ·clear hp hok;go_wp2_with fail;generalize wr.alloc (.cells #[St it.1,.slice A2 it.2.length c2] 57)=W1 at *;go_quiet (fail);go_wp2_with fail;go_ret;exact⟨by rw [HF.out];rfl,HX.out.drewN _⟩
     ·by_cases hL:4096 < it.1.length
      ·have k1:(it.1.length:Int) > 4096:=(by omega);clear hp hok;go_wp2_with fail;generalize wr.alloc (.cells #[St it.1,.slice A2 it.2.length c2] 57)=W1 at *;go_quiet (fail);go_wp2_with fail;go_ret;exact⟨by rw [HF.out];rfl,HX.out.drewN _⟩
      ·have k1:¬ (it.1.length:Int) > 4096:=by omega
       have hE:it.2.length=0:=by
        unfold zfr at hok
        cases h2:it.2 with
        | nil=>rfl
        | cons a r=>exact absurd (by simp [h2,hq];omega) hok
       clear hp hok HIN HM HS;obtain⟨ts,ds⟩:=it;obtain rfl:ds = []:=List.eq_nil_of_length_eq_zero hE;clear hE;simp only [List.length_nil] at t0 t1 hd1 hc3 HX ⊢;have k1e:¬ (ts.length:Int) > 4096:=k1;have k1d:decide ((4096:Int) < (List.length ts:Int))=false:=decide_eq_false (by omega);clear k1;go_wp2_with fail;generalize wr.alloc (.cells #[St ts,.slice A2 0 c2] 57)=W1 at *;go_quiet (fail);go_wp2_with fail;go_ret;exact⟨by rw [HF.out];rfl,HX.out.drewN _⟩
  | nil=>rw [List.append_nil] at hl;have hlen:l.length=pre.length:=(by rw [hl]);have HF:=zH (show mayB l=true by rw [hm.out];rfl);have HX:=zH hx;clear hl hm hS hx;go_wp2_with fail;go_ret;exact⟨by rw [HF.out];rfl,HX.out⟩
end
section
open Go.Sort
def OkD (d:Dot):Prop:=d.1 ≠ []/\1<=d.2/\d.2<=281474976710656
def zem (l:List Item):List Dot:=l.flatMap (·.2)
def GoodB (l:List Item):Prop:=(l.Pairwise fun a b=>ltS a.1 b.1=true)/\(∀ it ∈ l,it.1.length<=4096/\it.2 ≠ []/\it.2.Pairwise fun a b=>ltOf cmpD a b=true)/\(∀ d ∈ zem l,OkD d)/\(zem l).Nodup
theorem okDot_iff {prev:Option Dot} {all:List Dot} {d:Dot}:ze6 prev all d=true↔OkD d/\(∀ q,prev=some q->ltOf cmpD q d=true)/\d ∉ all:=by
 unfold ze6 OkD ltOf
 cases prev with
 | none=>simp [and_assoc]
 | some q=>simp [and_assoc]
theorem zhz:∀ (ds:List Dot) (prev:Option Dot) (all:List Dot),(all.Nodup)->∀ r,zdi prev all ds=some r↔r=all++ds/\(∀ d ∈ ds,OkD d)/\(ds.Pairwise fun a b=>ltOf cmpD a b=true)/\(∀ q,prev=some q->∀ d ∈ ds,ltOf cmpD q d=true)/\(all++ds).Nodup
 | [],prev,all,hn,r=>by
  unfold zdi
  constructor
  ·intro e;cases e;exact⟨(List.append_nil _).symm,by simp,.nil,by simp,by simpa using hn⟩
  ·rintro⟨rfl,-⟩;rw [List.append_nil]
 | d :: s,prev,all,hn,r=>by
  unfold zdi
  by_cases h:ze6 prev all d=true
  ·rw [if_pos h];obtain⟨h1,h2,h3⟩:=okDot_iff.1 h
   have hn2:(all++[d]).Nodup:=by rw [List.nodup_append];exact⟨hn,by simp,fun a ha b hb=>by simp at hb;subst hb;rintro rfl;exact h3 ha⟩
   rw [zhz s (some d) (all++[d]) hn2 r];rw [List.append_assoc,List.singleton_append]
   constructor
   ·rintro⟨e,k1,k2,k3,k4⟩;have k3':=k3 d rfl;refine ⟨e,fun x hx=>?_,List.pairwise_cons.2 ⟨k3',k2⟩,fun q hq x hx=>?_,k4⟩
    ·rcases List.mem_cons.1 hx with rfl | hx
     ·exact h1
     ·exact k1 x hx
    ·rcases List.mem_cons.1 hx with rfl | hx
     ·exact h2 q hq
     ·exact zih _ _ _ (h2 q hq) (k3' x hx)
   ·rintro⟨e,k1,k2,k3,k4⟩;exact⟨e,fun x hx=>k1 x (by simp [hx]),(List.pairwise_cons.1 k2).2,fun q hq x hx=>by cases hq;exact (List.pairwise_cons.1 k2).1 x hx,k4⟩
  ·rw [if_neg h]
   constructor
   ·intro e;cases e
   ·rintro⟨e,k1,k2,k3,k4⟩;refine absurd (okDot_iff.2 ⟨k1 d (by simp),fun q hq=>k3 q hq d (by simp),fun hd=>?_⟩) h;exact (List.nodup_append.1 k4).2.2 d hd d (by simp) rfl
theorem okText_iff {prev:Option Str} {it:Item}:zfr prev it=true↔(∀ s,prev=some s->ltS s it.1=true)/\it.1.length<=4096/\it.2 ≠ []:=by
 unfold zfr
 cases prev with
 | none=>simp
 | some s=>simp [and_assoc]
theorem zjr:∀ (l:List Item) (prev:Option Str) (all:List Dot),all.Nodup->(zcu prev all l=true↔(l.Pairwise fun a b=>ltS a.1 b.1=true)/\(∀ it ∈ l,it.1.length<=4096/\it.2 ≠ []/\it.2.Pairwise fun a b=>ltOf cmpD a b=true)/\(∀ d ∈ zem l,OkD d)/\(all++zem l).Nodup/\∀ s,prev=some s->∀ it ∈ l,ltS s it.1=true)
 | [],prev,all,hn=>by simp [zcu,zem,hn]
 | it :: r,prev,all,hn=>by
  unfold zcu;have hd:zem (it :: r)=it.2++zem r:=by simp [zem]
  rw [hd]
  by_cases h:zfr prev it=true
  ·rw [if_pos h];obtain⟨h1,h2,h3⟩:=okText_iff.1 h
   cases hr:zdi none all it.2 with
   | none =>
    simp only [Bool.false_eq_true,false_iff];rintro⟨k1,k2,k3,k4,k5⟩
    have hh:=(zhz it.2 none all hn (all++it.2)).2 ⟨rfl,fun d hd=>k3 d (List.mem_append_left _ hd),(k2 it (by simp)).2.2,by simp,by rw [<- List.append_assoc] at k4;exact (List.nodup_append.1 k4).1⟩
    rw [hr] at hh;cases hh
   | some a =>
    obtain⟨rfl,g1,g2,-,g4⟩:=(zhz it.2 none all hn a).1 hr;simp only;rw [zjr r (some it.1) _ g4,List.append_assoc]
    constructor
    ·rintro⟨k1,k2,k3,k4,k5⟩;have k5':=k5 it.1 rfl;refine ⟨List.pairwise_cons.2 ⟨k5',k1⟩,fun x hx=>?_,fun d hd=>?_,k4,fun s hs x hx=>?_⟩
     ·rcases List.mem_cons.1 hx with rfl | hx
      ·exact⟨h2,h3,g2⟩
      ·exact k2 x hx
     ·rcases List.mem_append.1 hd with hd | hd
      ·exact g1 d hd
      ·exact k3 d hd
     ·rcases List.mem_cons.1 hx with rfl | hx
      ·exact h1 s hs
      ·exact zaw (h1 s hs) (k5' x hx)
    ·rintro⟨k1,k2,k3,k4,k5⟩;exact⟨(List.pairwise_cons.1 k1).2,fun x hx=>k2 x (by simp [hx]),fun d hd=>k3 d (List.mem_append_right _ hd),k4,fun s hs x hx=>by cases hs;exact (List.pairwise_cons.1 k1).1 x hx⟩
  ·rw [if_neg h];simp only [Bool.false_eq_true,false_iff];rintro⟨k1,k2,k3,k4,k5⟩;exact h (okText_iff.2 ⟨fun s hs=>k5 s hs it (by simp),(k2 it (by simp)).1,(k2 it (by simp)).2.1⟩)
theorem mayB_iff {l:List Item}:mayB l=true↔GoodB l:=by
 unfold mayB;rw [zjr l none [] .nil];unfold GoodB;simp
theorem zix {α:Type} {P:List α->Prop} (h0:P []) (h1:∀ l a,P l->P (l++[a])) (l:List α):P l:=by
 have h:∀ r:List α,P r.reverse:=by
  intro r
  induction r with
  | nil=>exact h0
  | cons a r ih=>rw [List.reverse_cons];exact h1 _ _ ih
 have:=h l.reverse
 rwa [List.reverse_reverse] at this
theorem zle (l:List Item) (p:zan):zac (zbq l p)=zac l++[p]:=by
 rcases List.eq_nil_or_concat l with rfl | ⟨pre,it,rfl⟩
 ·simp [zbq,zac]
 ·by_cases h:it.1=p.1
  ·obtain⟨t,ds⟩:=it;obtain⟨s,d⟩:=p;simp only at h;subst h;rw [List.concat_eq_append,zf0];simp [zac]
  ·rw [List.concat_eq_append,zfh _ _ _ (by simpa using h)];simp [zac]
theorem zee (ps:List zan):zac (zdo ps)=ps:=by
 induction ps using zix with
 | h0=>rfl
 | h1 ps p ih=>rw [zf4,zle,ih]
theorem zfg {l:List Item} {it:Item} {d:Dot} (h:it ∈ l) (hd:d ∈ it.2):(it.1,d) ∈ zac l:=List.mem_flatMap.2 ⟨it,h,List.mem_map.2 ⟨d,hd,rfl⟩⟩
theorem zf6 (ps:List zan):ps.Pairwise (fun a b=>ltOf cmpP a b=true)->((zdo ps).Pairwise fun a b=>ltS a.1 b.1=true)/\∀ it ∈ zdo ps,it.2 ≠ []/\it.2.Pairwise fun a b=>ltOf cmpD a b=true:=by
 induction ps using zix with
 | h0=>intro _;exact⟨.nil,fun it h=>by cases h⟩
 | h1 ps p ih =>
  intro hp;obtain⟨hp1,-,hp2⟩:=List.pairwise_append.1 hp;have hlt:∀ q ∈ ps,ltOf cmpP q p=true:=fun q hq=>hp2 q hq p (by simp)
  obtain⟨h1,h2⟩:=ih hp1;have hpl:=zee ps;rw [zf4];generalize zdo ps=l at *;rcases List.eq_nil_or_concat l with rfl | ⟨pre,it,rfl⟩
  ·rw [znr];exact⟨by simp,fun it h=>by simp at h;subst h;simp⟩
  ·rw [List.concat_eq_append] at *
   by_cases h:it.1=p.1
   ·obtain⟨t,ds⟩:=it;obtain⟨s,d⟩:=p;simp only at h;subst h;rw [zf0];obtain⟨k1,-,k2⟩:=List.pairwise_append.1 h1;refine ⟨List.pairwise_append.2 ⟨k1,by simp,fun a ha b hb=>?_⟩,fun x hx=>?_⟩
    ·simp only [List.mem_singleton] at hb;subst hb;exact k2 a ha (t,ds) (by simp)
    ·rcases List.mem_append.1 hx with hx | hx
     ·exact h2 x (List.mem_append_left _ hx)
     ·simp only [List.mem_singleton] at hx;subst hx;refine ⟨by simp,List.pairwise_append.2 ⟨(h2 (t,ds) (by simp)).2,by simp,fun a ha b hb=>?_⟩⟩;simp only [List.mem_singleton] at hb;subst hb;have hm:=hlt (t,a) (by rw [<- hpl];exact zfg (it:=(t,ds)) (by simp) ha);rcases cmpP_lt.1 hm with hm | hm
      ·rw [zal] at hm;cases hm
      ·exact hm.2
   ·rw [zfh _ _ _ (by simpa using h)]
    have hlast:ltS it.1 p.1=true:=by
     obtain⟨h3,-⟩:=h2 it (by simp)
     cases hds:it.2 with
     | nil=>exact absurd hds h3
     | cons a r =>
      have hm:=hlt (it.1,a) (by rw [<- hpl];exact zfg (by simp) (by rw [hds];simp));rcases cmpP_lt.1 hm with hm | hm
      ·exact hm
      ·exact absurd hm.1 h
    refine ⟨List.pairwise_append.2 ⟨h1,by simp,fun a ha b hb=>?_⟩,fun x hx=>?_⟩
    ·simp only [List.mem_singleton] at hb;subst hb;rcases List.mem_append.1 ha with ha | ha
     ·exact zaw ((List.pairwise_append.1 h1).2.2 a ha it (by simp)) hlast
     ·simp only [List.mem_singleton] at ha;subst ha;exact hlast
    ·rcases List.mem_append.1 hx with hx | hx
     ·exact h2 x hx
     ·simp only [List.mem_singleton] at hx;subst hx;simp
theorem zqc (l:List Item):zem l=(zac l).map (·.2):=by
 unfold zem zac;rw [List.map_flatMap]
 congr 1
 funext it
 simp [Function.comp_def]
theorem zh0 {ps:List zan} (hn:ps.Nodup):(zb7 (ltOf cmpP) ps).Pairwise fun a b=>ltOf cmpP a b=true:=by
 have h1:=zcn zfz ps;have h2:(zb7 (ltOf cmpP) ps).Nodup:=(zbh ps).nodup_iff.2 hn
 exact (h1.and h2).imp fun {a b} h=>by
  rcases zk4 a b with k | k | k
  ·exact k
  ·exact absurd k h.2
  ·rw [h.1] at k;cases k
end
end Go.Proofs.YtaabaflgeljbjaaGreat
