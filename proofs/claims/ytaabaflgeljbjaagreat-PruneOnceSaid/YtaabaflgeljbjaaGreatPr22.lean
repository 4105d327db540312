/- Laws. -/
import Derived.Test.YtaabaflgeljbjaaGreatPr18
import Derived.Test.YtaabaflgeljbjaaGreatPr19
import Derived.Test.YtaabaflgeljbjaaGreatPr20
import Derived.Test.YtaabaflgeljbjaaGreatPr21
import Derived.Test.YtaabaflgeljbjaaGreatPr15
import Derived.Test.YtaabaflgeljbjaaGreatPr12
set_option linter.unusedVariables false
set_option linter.unusedSimpArgs false
set_option maxRecDepth 100000
set_option maxHeartbeats 40000000
namespace Go.Proofs.YtaabaflgeljbjaaGreat
section
open Go.RowKit Go.Shelf Go.Sort
theorem zss {tid base:Nat} {v:Value} {l:List zan} {w:World} (h:Own w base tid 3 v l.length (l.flatMap zcm)) {pre post:List zan} {m:zan} (hl:l=pre++m :: post) :
  ∃ g c,v=.slice (some ⟨g,0,none⟩) l.length c/\∀ w',Ext w w'->w'.cell? ⟨g,pre.length * 3,none⟩=some (St m.1)/\w'.cell? ⟨g,pre.length * 3+1,none⟩=some (St m.2.1)/\w'.cell? ⟨g,pre.length * 3+2,none⟩=some (U m.2.2):=by
 obtain⟨g,cap,cur,rfl,-,-,-⟩:=h.pos (by rw [hl];simp;omega);have hp:=zg6 pre
 have e:∀ j,(zcm m)[j]? = (l.flatMap zcm)[pre.length * 3+j]? ∨ 3<=j:=fun j=>by
  rcases Nat.lt_or_ge j 3 with hj | hj
  ·left
   rw [hl,List.flatMap_append,List.flatMap_cons,<- hp,List.getElem?_append_right (by omega),Nat.add_sub_cancel_left,List.getElem?_append_left (by simp [zcm];omega)]
  ·exact .inr hj
 refine ⟨g,cap,rfl,fun w' hx=>?_⟩;have h0:=(e 0).resolve_right (by omega);have h1:=(e 1).resolve_right (by omega);have h2:=(e 2).resolve_right (by omega);exact⟨hx.cell (h.cell rfl h0.symm),hx.cell (h.cell rfl h1.symm),hx.cell (h.cell rfl h2.symm)⟩
theorem zn0:∀ ps:List zan,(zep ps).length<=ps.length:=by
 have:∀ (ps:List zan) (l:List Item),(ps.foldl zb5 l).length<=l.length+ps.length:=by
  intro ps
  induction ps with
  | nil=>simp
  | cons p r ih =>
   intro l;rw [List.foldl_cons];refine Nat.le_trans (ih _) ?_
   have:(zb5 l p).length<=l.length+1:=by
    unfold zb5
    split
    ·simp
    ·rename_i it he
     split
     ·have:l ≠ []:=by rintro rfl;simp at he
      have:=List.length_pos_iff.2 this;simp;(try omega)
     ·simp
   simp;omega
 intro ps
 simpa [zep] using this ps []
theorem zoy {l:List Item} {p:zan} {n:Nat} (hl:∀ it ∈ l,it.2.length<=n):∀ it ∈ zb5 l p,it.2.length<=n+1:=by
 intro it h;unfold zb5 at h
 split at h
 ·simp at h;subst h;simp
 ·rename_i a ha;have ham:a ∈ l:=List.mem_of_getLast? ha
  split at h
  ·rcases List.mem_append.1 h with h | h
   ·exact Nat.le_succ_of_le (hl it (List.dropLast_subset _ h))
   ·simp at h;subst h;simp;exact hl a ham
  ·rcases List.mem_append.1 h with h | h
   ·exact Nat.le_succ_of_le (hl it h)
   ·simp at h;subst h;simp
theorem zst (ps:List zan):∀ it ∈ zep ps,it.2.length<=ps.length:=by
 have:∀ (ps:List zan) (l:List Item) (n:Nat),(∀ it ∈ l,it.2.length<=n)->∀ it ∈ ps.foldl zb5 l,it.2.length<=n+ps.length:=by
  intro ps
  induction ps with
  | nil=>intro l n hl it h;exact hl it h
  | cons p r ih=>intro l n hl it h;have:=ih (zb5 l p) (n+1) (zoy hl) it h;simp only [List.length_cons];omega
 intro it h;have:=this ps [] 0 (by simp) it h;omega
def yb6 (W:World) (base:Nat) (v:Value) (ps:List zan):Prop :=
 (ps = []/\v=.slice none 0 0) ∨ ∃ its last,zep ps=its++[last]/\ItemsAt W base v its last
set_option maxRecDepth 100000 in
set_option maxHeartbeats 1000000 in
theorem zh8 {p : Nat} {ks : List zan} {w : World} (hm : SetOf zar w p ks) (hL : ks.length <= 1099511627776) :
   Calls Tryz.prog 145 #[.map (some p)] w fun e w' => ∃ v', e = .returned v' /\ OwnL itemT 57 w' w.heap.size (fun b => w.heap.size <= b) v' (za7 ks) /\ Ext w w' := by
 have HK := zH (zwy p w)
 have hxk := (Ext.refl w).alloc (.cells #[.map (some p)] 217)
 have HS := zH (zsr (B := w.heap.size) (by simp [go_sem]) (hm.ext hxk) hL)
 clear hm
 go_enter Tryz.func145, Tryz.ntmps145
 go_wp2_with fail
 refine HK.out.mono ?_
 rintro e wk ⟨rfl, rfl⟩
 go_wp2_with fail
 refine HS.out.mono ?_
 rintro e W2 ⟨vk, rfl, hks, hx2⟩
 have hkl : (zco (ltOf cmpP) ks).length = ks.length := (zbq _).length_eq
 have HI := zH (show za7 ks = zep (zco (ltOf cmpP) ks) from rfl)
 generalize zco (ltOf cmpP) ks = qs at *
 have hkl2 : qs.length <= 1099511627776 := by omega
 clear hkl
 have HW2 := zH (hxk.trans hx2)
 have hff := hks.form
 obtain ⟨A, c, rfl, hc1, hc2⟩ := hff
 have HAT := zH (fun (pre post : List zan) (m : zan) (hl : qs = pre ++ m :: post) => zss hks hl)
 clear hks hx2 hxk
 go_wp2_with fail
 go_loopw [4, 13] (fun l i wr => ∃ pre post, qs = pre ++ post /\ i = I pre.length /\ Hid (yb6 wr W2.heap.size l pre) /\ Ext W2 wr) (fun _ i _ => qs.length - (intOf i).toNat)
 case atStart => exact ⟨[], qs, rfl, rfl, zH (.inl ⟨rfl, rfl⟩), Ext.refl _⟩
 case round =>
   obtain ⟨pre, post, hl, rfl, hrow, hx⟩ := hrel
   cases post with
   | cons q post =>
     obtain ⟨gk, ck, e, hcells⟩ := HAT.out pre post q hl
     obtain ⟨rfl, rfl⟩ : A = some ⟨gk, 0, none⟩ /\ c = ck := by injection e with e1 e2 e3; exact ⟨e1, e3⟩
     obtain ⟨hd0, hd1, hd2⟩ := hcells wr hx
     have hlt : pre.length < qs.length := by rw [hl]; simp
     have HL := zH hl
     have hx1 := (Ext.refl wr).alloc (.cells #[St q.1, St q.2.1, U q.2.2] 220)
     have b0 : (wr.alloc (.cells #[St q.1, St q.2.1, U q.2.2] 220)).cell? ⟨wr.heap.size, 0, none⟩ = some (St q.1) := by simp [go_sem]
     have b1 : (wr.alloc (.cells #[St q.1, St q.2.1, U q.2.2] 220)).cell? ⟨wr.heap.size, 1, none⟩ = some (St q.2.1) := by simp [go_sem]
     have b2 : (wr.alloc (.cells #[St q.1, St q.2.1, U q.2.2] 220)).cell? ⟨wr.heap.size, 2, none⟩ = some (U q.2.2) := by simp [go_sem]
     have HX := zH (hx.trans hx1)
     have hn3 := hx.size
     have hsz1 : wr.heap.size + 1 <= (wr.alloc (.cells #[St q.1, St q.2.1, U q.2.2] 220)).heap.size := by simp
     have hsz2 : (wr.alloc (.cells #[St q.1, St q.2.1, U q.2.2] 220)).heap.size <= wr.heap.size + 1 := by simp
     clear hl hx e hcells
     rcases hrow.out with ⟨rfl, rfl⟩ | ⟨its, ⟨t, ds⟩, hg, hI⟩
     · clear hrow
       simp only [List.length_nil, Nat.zero_mul, Nat.zero_add] at hd0 hd1 hd2 hlt ⊢
       go_wp2_with fail
       generalize wr.alloc (.cells #[St q.1, St q.2.1, U q.2.2] 220) = W1 at *
       go_quiet (fail)
       go_wp2_with (at_builtin; refine zal rfl (.tmp 32) (.tmp 36) 42 rfl W2.heap.size 57 2 40 (.agg #[St [], .slice none 0 0]) Tryz.underlying42 zlh rfl (by omega) _ 0 [] rfl (Own.nil _ _ _ _ _) _ 1 1 _ rfl (Src.new rfl (by intro u hu; simp at hu; rcases hu with rfl | rfl <;> rfl)) (by omega) (by omega) (by first | omega | (simp; omega)) ?_; intro v' W3 hown hgr
                    have hI := ItemsAt.first q.1 (by simpa using hown)
                    have hxa : Ext W1 W3 := Ext.grew ((((Ext.refl W1).drewN _).alloc _)) hgr (fun b ⟨g, n, c, e, _, _⟩ => by cases e)
                    have c1 := hxa.cell b1
                    have c2 := hxa.cell b2
                    obtain ⟨g, cap, dv, rfl, hcap1, hcap2, hgb, t0, t1, tf, hdv, hdg⟩ := hI.tells
                    obtain ⟨Ad, cd, rfl, hcd1, hcd2⟩ := hdv.form
                    simp only [List.length_nil, Nat.zero_mul, Nat.zero_add] at hcap1 t0 t1 tf ⊢)
       have HX3 := zH (HX.out.trans hxa)
       have t1d := (Ext.refl W3).drew.cell t1
       have tfd := ((Ext.refl W3).drew.frozen (o := 1) (zae t1)).trans tf
       have hId := zH (hI.ext (Ext.refl W3).drew)
       have HXD := zH (HX3.out.drew)
       have hglt := zae t1d
       have hwd := HXD.out.size
       have hwd3 := HX3.out.size
       have t1a := ((Ext.refl W3).alloc (.cells #[St q.2.1, U q.2.2] 59)).cell t1
       have hvd := zH (hdv.ext (Ext.refl W3).drew)
       clear hI hdv
       go_region_law (refine zg7 rfl (.tmp 47) (.tmp 50) 55 rfl W2.heap.size 59 2 24 (.agg #[St [], U 0]) Tryz.underlying55 zkj rfl (by omega) (.slice Ad 0 cd) 0 (([] : List Dot).flatMap zaj) (by simp [Act.eval, Act.put]) (hvd.out.alloc _) (some ⟨W3.heap.size, 0, none⟩) 1 1 [St q.2.1, U q.2.2] (by simp [Act.eval, Act.put]) (Src.new rfl (by intro u hu; simp at hu; rcases hu with rfl | rfl <;> rfl)) (by omega) (by omega) (by first | omega | (simp; omega)) ?_; intro dv' W5 hown5 hgr5
                      have hxe := (Ext.refl W3.drew).alloc (.cells #[St q.2.1, U q.2.2] 59)
                      have hsame5 := hgr5.same g (Nat.lt_of_lt_of_le hglt hxe.size) (fun hb => hdg _ hb rfl)
                      have t5 : W5.cell? ⟨g, 1, none⟩ = some (.slice Ad 0 cd) := (World.cell?_of_block (a := ⟨g, 1, none⟩) hsame5).trans (hxe.cell t1d)
                      have tf5 : W5.frozen? ⟨g, 1, none⟩ = false := by
                        have h := (hxe.frozen (o := 1) hglt).trans tfd
                        unfold World.frozen? at h ⊢
                        simp only [] at h ⊢
                        rw [hsame5]
                        exact h
                      have hg5 : Grew (W3.drew.alloc (.cells #[St q.2.1, U q.2.2] 59)) W5 (.slice Ad 0 cd) dv' := hgr5
                      have hi : ItemsAt (W3.drew.alloc (.cells #[St q.2.1, U q.2.2] 59)) W2.heap.size (.slice (some ⟨g, 0, none⟩) (0 + 1) cap) [] (q.1, []) := hId.out.ext hxe
                      have hI5 := zH (ItemsAt.dotN (n := 0) (its := []) rfl (d := q.2) hi (hxe.cell t1d) hg5 hown5)
                      have HX5 := zH (Ext.grewOwn (HXD.out.alloc _) hg5 (hvd.out.alloc _) (Nat.le_refl _))
                      obtain ⟨Ae, ce, rfl, hce1, hce2⟩ := hown5.form
                      clear hxe hsame5 hi hown5 hgr5 hg5)
       all_goals
         go_wp2
         go_roundw
         case rel => exact ⟨[] ++ [q], post, by rw [HL.out]; simp, by simp, zH (.inr ⟨[], (q.1, [] ++ [q.2]), rfl, hI5.out⟩), HX5.out.set (by simpa using hgb) _⟩
         case measure => simp [intOf]; omega
     · have HG := zH hg
       clear hrow hg
       have hI1 := hI.ext hx1
       obtain ⟨g, cap, dv, rfl, hcap1, hcap2, hgb, t0, t1, tf, hdv, hdg⟩ := hI1.tells
       obtain ⟨Ad, cd, rfl, hcd1, hcd2⟩ := hdv.form
       have HI1 := zH hI1
       have HDV := zH hdv
       have HDG := zH hdg
       have hgl := zn0 pre
       rw [HG.out, List.length_append, List.length_singleton] at hgl
       have hdl : ds.length <= pre.length := zst pre (t, ds) (by rw [HG.out]; simp)
       have hgw : g < wr.heap.size := by
         obtain ⟨g2, _, _, e, _, _, _, tt, -⟩ := hI.tells
         cases e
         exact zae tt
       have k1 : (((its.length : Int) + 1) == 0) = false := by rw [beq_eq_false_iff_ne]; omega
       have k4 : IntKind.i64.wrap ((its.length : Int) + 1 - 1) = its.length := by rw [show (its.length : Int) + 1 - 1 = its.length by omega]; simp [IntKind.wrap, IntKind.signed, IntKind.bits]; omega
       have k5 : IntKind.i64.wrap (its.length : Int) = its.length := by simp [IntKind.wrap, IntKind.signed, IntKind.bits]; omega
       have k6 : ((its.length : Int)).toNat = its.length := by omega
       have k7 : (0 : Int) <= (its.length : Int) := by omega
       have k8 : (its.length : Int) < (its.length : Int) + 1 := by omega
       clear hI hI1 hdv hdg
       by_cases htq : t = q.1
       · subst htq
         go_wp2_with fail
         generalize wr.alloc (.cells #[St q.1, St q.2.1, U q.2.2] 220) = W1 at *
         go_quiet (fail)
         go_wp2_with fail
         have hxn : Ext W1 (W1.drewN nq) := (Ext.refl W1).drewN nq
         generalize W1.drewN nq = W3 at *
         have hI := HI1.out.ext hxn
         have hdv := HDV.out.ext hxn
         have hdg := HDG.out
         have HX3 := zH (HX.out.trans hxn)
         have c1 := hxn.cell b1
         have c2 := hxn.cell b2
         have t1 := (show W3.cell? ⟨g, its.length * 2 + 1, none⟩ = some (.slice Ad ds.length cd) from hxn.cell ‹W1.cell? ⟨g, its.length * 2 + 1, none⟩ = some (.slice Ad ds.length cd)›)
         have tf := (hxn.frozen (o := its.length * 2 + 1) (zae ‹W1.cell? ⟨g, its.length * 2 + 1, none⟩ = some (.slice Ad ds.length cd)›)).trans ‹W1.frozen? ⟨g, its.length * 2 + 1, none⟩ = false›
         have t1d := (Ext.refl W3).drew.cell t1
         have tfd := ((Ext.refl W3).drew.frozen (o := (its.length * 2 + 1)) (zae t1)).trans tf
         have hId := zH (hI.ext (Ext.refl W3).drew)
         have HXD := zH (HX3.out.drew)
         have hglt := zae t1d
         have hwd := HXD.out.size
         have hwd3 := HX3.out.size
         have t1a := ((Ext.refl W3).alloc (.cells #[St q.2.1, U q.2.2] 59)).cell t1
         have hvd := zH (hdv.ext (Ext.refl W3).drew)
         clear hI hdv
         go_region_law (refine zg7 rfl (.tmp 47) (.tmp 50) 55 rfl W2.heap.size 59 2 24 (.agg #[St [], U 0]) Tryz.underlying55 zkj rfl (by omega) (.slice Ad ds.length cd) ds.length (ds.flatMap zaj) (by simp [Act.eval, Act.put]) (hvd.out.alloc _) (some ⟨W3.heap.size, 0, none⟩) 1 1 [St q.2.1, U q.2.2] (by simp [Act.eval, Act.put]) (Src.new rfl (by intro u hu; simp at hu; rcases hu with rfl | rfl <;> rfl)) (by omega) (by omega) (by first | omega | (simp; omega)) ?_; intro dv' W5 hown5 hgr5
                        have hxe := (Ext.refl W3.drew).alloc (.cells #[St q.2.1, U q.2.2] 59)
                        have hsame5 := hgr5.same g (Nat.lt_of_lt_of_le hglt hxe.size) (fun hb => hdg _ hb rfl)
                        have t5 : W5.cell? ⟨g, (its.length * 2 + 1), none⟩ = some (.slice Ad ds.length cd) := (World.cell?_of_block (a := ⟨g, (its.length * 2 + 1), none⟩) hsame5).trans (hxe.cell t1d)
                        have tf5 : W5.frozen? ⟨g, (its.length * 2 + 1), none⟩ = false := by
                          have h := (hxe.frozen (o := (its.length * 2 + 1)) hglt).trans tfd
                          unfold World.frozen? at h ⊢
                          simp only [] at h ⊢
                          rw [hsame5]
                          exact h
                        have hg5 : Grew (W3.drew.alloc (.cells #[St q.2.1, U q.2.2] 59)) W5 (.slice Ad ds.length cd) dv' := hgr5
                        have hi : ItemsAt (W3.drew.alloc (.cells #[St q.2.1, U q.2.2] 59)) W2.heap.size (.slice (some ⟨g, 0, none⟩) (its.length + 1) cap) its (q.1, ds) := hId.out.ext hxe
                        have hI5 := zH (ItemsAt.dotN (n := its.length) (its := its) rfl (d := q.2) hi (hxe.cell t1d) hg5 hown5)
                        have HX5 := zH (Ext.grewOwn (HXD.out.alloc _) hg5 (hvd.out.alloc _) (Nat.le_refl _))
                        obtain ⟨Ae, ce, rfl, hce1, hce2⟩ := hown5.form
                        clear hxe hsame5 hi hown5 hgr5 hg5)
         all_goals
           go_wp2
           go_roundw
           case rel => exact ⟨pre ++ [q], post, by rw [HL.out]; simp, by simp, zH (.inr ⟨its, (q.1, ds ++ [q.2]), (by rw [zhv, HG.out]; exact zhn _ _ _ _), hI5.out⟩), HX5.out.set (by simpa using hgb) _⟩
           case measure => simp [intOf]; omega
       · have hne : (t == q.1) = false := by simpa using htq
         have hne2 : (q.1 == t) = false := by simpa using (fun e => htq e.symm)
         go_wp2_with fail
         generalize wr.alloc (.cells #[St q.1, St q.2.1, U q.2.2] 220) = W1 at *
         go_quiet (fail)
         obtain ⟨xs, hxs, hmore⟩ := (HI1.out.ext (((Ext.refl W1).drewN nq).alloc (.cells #[St q.1, .slice none 0 0] 57))).row
         have HMORE := zH hmore
         clear hmore
         go_wp2_with (at_builtin; refine zal rfl (.tmp 32) (.tmp 36) 42 rfl W2.heap.size 57 2 40 (.agg #[St [], .slice none 0 0]) Tryz.underlying42 zlh rfl (by omega) _ (its.length + 1) xs rfl hxs _ 1 1 _ rfl (Src.new rfl (by intro u hu; simp at hu; rcases hu with rfl | rfl <;> rfl)) (by omega) (by omega) (by first | omega | (simp; omega)) ?_; intro v' W3 hown hgr
                      have hI := HMORE.out W3 v' q.1 hown hgr
                      have hxa : Ext W2 W3 := Ext.grewOwn ((HX.out.trans ((Ext.refl W1).drewN nq)).alloc (.cells #[St q.1, .slice none 0 0] 57)) hgr hxs (Nat.le_refl _)
                      have hxb := ((Ext.refl W1).drewN nq).alloc (.cells #[St q.1, .slice none 0 0] 57)
                      have c1 : W3.cell? ⟨wr.heap.size, 1, none⟩ = some (St q.2.1) := (World.cell?_of_block (a := ⟨wr.heap.size, 1, none⟩) (hgr.same wr.heap.size (zae (hxb.cell b1)) (fun ⟨g', n', c', e, _, e2⟩ => by cases e; omega))).trans (hxb.cell b1)
                      have c2 : W3.cell? ⟨wr.heap.size, 2, none⟩ = some (U q.2.2) := (World.cell?_of_block (a := ⟨wr.heap.size, 2, none⟩) (hgr.same wr.heap.size (zae (hxb.cell b2)) (fun ⟨g', n', c', e, _, e2⟩ => by cases e; omega))).trans (hxb.cell b2)
                      have HX3 := zH hxa
                      clear hcap1 hcap2 hgb t0 t1 tf
                      obtain ⟨g, cap, dv, rfl, hcap1, hcap2, hgb, t0, t1, tf, hdv, hdg⟩ := hI.tells
                      obtain ⟨Ad, cd, rfl, hcd1, hcd2⟩ := hdv.form
                      simp only [List.length_append, List.length_cons, List.length_nil, Nat.zero_add] at hcap1 t0 t1 tf hI ⊢)
         have t1d := (Ext.refl W3).drew.cell t1
         have tfd := ((Ext.refl W3).drew.frozen (o := ((its.length + 1) * 2 + 1)) (zae t1)).trans tf
         have hId := zH (hI.ext (Ext.refl W3).drew)
         have HXD := zH (HX3.out.drew)
         have hglt := zae t1d
         have hwd := HXD.out.size
         have hwd3 := HX3.out.size
         have t1a := ((Ext.refl W3).alloc (.cells #[St q.2.1, U q.2.2] 59)).cell t1
         have hvd := zH (hdv.ext (Ext.refl W3).drew)
         clear hI hdv
         go_region_law (refine zg7 rfl (.tmp 47) (.tmp 50) 55 rfl W2.heap.size 59 2 24 (.agg #[St [], U 0]) Tryz.underlying55 zkj rfl (by omega) (.slice Ad 0 cd) 0 (([] : List Dot).flatMap zaj) (by simp [Act.eval, Act.put]) (hvd.out.alloc _) (some ⟨W3.heap.size, 0, none⟩) 1 1 [St q.2.1, U q.2.2] (by simp [Act.eval, Act.put]) (Src.new rfl (by intro u hu; simp at hu; rcases hu with rfl | rfl <;> rfl)) (by omega) (by omega) (by first | omega | (simp; omega)) ?_; intro dv' W5 hown5 hgr5
                        have hxe := (Ext.refl W3.drew).alloc (.cells #[St q.2.1, U q.2.2] 59)
                        have hsame5 := hgr5.same g (Nat.lt_of_lt_of_le hglt hxe.size) (fun hb => hdg _ hb rfl)
                        have t5 : W5.cell? ⟨g, ((its.length + 1) * 2 + 1), none⟩ = some (.slice Ad 0 cd) := (World.cell?_of_block (a := ⟨g, ((its.length + 1) * 2 + 1), none⟩) hsame5).trans (hxe.cell t1d)
                        have tf5 : W5.frozen? ⟨g, ((its.length + 1) * 2 + 1), none⟩ = false := by
                          have h := (hxe.frozen (o := ((its.length + 1) * 2 + 1)) hglt).trans tfd
                          unfold World.frozen? at h ⊢
                          simp only [] at h ⊢
                          rw [hsame5]
                          exact h
                        have hg5 : Grew (W3.drew.alloc (.cells #[St q.2.1, U q.2.2] 59)) W5 (.slice Ad 0 cd) dv' := hgr5
                        have hi : ItemsAt (W3.drew.alloc (.cells #[St q.2.1, U q.2.2] 59)) W2.heap.size (.slice (some ⟨g, 0, none⟩) ((its.length + 1) + 1) cap) (its ++ [(t, ds)]) (q.1, []) := hId.out.ext hxe
                        have hI5 := zH (ItemsAt.dotN (n := its.length + 1) (its := (its ++ [(t, ds)])) (by simp) (d := q.2) hi (hxe.cell t1d) hg5 hown5)
                        have HX5 := zH (Ext.grewOwn (HXD.out.alloc _) hg5 (hvd.out.alloc _) (Nat.le_refl _))
                        obtain ⟨Ae, ce, rfl, hce1, hce2⟩ := hown5.form
                        clear hxe hsame5 hi hown5 hgr5 hg5)
         all_goals
           go_wp2
           go_roundw
           case rel => exact ⟨pre ++ [q], post, by rw [HL.out]; simp, by simp, zH (.inr ⟨(its ++ [(t, ds)]), (q.1, [] ++ [q.2]), (by rw [zhv, HG.out, zg3 _ _ _ hne]; rfl), hI5.out⟩), HX5.out.set (by simpa using hgb) _⟩
           case measure => simp [intOf]; omega
   | nil =>
     rw [List.append_nil] at hl
     have hlen : qs.length = pre.length := by rw [hl]
     have HL := zH hl
     have HX := zH hx
     have hn3 := HW2.out.size
     have HROW := zH (show OwnL itemT 57 wr W2.heap.size (fun b => W2.heap.size <= b) u4 (za7 ks) by
       rw [HI.out, HL.out]
       rcases hrow.out with ⟨rfl, rfl⟩ | ⟨its, last, hg, hI⟩
       · exact OwnL.nil _ _
       · rw [hg]; exact hI.done)
     clear hl hx hrow
     go_wp2_with fail
     go_ret
     exact ⟨_, rfl, (HROW.out.lower hn3).mono (fun b _ hb => Nat.le_trans hn3 hb), HW2.out.trans HX.out⟩
end
section
open Go.RowKit Go.Shelf
def KnowsAt (W:World) (base B:Nat) (rise:List Mark):Prop:=B < base/\∃ vr,W.cell? ⟨B,0,none⟩=some vr/\Sl markT W (fun b=>b < base) vr rise
theorem KnowsAt.keep {W W':World} {base B:Nat} {rise:List Mark} (h:KnowsAt W base B rise) (hb:Below base W W'):KnowsAt W' base B rise:=by
 obtain⟨h1,vr,h2,h3⟩:=h;exact⟨h1,vr,(Below.cell hb (p:=⟨B,0,none⟩) h1).trans h2,h3.keep (by decide) fun b hb' _=>hb.block b hb'⟩
theorem KnowsAt.mono {W:World} {base base' B:Nat} {rise:List Mark} (h:KnowsAt W base B rise) (hb:base<=base'):KnowsAt W base' B rise:=by
 obtain⟨h1,vr,h2,h3⟩:=h;exact⟨by omega,vr,h2,h3.mono (by decide) fun b _ h=>by omega⟩
theorem zw0 {l:List Mark} {d:Dot} (h:d.1 ∉ l.map (·.1)):hasM l d=false:=by
 unfold hasM;rw [zgi (s:=d.1) (fun m hm e=>h (List.mem_map.2 ⟨m,hm,e⟩))];cases hd:d.2 <;> simp
theorem zza {l:List Mark} (hl:SortedM l) {m:Mark} {d:Dot} (hm:m ∈ l) (h:m.1=d.1):hasM [m] d=hasM l d:=by
 unfold hasM
 by_cases h0:d.1 = []
 ·rw [h0,zh5,zh5]
 ·have h1:ofM l d.1=m.2:=by rw [<- h];exact hl.of hm (by rw [h];exact h0)
  have h2:ofM [m] d.1=m.2:=by obtain⟨ms,mn⟩:=m;rw [ztw,if_pos ⟨h.symm,by rw [show ms=d.1 from h];exact h0⟩]
  rw [h1,h2]
theorem Sl.sub {w:World} {S:Nat->Prop} {A:Option Addr} {n c:Nat} {l:List Mark} (h:Sl markT w S (.slice A n c) l) {i:Nat} {m:Mark} (hm:l[i]? = some m) :
  ∃ b o,A=some ⟨b,o,none⟩/\Sl markT w S (.slice (some ⟨b,o+i * 2,none⟩) 1 (c - i)) [m]:=by
 have hlt:=(List.getElem?_eq_some_iff.1 hm).1
 have hs:l=l.take i++m :: l.drop (i+1):=by have e:=(List.getElem?_eq_some_iff.1 hm).2;rw [<- e,List.getElem_cons_drop,List.take_append_drop]
 obtain⟨A',c',e,h1,h2,-⟩:=id h;cases e;obtain⟨b,o,vs,c',hv,hS,hr,hc⟩:=h.at_ hs;cases hv;rw [show (l.take i).length=i by simp;omega,show (markT.k:Nat)=2 from rfl] at hc;refine ⟨b,o,rfl,_,_,rfl,by simp;omega,by omega,fun pre x post hl=>?_⟩
 cases pre with
 | nil=>simp at hl;obtain⟨rfl,-⟩:=hl;exact⟨b,o+i * 2,vs,rfl,hS,hr,fun j u hj=>by have:=hc j u hj;simpa using this⟩
 | cons a r=>simp at hl
theorem zug {W:World} {base B:Nat} {rise:List Mark} (d:Dot) (hk:KnowsAt W base B rise) (hb:base<=W.heap.size) (hg:GoodM rise) (hl:rise.length<=1099511627776) :
  Calls Tryz.prog 202 #[dotV d,.pointer (some ⟨B,0,none⟩)] W fun e w'=>e=.returned (.bool (hasM rise d))/\Ext W w':=by
 have hx1:=(Ext.refl W).alloc (.cells #[St d.1,U d.2] 59);obtain⟨hB,vr,hc,hs⟩:=hk.keep (hx1.below hb);obtain⟨A,c,rfl,h1,h2⟩:=hs.form;have HS:=zH (zq4 d.1 hs hg.1 hl);have HSL:=zH hs;have b0:(W.alloc (.cells #[St d.1,U d.2] 59)).cell? ⟨W.heap.size,0,none⟩=some (St d.1):=by simp [go_sem]
 have b1:(W.alloc (.cells #[St d.1,U d.2] 59)).cell? ⟨W.heap.size,1,none⟩=some (U d.2):=by simp [go_sem]
 have HG:=zH hg;clear hk hs hg;go_enter Tryz.func202,Tryz.ntmps202;go_wp2_with fail;generalize W.alloc (.cells #[St d.1,U d.2] 59)=W1 at *;refine HS.out.mono ?_;rintro e W2 ⟨i,is,rfl,hf,hx2⟩;have hc2:=hx2.cell hc;have d0:=hx2.cell b0;have d1:=hx2.cell b1
 cases is with
 | false=>have HN:=zH (zw0 (d:=d) (hf.no (zpj HG.out.1)));clear hf;go_wp2_with fail;go_quiet (fail);go_wp2;go_ret;exact⟨by rw [HN.out];rfl,(hx1.trans hx2).drewN _⟩
 | true =>
  have hy:=hf.yes;rw [List.getElem?_map] at hy;obtain⟨m,hm,hms⟩:=Option.map_eq_some_iff.1 hy;have hil:=(List.getElem?_eq_some_iff.1 hm).1;obtain⟨b,o,rfl,hsub⟩:=HSL.out.sub hm;have HH:=zH (fun (W:World) (hW:Ext W1 W)=>zou d (hsub.ext (by decide) hW));have HN:=zH (zza HG.out.1 (d:=d) (List.mem_of_getElem? hm) hms);have i0:(0:Int)<=(i:Int):=by omega
  have i1:(i:Int)<=(i:Int)+1:=by omega
  have i2:(i:Int)+1<=(c:Int):=by omega
  have i3:IntKind.i64.wrap ((i:Int)+1)=(i:Int)+1:=IntWalk.i64_in _ (by omega);have i4:((i:Int)+1).toNat=i+1:=by omega
  have i5:i+1 - i=1:=by omega
  clear hf hy hm hsub;go_wp2_with fail;obtain⟨Wd,hWd⟩:∃ Wd,W2.drew=Wd:=⟨_,rfl⟩
  have hxd:Ext W2 Wd:=by rw [<- hWd];exact (Ext.refl W2).drew
  have e0:=hxd.cell hc2;have e1:=hxd.cell d0;have e2:=hxd.cell d1;have HE:=zH (hx2.trans hxd);refine wp_region_still_tail 8 (by kernel_rfl) (by kernel_rfl) ?_;simp only [List.take_succ_cons,List.take_zero,List.drop_succ_cons,List.drop_zero];change wpStill _ _ W2.drew (fun a'=>wpList _ _ _ _ a' W2.drew) _ _;rw [hWd];clear hWd hxd
  repeat still_step
  refine wpStill_nil ?_;go_wp2_with fail;refine (HH.out _ HE.out).mono ?_;rintro e w1 ⟨rfl,hb1⟩;go_wp2;go_ret;exact⟨by rw [<- HN.out];rfl,hx1.trans (HE.out.trans hb1)⟩
theorem zpk {S:Nat->Prop} {v:Value} {l:List Mark} {w:World} (hv:Sl markT w S v l) (hl:l.length<=1099511627776) :
  Calls Tryz.prog 157 #[v] w fun e w'=>∃ B,e=.returned (.func (.func 202) #[] #[.pointer (some ⟨B,0,none⟩)])/\w.heap.size<=B/\KnowsAt w' w'.heap.size B (za0 l [])/\Ext w w':=by
 have H:=zH (zjb hv (Sl.nil (T:=markT) (S:=fun _=>False) none 0 (by omega)) hl (by simp));clear hv;go_enter Tryz.func157,Tryz.ntmps157;go_wp2_with fail;refine H.out.mono ?_;rintro e w1 ⟨v1,rfl,hv1,hx1⟩;have hsl:=zH (zbb hv1);have hff:=hv1.form;obtain⟨A,c,rfl,-,-⟩:=hff;clear hv1;go_wp2_with fail;go_ret;refine ⟨_,rfl,hx1.size,⟨by simp,_,by simp [go_sem];rfl,?_⟩,hx1.alloc _⟩;have hx2:=(Ext.refl w1).alloc (.cells #[.slice A (za0 l []).length c] 22);have h3:Sl markT w1 (fun b=>b < w1.heap.size) (.slice A (za0 l []).length c) (za0 l []):=hsl.out.mono (by decide) fun b hb _=>hb
 exact (h3.ext (by decide) hx2).mono (by decide) fun b _ h=>Nat.lt_of_lt_of_le h hx2.size
def StaysAt (W:World) (base B1 B2 q B:Nat) (ks:List zan) (rise:List Mark):Prop :=
 B1 < base/\B2 < base/\q < base/\W.cell? ⟨B1,0,none⟩=some (.map (some q))/\W.cell? ⟨B2,0,none⟩=some (.func (.func 202) #[] #[.pointer (some ⟨B,0,none⟩)])/\SetOf zar W q ks/\KnowsAt W base B rise
theorem StaysAt.keep {W W':World} {base B1 B2 q B:Nat} {ks:List zan} {rise:List Mark} (h:StaysAt W base B1 B2 q B ks rise) (hb:Below base W W'):StaysAt W' base B1 B2 q B ks rise:=by
 obtain⟨h1,h2,h3,h4,h5,h6,h7⟩:=h;exact⟨h1,h2,h3,(Below.cell hb (p:=⟨B1,0,none⟩) h1).trans h4,(Below.cell hb (p:=⟨B2,0,none⟩) h2).trans h5,h6.keep (hb.block q h3),h7.keep hb⟩
def zh9 (ks:List zan) (rise:List Mark) (p:zan):Bool:=decide (p ∈ ks) || !hasM rise p.2
theorem zw1 {W:World} {base B1 B2 q B:Nat} {ks:List zan} {rise:List Mark} (m:zan) (h:StaysAt W base B1 B2 q B ks rise) (hb:base<=W.heap.size) (hg:GoodM rise) (hl:rise.length<=1099511627776) :
  Calls Tryz.prog 155 #[zar m,.pointer (some ⟨B1,0,none⟩),.pointer (some ⟨B2,0,none⟩)] W fun e w'=>e=.returned (.bool (zh9 ks rise m))/\Ext W w':=by
 have eg:∀ args w,(callFunc 202 args).run Tryz.prog w=.ok (.enter 202 args) w:=enters_of Tryz.func202 (by kernel_rfl) rfl;have hx1:=(Ext.refl W).alloc (.cells #[St m.1,St m.2.1,U m.2.2] 220);have hx2:=hx1.alloc (.cells #[] 141);obtain⟨h1,h2,h3,h4,h5,h6,h7⟩:=h.keep (hx1.below hb);have hk2:=(h.keep (hx2.below hb)).2.2.2.2.2.2;have h52:=(h.keep (hx2.below hb)).2.2.2.2.1;have hlk:=zih (P:=Tryz.prog) Tryz.underlying217 zjd znb h6 m;have HK:=zH (zug m.2 hk2 (Nat.le_trans hb hx2.size) hg hl);have hn1:W.heap.size ≠ B1:=by omega
 have hn2:W.heap.size ≠ B2:=by omega
 clear h h6 h7 hk2
 by_cases hm:m ∈ ks
 ·have HP:=zH (show zh9 ks rise m=true by simp [zh9,hm]);simp only [hm,decide_true] at hlk;clear hm;go_enter Tryz.func155,Tryz.ntmps155;go_wp2_with fail;go_ret;exact⟨by rw [HP.out];rfl,hx2⟩
 ·have HP:=zH (show zh9 ks rise m = !hasM rise m.2 by simp [zh9,hm]);simp only [hm,decide_false] at hlk;clear hm;go_enter Tryz.func155,Tryz.ntmps155;go_wp2_with fail;refine HK.out.mono ?_;rintro e w2 ⟨rfl,hx3⟩;go_wp2_with fail;go_ret;exact⟨by rw [HP.out];rfl,hx2.trans hx3⟩
theorem zn1 {base B1 B2 q B:Nat} {ks:List zan} {rise:List Mark} (hg:GoodM rise) (hl:rise.length<=1099511627776) :
  PredK zar Tryz.prog 155 #[.pointer (some ⟨B1,0,none⟩),.pointer (some ⟨B2,0,none⟩)] base (fun W=>StaysAt W base B1 B2 q B ks rise/\base<=W.heap.size) (zh9 ks rise) where
 enters:=enters_of Tryz.func155 (by kernel_rfl) rfl
 keep W W' h hB:=⟨h.1.keep hB,Nat.le_trans h.2 hB.size⟩
 does m W h:=zw1 m h.1 h.2 hg hl
theorem zuh (q B:Nat) (w:World):Calls Tryz.prog 154 #[.map (some q),.func (.func 202) #[] #[.pointer (some ⟨B,0,none⟩)]] w fun e w' =>
  e=.returned (.func (.func 155) #[] #[.pointer (some ⟨w.heap.size,0,none⟩),.pointer (some ⟨w.heap.size+1,0,none⟩)])/\w'=(w.alloc (.cells #[.map (some q)] 217)).alloc (.cells #[.func (.func 202) #[] #[.pointer (some ⟨B,0,none⟩)]] 230):=by
 go_enter Tryz.func154,Tryz.ntmps154;go_wp2;go_ret;exact⟨rfl,rfl⟩
def zgb (mine theirs:List Item) (v:List Mark):List zan:=(setL (zab mine)).filter (zh9 (setL (zab theirs)) (za0 v []))
def ze8 (a:List Item) (sa:List Mark) (b:List Item) (sb:List Mark):List Item:=za7 ((zgb b a sa).foldl addK (zgb a b sb))
theorem zms (a b:List Item) (v:List Mark):(zgb a b v).Nodup:=(zdm _).filter _
theorem zpl (a b:List Item) (v:List Mark):(zgb a b v).length<=(zab a).length:=Nat.le_trans (List.length_filter_le _ _) (zgj _)
theorem zui {A B A' B':List zan} (hA:A'.Perm A) (hB:B'.Perm B) (hn:A.Nodup):(B'.foldl addK A').Perm (B.foldl addK A) :=
 zdl (zd9 _ _ (hA.nodup_iff.2 hn)) (zd9 _ _ hn) fun x=>by rw [zd6,zd6,hA.mem_iff,hB.mem_iff]
theorem zmt {w w1:World} {q B:Nat} {ks:List zan} {rise:List Mark} (hs:SetOf zar w q ks) (hk:KnowsAt w w.heap.size B rise)
  (he:w1=(w.alloc (.cells #[.map (some q)] 217)).alloc (.cells #[.func (.func 202) #[] #[.pointer (some ⟨B,0,none⟩)]] 230)) :
  StaysAt w1 w1.heap.size w.heap.size (w.heap.size+1) q B ks rise:=by
 subst he;have hx:=((Ext.refl w).alloc (.cells #[.map (some q)] 217)).alloc (.cells #[.func (.func 202) #[] #[.pointer (some ⟨B,0,none⟩)]] 230);exact⟨(by simp;omega),(by simp),Nat.lt_of_lt_of_le hs.lt hx.size,by simp [go_sem],by simp [go_sem],hs.ext hx,(hk.keep hx).mono hx.size⟩
theorem zw2 {S1 S2 S3 S4:Nat->Prop} {va vsa vb vsb:Value} {a b:List Item} {sa sb:List Mark} {w:World} (ha:Sl itemT w S1 va a) (hsa:Sl markT w S2 vsa sa) (hb:Sl itemT w S3 vb b) (hsb:Sl markT w S4 vsb sb)
  (hl:(zab a).length+(zab b).length<=1099511627776) (hla:sa.length<=549755813888) (hlb:sb.length<=549755813888) :
  Calls Tryz.prog 112 #[va,vsa,vb,vsb] w fun e w'=>∃ v',e=.returned v'/\OwnL itemT 57 w' w.heap.size (fun b=>w.heap.size<=b) v' (ze8 a sa b sb)/\Ext w w':=by
 have e1:∀ args w,(callFunc 154 args).run Tryz.prog w=.ok (.enter 154 args) w:=enters_of Tryz.func154 (by kernel_rfl) rfl;have HA:=zH (zkc ha);have HB:=zH (fun (W:World) (h:Ext w W)=>zkc (hb.ext (by decide) h));have HSB:=zH (fun (W:World) (h:Ext w W)=>zpk (hsb.ext (by decide) h) (by omega));have HSA:=zH (fun (W:World) (h:Ext w W)=>zpk (hsa.ext (by decide) h) (by omega));have HT:=zH zuh;have HJ:=zH (show ze8 a sa b sb=za7 ((zgb b a sa).foldl addK (zgb a b sb)) from rfl);have gb:=zH (zcp sb []);have ga:=zH (zcp sa []);have hlj:∀ s:List Mark,(za0 s []).length<=s.length:=fun s=>by rw [zka];exact zeo s
 have lb:=Nat.le_trans (hlj sb) hlb;have la:=Nat.le_trans (hlj sa) hla;obtain⟨Aa,ca,rfl,-,-⟩:=ha.form;obtain⟨Asa,csa,rfl,-,-⟩:=hsa.form;obtain⟨Ab,cb,rfl,-,-⟩:=hb.form;obtain⟨Asb,csb,rfl,-,-⟩:=hsb.form;clear ha hsa hb hsb hlj;go_enter Tryz.func112,Tryz.ntmps112;go_wp2_with fail;refine HA.out.mono ?_;rintro e W1 ⟨p,rfl,hp1,hp2,hx1⟩;go_wp2_with fail;refine (HB.out W1 hx1).mono ?_;rintro e W2 ⟨q,rfl,hq1,hq2,hx2⟩;have hx12:=hx1.trans hx2;have hpq:p ≠ q:=by have:=hp2.lt;omega
 go_wp2_with fail;refine (HSB.out W2 hx12).mono ?_;rintro e W3 ⟨B,rfl,hB1,hB2,hx3⟩;go_wp2_with fail;refine (HT.out q B W3).mono ?_;rintro e W4 ⟨rfl,hw4⟩;have hx34:Ext W3 W4:=by rw [hw4];exact ((Ext.refl W3).alloc _).alloc _
 have hst:=zmt (hq2.ext hx3) hB2 hw4;have hx14:=(hx12.trans hx3).trans hx34;have H5:=zH (zku (((hp2.ext hx2).ext hx3).ext hx34) (zn1 gb.out (by omega)) ⟨hst,Nat.le_refl _⟩ (Nat.le_refl _));have HQ4:=zH ((hq2.ext hx3).ext hx34);have HP4:=zH (((hp2.ext hx2).ext hx3).ext hx34);clear hw4 hst hq2 hp2 hB2;go_wp2_with fail;refine H5.out.mono ?_;rintro e W5 ⟨r,ks1,rfl,hr1,hpm1,hr2,hx5⟩;have hx15:=hx14.trans hx5;have HQ5:=zH (HQ4.out.ext hx5);have HP5:=zH (HP4.out.ext hx5);go_wp2_with fail;refine (HSA.out W5 hx15).mono ?_;rintro e W6 ⟨B',rfl,hB1',hB2',hx6⟩;go_wp2_with fail;refine (HT.out p B' W6).mono ?_;rintro e W7 ⟨rfl,hw7⟩;have hx67:Ext W6 W7:=by rw [hw7];exact ((Ext.refl W6).alloc _).alloc _
 have hst:=zmt (HP5.out.ext hx6) hB2' hw7;have hx17:=(hx15.trans hx6).trans hx67;have hx57:=hx6.trans hx67;have H8:=zH (zku (HQ5.out.ext hx57) (zn1 ga.out (by omega)) ⟨hst,Nat.le_refl _⟩ (Nat.le_refl _));have HR7:=zH (hr2.ext hx57);have HPM1:=zH hpm1;clear hw7 hst hB2' hr2 hpm1;go_wp2_with fail;refine H8.out.mono ?_;rintro e W8 ⟨r',ls1,rfl,hr1',hpm2,hr2',hx8⟩;have hs5:=hx14.size;have hs7:=hx17.size;have hs57:=hx57.size;have hrr:r ≠ r':=by have:=HR7.out.lt;omega
 have H9:=zH (zy8 (base:=w.heap.size) (HR7.out.ext hx8) hr2' hrr (by omega) (hx17.trans hx8).size);have HPM2:=zH hpm2;clear hpm2 hr2';go_wp2_with fail;refine H9.out.mono ?_;rintro e W9 ⟨ls2,rfl,hpm3,hr9,hx9⟩;have hperm:(ls2.foldl addK ks1).Perm ((zgb b a sa).foldl addK (zgb a b sb)):=zui HPM1.out (hpm3.trans HPM2.out) (zms a b sb);have h1:=zpl a b sb;have h2:=zpl b a sa;have h3:=zhp (zgb b a sa) (zgb a b sb);have hx19:=Below.trans (hx17.trans hx8) hx9;have H10:=zH (zh8 hr9 (by rw [hperm.length_eq];omega));have HI:=zH (zfe hperm);clear hr9 hpm3 hperm;go_wp2_with fail;refine H10.out.mono ?_;rintro e W10 ⟨v',rfl,hv,hx10⟩;rw [HI.out,<- HJ.out] at hv;have hs9:=hx19.size;have HV:=zH ((hv.lower hs9).mono (fun b _ hb=>Nat.le_trans hs9 hb));have hff:=hv.form;obtain⟨Az,cz,rfl,-,-⟩:=hff;clear hv;go_wp2_with fail;go_ret;exact⟨_,rfl,HV.out,Below.trans hx19 (hx10.below hs9)⟩
def zbd (l:List Item) (s:Str):List zan:=(setL (zab l)).filter fun m=>m.1 != s
def zf2 (l:List Item) (s:Str):List Item:=za7 (zbd l s)
theorem zmu (l:List Item) (s:Str):(zbd l s).length<=(zab l).length:=Nat.le_trans (List.length_filter_le _ _) (zgj _)
theorem zqk (l:List Item) (s:Str):(zbd l s).Nodup:=(zdm _).filter _
theorem zzb {S:Nat->Prop} {v:Value} {l:List Item} {w:World} (s:Str) (hv:Sl itemT w S v l) (hl:(zab l).length<=1099511627776) :
  Calls Tryz.prog 182 #[v,St s] w fun e w'=>∃ v',e=.returned v'/\OwnL itemT 57 w' w.heap.size (fun b=>w.heap.size<=b) v' (zf2 l s)/\Ext w w':=by
 have hx0:=(Ext.refl w).alloc (.cells #[St s] 9);have hb0:(w.alloc (.cells #[St s] 9)).cell? ⟨w.heap.size,0,none⟩=some (St s):=by simp [go_sem]
 have H1:=zH (zkc (hv.ext (by decide) hx0));have HT:=zH (show zf2 l s=za7 (zbd l s) from rfl);obtain⟨A,c,rfl,-,-⟩:=hv.form;clear hv;go_enter Tryz.func182,Tryz.ntmps182;go_wp2_with fail;refine H1.out.mono ?_;rintro e W1 ⟨p,rfl,hp1,hp2,hx1⟩;have hx01:=hx0.trans hx1;have hb1:=hx1.cell hb0;have hlt:=zae hb1;have H2:=zH (zku hp2 (zuc s w.heap.size W1.heap.size (by have:=hx01.size;omega)) hb1 (Nat.le_refl _));clear hp2;go_wp2_with fail;refine H2.out.mono ?_;rintro e W2 ⟨q,ks,rfl,hq1,hpm,hq2,hx2⟩;have hx02:=hx01.trans hx2;have hlen:=zmu l s;have H3:=zH (zh8 hq2 (by have:=hpm.length_eq;unfold zbd at hlen;omega));have HI:=zH (zfe hpm);clear hq2 hpm;go_wp2_with fail;refine H3.out.mono ?_;rintro e W3 ⟨v',rfl,hv,hx3⟩;rw [HI.out,<- zbd,<- HT.out] at hv;have hs9:=hx02.size;have HV:=zH ((hv.lower hs9).mono (fun b _ hb=>Nat.le_trans hs9 hb));have hff:=hv.form;obtain⟨Az,cz,rfl,-,-⟩:=hff;clear hv;go_wp2_with fail;go_ret;exact⟨_,rfl,HV.out,hx02.trans hx3⟩
def zdo (l:List Item):List Str:=(za7 (setL (zab l))).map (·.1)
theorem zn2 (ks:List zan):(za7 ks).length<=ks.length:=by
 unfold za7;refine Nat.le_trans (zn0 _) ?_;rw [(zbq ks).length_eq];exact Nat.le_refl _
theorem zw3 {S:Nat->Prop} {v:Value} {l:List Item} {w:World} (hv:Sl itemT w S v l) (hl:(zab l).length<=1099511627776) :
  Calls Tryz.prog 103 #[v] w fun e w'=>∃ v',e=.returned v'/\Own w' w.heap.size 9 1 v' (zdo l).length ((zdo l).flatMap strC)/\Ext w w':=by
 have H1:=zH (zkc hv);obtain⟨A,c,rfl,-,-⟩:=hv.form;have HT:=zH (show zdo l=(za7 (setL (zab l))).map (·.1) from rfl);have hlen:=zgj (zab l);clear hv;go_enter Tryz.func103,Tryz.ntmps103;go_wp2_with fail;refine H1.out.mono ?_;rintro e W1 ⟨p,rfl,hp1,hp2,hx1⟩;have H2:=zH (zh8 hp2 (by omega));clear hp2;go_wp2_with fail;refine H2.out.mono ?_;rintro e W2 ⟨v2,rfl,hv2,hx2⟩;have hil:=zn2 (setL (zab l));generalize za7 (setL (zab l))=its at *;have hsl:=hv2.sl (S':=fun _=>True) (by decide) (fun _ _ _=>trivial) (fun _ _ _=>trivial);obtain⟨A2,c2,rfl,hc1,hc2⟩:=hsl.form;have HAT:=zH (fun (pre post:List Item) (m:Item) (wr:World) (h:Ext W2 wr) (hl:its=pre++m :: post)=>zgr hsl h hl);have HX2:=zH (hx1.trans hx2);clear hv2 hsl hx1 hx2;go_wp2_with fail
 go_loopw [3,10] (fun l i wr=>∃ pre post,its=pre++post/\i=I pre.length/\Own wr W2.heap.size 9 1 l pre.length ((pre.map (·.1)).flatMap strC)/\Ext W2 wr) (fun _ i _=>its.length - (intOf i).toNat)
 case atStart=>exact⟨[],its,rfl,rfl,Own.nil _ _ _ _ _,Ext.refl _⟩
 case round =>
  obtain⟨pre,post,hl,rfl,hown,hx⟩:=hrel
  cases post with
  | cons it post =>
   obtain⟨b,o,vd,rfl,hd0,hd1,hsl⟩:=HAT.out pre post it wr hx hl;have hlt:pre.length < its.length:=(by rw [hl];simp);have hff:=hsl.form;obtain⟨A3,c3,rfl,-,-⟩:=hff;have HL:=zH hl;have hn3:=hx.size;have HX:=zH hx;have HO:=zH hown;clear hl hx hsl
   go_wp2_with (at_builtin;refine zal rfl (.tmp 14) (.tmp 17) 24 rfl W2.heap.size 9 1 16 (St []) Tryz.underlying24 zd7 rfl (by omega) _ pre.length ((pre.map (·.1)).flatMap strC) rfl ((hown.alloc _).alloc _) _ 1 1 [St it.1] rfl (Src.newAt (by simp) rfl (by intro u hu;simp at hu;subst hu;rfl)) (by omega) (by omega) (by simp;omega) ?_;intro v' w' hown2 hgr)
   go_roundw
   case rel=>exact⟨pre++[it],post,by rw [HL.out];simp,by simp,by simpa [strC] using hown2,Ext.grewOwn ((HX.out.alloc _).alloc _) hgr ((HO.out.alloc _).alloc _) (Nat.le_refl _)⟩
   case measure=>simp [intOf];omega
  | nil=>rw [List.append_nil] at hl;have HL:=zH hl;have hlen2:its.length=pre.length:=(by rw [hl]);have HX:=zH hx;have HO:=zH hown;have hn3:=HX2.out.size;have hff:=hown.form;obtain⟨A3,c3,rfl,-,-⟩:=hff;clear hl hx hown;go_wp2_with fail;go_ret;exact⟨_,rfl,by rw [HT.out,HL.out,List.length_map];exact HO.out.lower hn3,HX2.out.trans HX.out⟩
theorem zmf (w:World):(zeroValue 3).run Tryz.prog w=.ok (I 0) w:=Tryz.zeroValue3 w
def ze2 (ks:List zan):List Str:=setL (ks.map (·.1))
theorem zsu {a b:List zan} (h:a.Perm b):(ze2 a).length=(ze2 b).length :=
 (zdl (zdm _) (zdm _) fun x=>by rw [mem_setL,mem_setL];exact (h.map _).mem_iff).length_eq
theorem zql {κ ν:Type} {K:κ->Value} {V:ν->Value} {w:World} {b:Nat} {L:List (κ × ν)} {P:Program} {t kt et:TypeId} (ht:P.underlying t=some (.map kt et)) (h:MapIs K V w b L) (ty:TypeId) :
  (Builtin.len_ #[t] ty #[.map (some b)]).run P w=.ok (.int .i64 (L.length:Int)) w:=by
 obtain⟨es,c,h1,h2,-⟩:=h
 have hlen:es.size=L.length:=by
  have:=congrArg List.length h2
  simpa using this
 simp [Builtin.len_,run_underlying ht,MapKept.run_getObj_map h1,hlen,goInt]
def putB (l:List Item) (s:Str) (d:Dot):List Item × Nat :=
 if 4096 < s.length then ([],4) else if 256<=(ze2 (zbd l s)).length then ([],6) else (za7 (addK (zbd l s) (s,d)),0)
theorem zzc {S:Nat->Prop} {v:Value} {l:List Item} {w:World} (s:Str) (d:Dot) (hv:Sl itemT w S v l) (hl:(zab l).length < 1099511627776) :
  Calls Tryz.prog 180 #[v,St s,dotV d] w fun e w'=>∃ v',e=.returned (.tuple #[v',I (putB l s d).2])/\OwnL itemT 57 w' w.heap.size (fun b=>w.heap.size<=b) v' (putB l s d).1/\Ext w w':=by
 have hx0:=((Ext.refl w).alloc (.cells #[St s] 9)).alloc (.cells #[St d.1,U d.2] 59)
 by_cases hlong:4096 < s.length
 ·have HP:=zH (show putB l s d=([],4) by simp [putB,hlong]);have hs:(s.length:Int) > 4096:=by omega
  obtain⟨A,c,rfl,-,-⟩:=hv.form;clear hv;go_enter Tryz.func180,Tryz.ntmps180;go_wp2_with fail
  go_ret2
  exact⟨_,by rw [HP.out];rfl,by rw [HP.out];exact OwnL.nil _ _,hx0⟩
 ·have hs:¬ (s.length:Int) > 4096:=by omega
  have HP:=zH (show putB l s d=if 256<=(ze2 (zbd l s)).length then ([],6) else (za7 (addK (zbd l s) (s,d)),0) by simp [putB,hlong]);have hb0:((w.alloc (.cells #[St s] 9)).alloc (.cells #[St d.1,U d.2] 59)).cell? ⟨w.heap.size,0,none⟩=some (St s):=by simp [go_sem]
  have hb1:((w.alloc (.cells #[St s] 9)).alloc (.cells #[St d.1,U d.2] 59)).cell? ⟨w.heap.size+1,0,none⟩=some (St d.1):=by simp [go_sem]
  have hb2:((w.alloc (.cells #[St s] 9)).alloc (.cells #[St d.1,U d.2] 59)).cell? ⟨w.heap.size+1,1,none⟩=some (U d.2):=by simp [go_sem]
  have H1:=zH (zkc (hv.ext (by decide) hx0));have hmm:=@run_makeMap Tryz.prog;have hz0:((w.alloc (.cells #[St s] 9)).alloc (.cells #[St d.1,U d.2] 59)).heap.size=w.heap.size+1+1:=by simp
  have HZ0:=zH hz0;have hlen:=zmu l s;have hnd:=zqk l s;obtain⟨A,c,rfl,-,-⟩:=hv.form;clear hv hz0;go_enter Tryz.func180,Tryz.ntmps180;go_wp2_with fail;generalize (w.alloc (.cells #[St s] 9)).alloc (.cells #[St d.1,U d.2] 59)=W0 at *;refine H1.out.mono ?_;rintro e W1 ⟨p,rfl,hp1,hp2,hx1⟩;have hx01:=hx0.trans hx1;have hc0:=hx1.cell hb0;have hlt:=zae hc0;have H2:=zH (zku hp2 (zww s w.heap.size W1.heap.size (by omega)) hc0 (Nat.le_refl _));clear hp2;go_wp2_with fail;refine H2.out.mono ?_;rintro e W2 ⟨q,ks,rfl,hq1,hpm,hq2,hx2⟩;rw [<- zbd] at hpm;have hx02:=hx01.trans hx2;have d0:=(hx1.trans hx2).cell hb0;have d1:=(hx1.trans hx2).cell hb1;have d2:=(hx1.trans hx2).cell hb2;have hxm:=(Ext.refl W2).alloc (.map #[] 0);obtain⟨W3,hr,hR,hx3,hsz⟩:=zcz (P:=Tryz.prog) Tryz.underlying217 (hq2.ext hxm);have HR:=zH hR;have HN:=zH (MapIs.new (κ:=Str) (ν:=Int) (K:=St) (V:=I) W2 |>.ext hx3);have HQ:=zH ((hq2.ext hxm).ext hx3);have HND:=zH hq2.nodup;have hqw:=hq2.lt;rw [World.size_alloc] at hr hsz;have hx23:=hxm.trans hx3;have hx03:=hx02.trans hx23;have f0:=hx23.cell d0;have f1:=hx23.cell d1;have f2:=hx23.cell d2;have hb0l:=zae d0;have hb1l:=zae d1;have HPM:=zH hpm;have HX03:=zH hx03;have hqb:w.heap.size<=q:=Nat.le_trans hx01.size hq1;have hs2:=hx02.size;have hklen:ks.length=(zbd l s).length:=hpm.length_eq;have hklen2:ks.length < 1099511627776:=by omega
  clear hR hq2 hpm hxm hx3 hx23 hx03 hx0 hx1 hx2 hklen d0 d1 d2 hb0 hb1 hb2;go_wp2_with fail
  go_loopw [21] (fun u wr=>∃ done rest L,(done++rest.map Prod.fst).Perm ks/\RangeIs zar zeg wr q (W2.heap.size+1) (ks.map fun k=>(k,())) rest/\Hid (MapIs St I wr W2.heap.size L/\L.map Prod.fst=ze2 done) /\
   (wr.cell? ⟨w.heap.size,0,none⟩=some (St s)/\wr.cell? ⟨w.heap.size+1,0,none⟩=some (St d.1)/\wr.cell? ⟨w.heap.size+1,1,none⟩=some (U d.2))/\SetOf zar wr q ks/\Ext w wr) (fun _ wr=>wr.rangeLeft q (W2.heap.size+1))
  case atStart=>exact⟨[],_,[],by rw [ze3];exact .refl _,by have:=HR.out;rwa [World.size_alloc] at this,zH ⟨HN.out,rfl⟩,⟨f0,f1,f2⟩,HQ.out,HX03.out⟩
  case round =>
   obtain⟨done,rest,L,hperm,hR,hML,⟨g0,g1,g2⟩,hS,hx⟩:=hrel;rcases zdh (P:=Tryz.prog) 0 hR with ⟨rfl,hrun⟩ | ⟨r1,k,r2,wn,rfl,hrun,hR2,ht,hent⟩
   ·have hnx:∀ ty,(Instr.next (.pointer (some ⟨W2.heap.size+1,0,none⟩)) false ty).run Tryz.prog wr=.ok (.tuple #[.bool false]) wr:=fun ty=>hrun
    have hd:done.Perm ks:=(by simpa using hperm);have hdo:=hd.trans HPM.out;obtain⟨hMap,hkeys⟩:=hML.out;have hln:=zql (P:=Tryz.prog) Tryz.underlying129 hMap 3
    have hN:L.length=(ze2 (zbd l s)).length:=by have h2:=congrArg List.length hkeys;simp at h2;rw [h2];exact zsu hdo
    rw [hN] at hln;obtain⟨N,hNN⟩:∃ N,(ze2 (zbd l s)).length=N:=⟨_,rfl⟩
    rw [hNN] at HP hln;have HX:=zH hx;clear hML hR hperm hrun hkeys hNN hx hMap hN
    by_cases h256:256<=N
    ·have HP2:=zH (show putB l s d=([],6) by rw [HP.out,if_pos h256]);have hz:(N:Int) ≥ 256:=(by omega);clear hd hdo hS;go_wp2_with fail
     go_ret2
     exact⟨_,by rw [HP2.out];rfl,by rw [HP2.out];exact OwnL.nil _ _,HX.out⟩
    ·have HP2:=zH (show putB l s d=(za7 (addK (zbd l s) (s,d)),0) by rw [HP.out,if_neg h256]);have hz:¬ (N:Int) ≥ 256:=(by omega);obtain⟨w4,hup,hs4,ht4⟩:=zc9 (P:=Tryz.prog) Tryz.underlying217 zjd hS (s,d);have hx4:=HX.out.turned ht4 hqb;have hpm4:(addK ks (s,d)).Perm (addK (zbd l s) (s,d)):=zdl (zkt HND.out _) (zkt hnd _) fun x=>by rw [zks,zks,HPM.out.mem_iff]
     have h5:=zq7 ks (s,d);have H5:=zH (zh8 hs4 (by omega));have HI:=zH (zfe hpm4);have HX4:=zH hx4;clear hd hdo hS hs4 ht4 hx4 hpm4 hnd;go_wp2_with fail;refine H5.out.mono ?_;rintro e w5 ⟨v',rfl,hv,hx5⟩;rw [HI.out] at hv;have hs9:=HX4.out.size;have HV:=zH ((hv.lower hs9).mono (fun b _ hb=>Nat.le_trans hs9 hb));have hff:=hv.form;obtain⟨Az,cz,rfl,-,-⟩:=hff;clear hv;go_wp2_with fail
     go_ret2
     exact⟨_,by rw [HP2.out];rfl,by rw [HP2.out];exact HV.out,HX4.out.trans hx5⟩
   ·have hnx:∀ ty,(Instr.next (.pointer (some ⟨W2.heap.size+1,0,none⟩)) false ty).run Tryz.prog wr=.ok (.tuple #[.bool true,zar k.1,zeg k.2]) wn:=fun ty=>hrun
    have hxn:=hx.turned ht (by omega);have hx1:=(Ext.refl wn).alloc (.cells #[St k.1.1,St k.1.2.1,U k.1.2.2] 220);have hMn:MapIs St I (wn.alloc (.cells #[St k.1.1,St k.1.2.1,U k.1.2.2] 220)) W2.heap.size L:=(hML.out.1.keep (ht.other _ (by omega))).ext hx1;have hlk:=(zbi (P:=Tryz.prog) (z:=0) Tryz.underlying129 zd8 zmf hMn k.1.1).1;obtain⟨z,hz⟩:∃ z,getL 0 L k.1.1=z:=⟨_,rfl⟩
    rw [hz] at hlk;obtain⟨w3,hup,hm3,ht3⟩:=zaw (P:=Tryz.prog) Tryz.underlying129 zd8 hMn k.1.1 (wrap64 (z+1));have g0n:=ht3.cell (hx1.cell (ht.cell g0 (by omega))) (by omega);have g1n:=ht3.cell (hx1.cell (ht.cell g1 (by omega))) (by omega);have g2n:=ht3.cell (hx1.cell (ht.cell g2 (by omega))) (by omega);have HR2:=zH ((hR2.ext hx1).keep (ht3.other q (by omega)) (ht3.other _ (by omega)));have HS2:=zH (((hS.keep (ht.other q (by omega))).ext hx1).keep (ht3.other q (by omega)));have HX2:=zH ((hxn.trans hx1).turned ht3 (by omega));have HM3:=zH hm3
    have HKEY:=zH (show (putL L k.1.1 (wrap64 (z+1))).map Prod.fst=ze2 (done++[k.1]) by
     rw [zjo,hML.out.2];unfold ze2;rw [List.map_append,List.map_singleton,zh6]
     rfl)
    have HML:=zH hR.left_eq;have HPM3:=zH hperm;clear hperm hR hrun hR2 hx ht hxn hS hx1 hm3 ht3 hMn hz hML;go_wp2_with fail;go_roundw
    case rel=>exact⟨done++[k.1],r1++r2,_,by have h1:=HPM3.out;simp only [List.map_append,List.map_cons] at h1 ⊢;rw [List.append_assoc];exact ((List.perm_middle (l₁:=r1.map Prod.fst) (a:=k.1) (l₂:=r2.map Prod.fst)).symm.append_left done).trans h1,HR2.out,zH ⟨HM3.out,HKEY.out⟩,⟨g0n,g1n,g2n⟩,HS2.out,HX2.out⟩
    case measure=>rw [HML.out,HR2.out.left_eq];simp
def zgc (prev:Option Dot) (all:List Dot) (d:Dot):Bool :=
 !d.1.isEmpty && decide (1<=d.2) && decide (d.2<=281474976710656) && (match prev with | none=>true | some q=>decide (cmpD q d < 0)) && !decide (d ∈ all)
def zel:Option Dot->List Dot->List Dot->Option (List Dot)
 | _,all,[]=>some all
 | prev,all,d :: r=>if zgc prev all d then zel (some d) (all++[d]) r else none
def zg8 (prev:Option Str) (it:Item):Bool:=(match prev with | none=>true | some s=>ltS s it.1) && decide (it.1.length<=4096) && !it.2.isEmpty
def zdu:Option Str->List Dot->List Item->Bool
 | _,_,[]=>true
 | prev,all,it :: r=>if zg8 prev it then (match zel none all it.2 with | none=>false | some a=>zdu (some it.1) a r) else false
def mayB (l:List Item):Bool:=zdu none [] l
theorem zin {α:Type} {l:List α} (h:0 < l.length):∃ pre q,l=pre++[q]/\l.getLast? = some q/\pre.length=l.length - 1:=by
 rcases List.eq_nil_or_concat l with rfl | ⟨pre,q,rfl⟩
 ·simp at h
 ·exact⟨pre,q,by simp,by simp,by simp⟩
theorem zg9 {n:Nat} (h:0 < n) (h2:n<=9223372036854775807):IntKind.i64.wrap ((n:Int) - 1)=((n - 1:Nat):Int):=by
 rw [show (n:Int) - 1=((n - 1:Nat):Int) by omega];exact IntWalk.i64_in _ (by omega)
theorem zzd {S:Nat->Prop} {v:Value} {l:List Item} {w:World} (hv:Sl itemT w S v l) (hl40:l.length<=1099511627776) :
  Calls Tryz.prog 77 #[v] w fun e w'=>e=.returned (.bool (mayB l))/\Ext w w':=by
 have hv':=hv;obtain⟨A,c,rfl,hc1,hc2⟩:=hv.form;have HAT:=zH (fun (pre post:List Item) (m:Item) (wr:World) (h:Ext w wr) (hl:l=pre++m :: post)=>zgr hv' h hl);have HCMP:=zH zmq;have hmm:=@run_makeMap Tryz.prog;clear hv hv';go_enter Tryz.func77,Tryz.ntmps77;go_wp2_with fail
 go_loopw [13] (fun i wr=>∃ pre post all,l=pre++post/\i=I pre.length/\Hid (mayB l=zdu (pre.getLast?.map (·.1)) all post)/\SetOf dotV wr w.heap.size all/\Ext w wr) (fun i _=>l.length - (intOf i).toNat)
 case atStart=>exact⟨[],l,[],rfl,rfl,zH rfl,SetOf.new w,(Ext.refl w).alloc _⟩
 case round =>
  obtain⟨pre,post,all,hl,rfl,hm,hS,hx⟩:=hrel
  cases post with
  | cons it post =>
   obtain⟨b,o,vd,rfl,hd0,hd1,hsl⟩:=HAT.out pre post it wr hx hl;have hlt:pre.length < l.length:=(by rw [hl];simp);have hsl':=hsl;have hff:=hsl.form;obtain⟨A2,c2,rfl,hc3,hc4⟩:=hff;have hx1:=(Ext.refl wr).alloc (.cells #[St it.1,.slice A2 it.2.length c2] 57);have t0:(wr.alloc (.cells #[St it.1,.slice A2 it.2.length c2] 57)).cell? ⟨wr.heap.size,0,none⟩=some (St it.1):=(by simp [go_sem]);have t1:(wr.alloc (.cells #[St it.1,.slice A2 it.2.length c2] 57)).cell? ⟨wr.heap.size,1,none⟩=some (.slice A2 it.2.length c2):=(by simp [go_sem]);have hws:=hS.lt;have HIN:=zH (fun (p2 q2:List Dot) (x:Dot) (wr':World) (h:Ext w wr') (hl:it.2=p2++x :: q2)=>zje hsl' h hl);have HM:=zH (show mayB l=if zg8 (pre.getLast?.map (·.1)) it then (match zel none all it.2 with | none=>false | some a=>zdu (some it.1) a post) else false by rw [hm.out];rfl);have HL:=zH hl;have HS:=zH (hS.ext hx1);have HX:=zH (hx.trans hx1)
   have hprev:(pre.length=0/\pre.getLast?.map (·.1)=none) ∨ (0 < pre.length/\∃ q:Item,pre.getLast?.map (·.1)=some q.1/\(wr.alloc (.cells #[St it.1,.slice A2 it.2.length c2] 57)).cell? ⟨b,o+(pre.length - 1) * 2,none⟩=some (St q.1)):=by
    rcases Nat.eq_zero_or_pos pre.length with h0 | h0
    ·exact .inl ⟨h0,by rw [List.eq_nil_of_length_eq_zero h0];rfl⟩
    ·obtain⟨p',q,e1,e2,e3⟩:=zin h0;obtain⟨b',o',v',e,q0,-,-⟩:=HAT.out p' (it :: post) q wr hx (by rw [hl,e1];simp);cases e;rw [e3] at q0;exact .inr ⟨h0,q,by rw [e2];rfl,hx1.cell q0⟩
   clear hl hS hsl hsl' hx hx1 hm
   by_cases hok:zg8 (pre.getLast?.map (·.1)) it=true
   ·have HM2:=zH (show mayB l=(match zel none all it.2 with | none=>false | some a=>zdu (some it.1) a post) by rw [HM.out,if_pos hok]);unfold zg8 at hok;simp only [Bool.and_eq_true,decide_eq_true_eq,Bool.not_eq_true'] at hok;obtain⟨⟨hok1,hok2⟩,hok3⟩:=hok
    have hne:0 < it.2.length:=by
     cases h2:it.2 with
     | nil=>rw [h2] at hok3;cases hok3
     | cons a r=>simp
    have k1d:decide ((4096:Int) < (List.length it.1:Int))=false:=decide_eq_false (by omega);have k2:((it.2.length:Int) == 0)=false:=(by rw [beq_eq_false_iff_ne];omega);have k2d:decide (it.2.length=0)=false:=decide_eq_false (by omega);clear HM hok2 hok3;rcases hprev with ⟨h0,hp⟩ | ⟨h0,q,hp,q0⟩
    case' inl=>have k0:¬ (pre.length:Int) > 0:=(by omega);have k0n:¬ 0 < pre.length:=(by omega);clear hp h0 hok1;go_wp2_with fail;generalize wr.alloc (.cells #[St it.1,.slice A2 it.2.length c2] 57)=W1 at *;go_quiet (fail);clear k0 k0n k1d k2 k2d;go_wp2_with fail
    case' inr=>rw [hp] at hok1;have k0:(pre.length:Int) > 0:=(by omega);have k4:=zg9 h0 (by omega);have k5:((pre.length - 1:Nat):Int) < (l.length:Int):=(by omega);have k6:(0:Int)<=((pre.length - 1:Nat):Int):=(by omega);have k7:(((pre.length - 1:Nat):Int)).toNat=pre.length - 1:=(by omega);clear hp;go_wp2_with fail;generalize wr.alloc (.cells #[St it.1,.slice A2 it.2.length c2] 57)=W1 at *;go_quiet (fail);clear k0 k4 k5 k6 k7 q0 hok1 k1d k2 k2d;go_wp2_with fail
    all_goals
     have hxn:Ext W1 (W1.drewN nq):=(Ext.refl W1).drewN nq;obtain⟨wo,rfl⟩:∃ wo:World,wo=wr:=⟨_,rfl⟩
     go_loopw [46] (fun j wr2=>∃ p2 q2 all2,it.2=p2++q2/\j=I p2.length/\Hid (mayB l=(match zel p2.getLast? all2 q2 with | none=>false | some a=>zdu (some it.1) a post))/\SetOf dotV wr2 w.heap.size all2 /\
      (wr2.cell? ⟨wo.heap.size,0,none⟩=some (St it.1)/\wr2.cell? ⟨wo.heap.size,1,none⟩=some (.slice A2 it.2.length c2))/\Ext w wr2) (fun j _=>it.2.length - (intOf j).toNat)
     case atStart=>exact⟨[],it.2,all,rfl,rfl,HM2,HS.out.ext hxn,⟨hxn.cell t0,hxn.cell t1⟩,HX.out.trans hxn⟩
     case round =>
      obtain⟨p2,q2,all2,hl2,rfl,hm2,hS2,⟨s0,s1⟩,hx2⟩:=hrel;clear t0 t1
      cases q2 with
      | cons x q2 =>
       obtain⟨b2,o2,rfl,e0,e1⟩:=HIN.out p2 q2 x wr hx2 hl2;have hlt2:p2.length < it.2.length:=(by rw [hl2];simp);have hxa:=(Ext.refl wr).alloc (.cells #[St x.1,U x.2] 59);have u0:(wr.alloc (.cells #[St x.1,U x.2] 59)).cell? ⟨wr.heap.size,0,none⟩=some (St x.1):=(by simp [go_sem]);have u1:(wr.alloc (.cells #[St x.1,U x.2] 59)).cell? ⟨wr.heap.size,1,none⟩=some (U x.2):=(by simp [go_sem]);have r0:=hxa.cell s0;have r1:=hxa.cell s1;have HS2:=zH (hS2.ext hxa);have HX2:=zH (hx2.trans hxa);have HL2:=zH hl2;have HMM:=zH (show mayB l=(match (if zgc p2.getLast? all2 x then zel (some x) (all2++[x]) q2 else none) with | none=>false | some a=>zdu (some it.1) a post) by rw [hm2.out];rfl)
       have hpd:(p2.length=0/\p2.getLast? = none) ∨ (0 < p2.length/\∃ q:Dot,p2.getLast? = some q/\(wr.alloc (.cells #[St x.1,U x.2] 59)).cell? ⟨b2,o2+(p2.length - 1) * 2,none⟩=some (St q.1)/\(wr.alloc (.cells #[St x.1,U x.2] 59)).cell? ⟨b2,o2+(p2.length - 1) * 2+1,none⟩=some (U q.2)):=by
        rcases Nat.eq_zero_or_pos p2.length with h0 | h0
        ·exact .inl ⟨h0,by rw [List.eq_nil_of_length_eq_zero h0];rfl⟩
        ·obtain⟨p',q,e1,e2,e3⟩:=zin h0;obtain⟨b',o',e,q0,q1⟩:=HIN.out p' (x :: q2) q wr hx2 (by rw [hl2,e1];simp);cases e;rw [e3] at q0 q1;exact .inr ⟨h0,q,e2,hxa.cell q0,hxa.cell q1⟩
       clear hl2 hS2 hx2 hm2 s0 s1 hxa
       by_cases hd:!x.1.isEmpty && decide (1<=x.2) && decide (x.2<=281474976710656)
       ·obtain⟨xs,xn⟩:=x
        cases xs with
        | nil=>simp at hd
        | cons a r =>
         simp only [Bool.and_eq_true,decide_eq_true_eq] at hd;obtain⟨⟨-,h1⟩,h2⟩:=hd;have kA:decide ((xn:Int) < 1)=false:=decide_eq_false (by omega);have kB:decide ((281474976710656:Int) < (xn:Int))=false:=decide_eq_false (by omega);have kC:¬ (xn:Int) < 1:=(by omega);have kD:¬ (xn:Int) > 281474976710656:=(by omega);have hwb:=wr;rcases hpd with ⟨h0,hp⟩ | ⟨h0,q,hp,q0,q1⟩
         case' inl=>have HOK:=zH (show zgc p2.getLast? all2 (a :: r,xn) = !decide ((a :: r,xn) ∈ all2) by rw [hp];simp [zgc];omega);have k0:¬ (p2.length:Int) > 0:=(by omega);have k0n:¬ 0 < p2.length:=(by omega);clear hp h0;go_wp2_with fail;generalize wr.alloc (.cells #[St (a :: r),U xn] 59)=W2 at *;go_quiet (fail);have hx3:Ext W2 (W2.drewN nq):=(Ext.refl W2).drewN nq;generalize W2.drewN nq=W3 at *
         case' inr =>
          have k0:(p2.length:Int) > 0:=(by omega);have k4:=zg9 h0 (by omega);have k5:((p2.length - 1:Nat):Int) < (it.2.length:Int):=(by omega);have k6:(0:Int)<=((p2.length - 1:Nat):Int):=(by omega);have k7:(((p2.length - 1:Nat):Int)).toNat=p2.length - 1:=(by omega);go_wp2_with fail;generalize wr.alloc (.cells #[St (a :: r),U xn] 59)=W2 at *;obtain⟨Wd,hWd⟩:∃ Wd,W2.drew=Wd:=⟨_,rfl⟩
          have hxd:Ext W2 Wd:=(by rw [<- hWd];exact (Ext.refl W2).drew);have u0d:=hxd.cell u0;have u1d:=hxd.cell u1;have r1d:=hxd.cell r1;have q0d:=hxd.cell q0;have q1d:=hxd.cell q1;refine wp_region_still_tail 24 (by kernel_rfl) (by kernel_rfl) ?_;simp only [List.take_succ_cons,List.take_zero,List.drop_succ_cons,List.drop_zero];change wpStill _ _ W2.drew (fun a'=>wpList _ _ _ _ a' W2.drew) _ _;rw [hWd]
          repeat still_step
          refine wpStill_nil ?_;go_wp2_with fail;refine (HCMP.out q (a :: r,xn) Wd).mono ?_;rintro e W3 ⟨rfl,nq2,os,hgrow⟩;have hx3:Ext W2 W3:=hxd.trans (by rw [hgrow];exact zy3 _ _ _);clear hgrow hWd hxd u0d u1d r1d q0d q1d q0 q1 k0 k4 k5 k6 k7;obtain⟨z,hz⟩:∃ z,cmpD q (a :: r,xn)=z:=⟨_,rfl⟩
          rw [hz]
          by_cases hzn:z < 0
          case neg =>
           have HF:=zH (show mayB l=false by
            rw [HMM.out];have:zgc p2.getLast? all2 (a :: r,xn)=false:=by rw [hp];simp [zgc];intro _ _ hlt;rw [hz] at hlt;exact absurd hlt hzn
            rw [this];rfl)
           have kz:z ≥ 0:=(by omega);clear hp hz h0;go_wp2_with fail;go_ret;exact⟨by rw [HF.out];rfl,HX2.out.trans hx3⟩
          case' pos=>have HOK:=zH (show zgc p2.getLast? all2 (a :: r,xn) = !decide ((a :: r,xn) ∈ all2) by rw [hp];simp [zgc,hz,hzn];omega);have kz:¬ z ≥ 0:=(by omega);clear hp hz h0
         all_goals
          have v0:=hx3.cell u0;have v1:=hx3.cell u1;have w0:=hx3.cell r0;have w1:=hx3.cell r1;have hS3:=HS2.out.ext hx3;have hlk:=zih (P:=Tryz.prog) Tryz.underlying188 zwt znb hS3 (a :: r,xn);have hx4:=(Ext.refl W3).alloc (.cells #[] 141)
          by_cases hmem:(a :: r,xn) ∈ all2
          ·have HF:=zH (show mayB l=false by rw [HMM.out,HOK.out];simp [hmem]);simp only [hmem,decide_true] at hlk;clear hmem hS3;go_wp2_with fail;go_ret;exact⟨by rw [HF.out];rfl,(HX2.out.trans hx3).alloc _⟩
          ·have HF:=zH (show mayB l=(match zel (p2++[(a :: r,xn)]).getLast? (addK all2 (a :: r,xn)) q2 with | none=>false | some a=>zdu (some it.1) a post) by
            rw [HMM.out,HOK.out];have:addK all2 (a :: r,xn)=all2++[(a :: r,xn)]:=by unfold addK;rw [if_neg hmem]
            rw [this];simp [hmem])
           simp only [hmem,decide_false] at hlk;obtain⟨w5,hup,hs5,ht5⟩:=zc9 (P:=Tryz.prog) Tryz.underlying188 zwt (hS3.ext hx4) (a :: r,xn);have hwa:=hS3.lt;have HS5:=zH hs5;have v0a:=hx4.cell v0;have v1a:=hx4.cell v1;have y0:=ht5.cell (hx4.cell w0) (by omega);have y1:=ht5.cell (hx4.cell w1) (by omega);have HX5:=zH (((HX2.out.trans hx3).trans hx4).turned ht5 (Nat.le_refl _));clear hmem hS3 hs5 ht5 hx3 hx4;go_wp2_with fail;go_roundw
           case rel=>exact⟨p2++[(a :: r,xn)],q2,_,by rw [HL2.out];simp,by simp,HF,HS5.out,⟨y0,y1⟩,HX5.out⟩
           case measure=>simp [intOf];omega
       ·have HF:=zH (show mayB l=false by rw [HMM.out];simp only [zgc,Bool.eq_false_iff.2 hd];rfl);clear HMM hpd HIN HS2;obtain⟨xs,xn⟩:=x
        cases xs with
        | nil=>go_wp2_with fail;generalize wr.alloc (.cells #[St [],U xn] 59)=W2 at *;go_quiet (fail);go_wp2_with fail;go_ret;exact⟨by rw [HF.out];rfl,HX2.out.drewN _⟩
        | cons a r =>
         by_cases h1:1<=xn
         ·have h2:281474976710656 < xn:=by
           simp at hd;omega
          have kA:decide ((xn:Int) < 1)=false:=decide_eq_false (by omega);have kB:decide ((281474976710656:Int) < (xn:Int))=true:=decide_eq_true (by omega);clear hd;go_wp2_with fail;generalize wr.alloc (.cells #[St (a :: r),U xn] 59)=W2 at *;go_quiet (fail);go_wp2_with fail;go_ret;exact⟨by rw [HF.out];rfl,HX2.out.drewN _⟩
         ·obtain rfl:xn=0:=by omega
          clear hd h1;go_wp2_with fail;generalize wr.alloc (.cells #[St (a :: r),U 0] 59)=W2 at *;go_quiet (fail);go_wp2_with fail;go_ret;exact⟨by rw [HF.out];rfl,HX2.out.drewN _⟩
      | nil =>
       rw [List.append_nil] at hl2;have hlen2:it.2.length=p2.length:=(by rw [hl2]);have HF:=zH (show mayB l=zdu ((pre++[it]).getLast?.map (·.1)) all2 post by rw [hm2.out];simp [zel]);have HS2:=zH hS2;have HX2:=zH hx2;clear hl2 hm2 hS2 hx2 s0 s1;go_wp2_with fail;go_roundw
       case rel=>exact⟨pre++[it],post,all2,by rw [HL.out];simp,by simp,HF,HS2.out,HX2.out⟩
       case measure=>simp [intOf];omega
   ·have HF:=zH (show mayB l=false by rw [HM.out,if_neg hok]);rcases hprev with ⟨h0,hp⟩ | ⟨h0,q,hp,q0⟩
    ·rw [hp] at hok;have k0:¬ (pre.length:Int) > 0:=(by omega);have k0n:¬ 0 < pre.length:=by omega
     by_cases hL:4096 < it.1.length
     ·have k1:(it.1.length:Int) > 4096:=(by omega);clear hp hok h0;go_wp2_with fail;generalize wr.alloc (.cells #[St it.1,.slice A2 it.2.length c2] 57)=W1 at *;go_quiet (fail);go_wp2_with fail;go_ret;exact⟨by rw [HF.out];rfl,HX.out.drewN _⟩
     ·have k1:¬ (it.1.length:Int) > 4096:=by omega
      have hE:it.2.length=0:=by
       unfold zg8 at hok
       cases h2:it.2 with
       | nil=>rfl
       | cons a r=>exact absurd (by simp [h2];omega) hok
      clear hp hok HIN HM HS h0;obtain⟨ts,ds⟩:=it;obtain rfl:ds = []:=List.eq_nil_of_length_eq_zero hE;clear hE;simp only [List.length_nil] at t0 t1 hd1 hc3 HX ⊢;have k1e:¬ (ts.length:Int) > 4096:=k1;have k1d:decide ((4096:Int) < (List.length ts:Int))=false:=decide_eq_false (by omega);clear k1;go_wp2_with fail;generalize wr.alloc (.cells #[St ts,.slice A2 0 c2] 57)=W1 at *;go_quiet (fail);go_wp2_with fail;go_ret;exact⟨by rw [HF.out];rfl,HX.out.drewN _⟩
    ·rw [hp] at hok;have k0:(pre.length:Int) > 0:=(by omega);have k4:=zg9 h0 (by omega);have k5:((pre.length - 1:Nat):Int) < (l.length:Int):=(by omega);have k6:(0:Int)<=((pre.length - 1:Nat):Int):=(by omega);have k7:(((pre.length - 1:Nat):Int)).toNat=pre.length - 1:=(by omega);cases hq:ltS q.1 it.1
     ·clear hp hok;go_wp2_with fail;generalize wr.alloc (.cells #[St it.1,.slice A2 it.2.length c2] 57)=W1 at *;go_quiet (fail);go_wp2_with fail;go_ret;exact⟨by rw [HF.out];rfl,HX.out.drewN _⟩
     ·by_cases hL:4096 < it.1.length
      ·have k1:(it.1.length:Int) > 4096:=(by omega);clear hp hok;go_wp2_with fail;generalize wr.alloc (.cells #[St it.1,.slice A2 it.2.length c2] 57)=W1 at *;go_quiet (fail);go_wp2_with fail;go_ret;exact⟨by rw [HF.out];rfl,HX.out.drewN _⟩
      ·have k1:¬ (it.1.length:Int) > 4096:=by omega
       have hE:it.2.length=0:=by
        unfold zg8 at hok
        cases h2:it.2 with
        | nil=>rfl
        | cons a r=>exact absurd (by simp [h2,hq];omega) hok
       clear hp hok HIN HM HS;obtain⟨ts,ds⟩:=it;obtain rfl:ds = []:=List.eq_nil_of_length_eq_zero hE;clear hE;simp only [List.length_nil] at t0 t1 hd1 hc3 HX ⊢;have k1e:¬ (ts.length:Int) > 4096:=k1;have k1d:decide ((4096:Int) < (List.length ts:Int))=false:=decide_eq_false (by omega);clear k1;go_wp2_with fail;generalize wr.alloc (.cells #[St ts,.slice A2 0 c2] 57)=W1 at *;go_quiet (fail);go_wp2_with fail;go_ret;exact⟨by rw [HF.out];rfl,HX.out.drewN _⟩
  | nil=>rw [List.append_nil] at hl;have hlen:l.length=pre.length:=(by rw [hl]);have HF:=zH (show mayB l=true by rw [hm.out];rfl);have HX:=zH hx;clear hl hm hS hx;go_wp2_with fail;go_ret;exact⟨by rw [HF.out];rfl,HX.out⟩
end
section
open Go.Sort
def OkD (d:Dot):Prop:=d.1 ≠ []/\1<=d.2/\d.2<=281474976710656
def zcx (l:List Item):List Dot:=l.flatMap (·.2)
def GoodB (l:List Item):Prop:=(l.Pairwise fun a b=>ltS a.1 b.1=true)/\(∀ it ∈ l,it.1.length<=4096/\it.2 ≠ []/\it.2.Pairwise fun a b=>ltOf cmpD a b=true)/\(∀ d ∈ zcx l,OkD d)/\(zcx l).Nodup
theorem okDot_iff {prev:Option Dot} {all:List Dot} {d:Dot}:zgc prev all d=true↔OkD d/\(∀ q,prev=some q->ltOf cmpD q d=true)/\d ∉ all:=by
 unfold zgc OkD ltOf
 cases prev with
 | none=>simp [and_assoc]
 | some q=>simp [and_assoc]
theorem zj4:∀ (ds:List Dot) (prev:Option Dot) (all:List Dot),(all.Nodup)->∀ r,zel prev all ds=some r↔r=all++ds/\(∀ d ∈ ds,OkD d)/\(ds.Pairwise fun a b=>ltOf cmpD a b=true)/\(∀ q,prev=some q->∀ d ∈ ds,ltOf cmpD q d=true)/\(all++ds).Nodup
 | [],prev,all,hn,r=>by
  unfold zel
  constructor
  ·intro e;cases e;exact⟨(List.append_nil _).symm,by simp,.nil,by simp,by simpa using hn⟩
  ·rintro⟨rfl,-⟩;rw [List.append_nil]
 | d :: s,prev,all,hn,r=>by
  unfold zel
  by_cases h:zgc prev all d=true
  ·rw [if_pos h];obtain⟨h1,h2,h3⟩:=okDot_iff.1 h
   have hn2:(all++[d]).Nodup:=by rw [List.nodup_append];exact⟨hn,by simp,fun a ha b hb=>by simp at hb;subst hb;rintro rfl;exact h3 ha⟩
   rw [zj4 s (some d) (all++[d]) hn2 r];rw [List.append_assoc,List.singleton_append]
   constructor
   ·rintro⟨e,k1,k2,k3,k4⟩;have k3':=k3 d rfl;refine ⟨e,fun x hx=>?_,List.pairwise_cons.2 ⟨k3',k2⟩,fun q hq x hx=>?_,k4⟩
    ·rcases List.mem_cons.1 hx with rfl | hx
     ·exact h1
     ·exact k1 x hx
    ·rcases List.mem_cons.1 hx with rfl | hx
     ·exact h2 q hq
     ·exact znv _ _ _ (h2 q hq) (k3' x hx)
   ·rintro⟨e,k1,k2,k3,k4⟩;exact⟨e,fun x hx=>k1 x (by simp [hx]),(List.pairwise_cons.1 k2).2,fun q hq x hx=>by cases hq;exact (List.pairwise_cons.1 k2).1 x hx,k4⟩
  ·rw [if_neg h]
   constructor
   ·intro e;cases e
   ·rintro⟨e,k1,k2,k3,k4⟩;refine absurd (okDot_iff.2 ⟨k1 d (by simp),fun q hq=>k3 q hq d (by simp),fun hd=>?_⟩) h;exact (List.nodup_append.1 k4).2.2 d hd d (by simp) rfl
theorem okText_iff {prev:Option Str} {it:Item}:zg8 prev it=true↔(∀ s,prev=some s->ltS s it.1=true)/\it.1.length<=4096/\it.2 ≠ []:=by
 unfold zg8
 cases prev with
 | none=>simp
 | some s=>simp [and_assoc]
theorem zlw:∀ (l:List Item) (prev:Option Str) (all:List Dot),all.Nodup->(zdu prev all l=true↔(l.Pairwise fun a b=>ltS a.1 b.1=true)/\(∀ it ∈ l,it.1.length<=4096/\it.2 ≠ []/\it.2.Pairwise fun a b=>ltOf cmpD a b=true)/\(∀ d ∈ zcx l,OkD d)/\(all++zcx l).Nodup/\∀ s,prev=some s->∀ it ∈ l,ltS s it.1=true)
 | [],prev,all,hn=>by simp [zdu,zcx,hn]
 | it :: r,prev,all,hn=>by
  unfold zdu;have hd:zcx (it :: r)=it.2++zcx r:=by simp [zcx]
  rw [hd]
  by_cases h:zg8 prev it=true
  ·rw [if_pos h];obtain⟨h1,h2,h3⟩:=okText_iff.1 h
   cases hr:zel none all it.2 with
   | none =>
    simp only [Bool.false_eq_true,false_iff];rintro⟨k1,k2,k3,k4,k5⟩
    have hh:=(zj4 it.2 none all hn (all++it.2)).2 ⟨rfl,fun d hd=>k3 d (List.mem_append_left _ hd),(k2 it (by simp)).2.2,by simp,by rw [<- List.append_assoc] at k4;exact (List.nodup_append.1 k4).1⟩
    rw [hr] at hh;cases hh
   | some a =>
    obtain⟨rfl,g1,g2,-,g4⟩:=(zj4 it.2 none all hn a).1 hr;simp only;rw [zlw r (some it.1) _ g4,List.append_assoc]
    constructor
    ·rintro⟨k1,k2,k3,k4,k5⟩;have k5':=k5 it.1 rfl;refine ⟨List.pairwise_cons.2 ⟨k5',k1⟩,fun x hx=>?_,fun d hd=>?_,k4,fun s hs x hx=>?_⟩
     ·rcases List.mem_cons.1 hx with rfl | hx
      ·exact⟨h2,h3,g2⟩
      ·exact k2 x hx
     ·rcases List.mem_append.1 hd with hd | hd
      ·exact g1 d hd
      ·exact k3 d hd
     ·rcases List.mem_cons.1 hx with rfl | hx
      ·exact h1 s hs
      ·exact zay (h1 s hs) (k5' x hx)
    ·rintro⟨k1,k2,k3,k4,k5⟩;exact⟨(List.pairwise_cons.1 k1).2,fun x hx=>k2 x (by simp [hx]),fun d hd=>k3 d (List.mem_append_right _ hd),k4,fun s hs x hx=>by cases hs;exact (List.pairwise_cons.1 k1).1 x hx⟩
  ·rw [if_neg h];simp only [Bool.false_eq_true,false_iff];rintro⟨k1,k2,k3,k4,k5⟩;exact h (okText_iff.2 ⟨fun s hs=>k5 s hs it (by simp),(k2 it (by simp)).1,(k2 it (by simp)).2.1⟩)
theorem mayB_iff {l:List Item}:mayB l=true↔GoodB l:=by
 unfold mayB;rw [zlw l none [] .nil];unfold GoodB;simp
theorem zhq {α:Type} {P:List α->Prop} (h0:P []) (h1:∀ l a,P l->P (l++[a])) (l:List α):P l:=by
 have h:∀ r:List α,P r.reverse:=by
  intro r
  induction r with
  | nil=>exact h0
  | cons a r ih=>rw [List.reverse_cons];exact h1 _ _ ih
 have:=h l.reverse
 rwa [List.reverse_reverse] at this
theorem znd (l:List Item) (p:zan):zab (zb5 l p)=zab l++[p]:=by
 rcases List.eq_nil_or_concat l with rfl | ⟨pre,it,rfl⟩
 ·simp [zb5,zab]
 ·by_cases h:it.1=p.1
  ·obtain⟨t,ds⟩:=it;obtain⟨s,d⟩:=p;simp only at h;subst h;rw [List.concat_eq_append,zhn];simp [zab]
  ·rw [List.concat_eq_append,zg3 _ _ _ (by simpa using h)];simp [zab]
theorem zdw (ps:List zan):zab (zep ps)=ps:=by
 induction ps using zhq with
 | h0=>rfl
 | h1 ps p ih=>rw [zhv,znd,ih]
theorem ze4 {l:List Item} {it:Item} {d:Dot} (h:it ∈ l) (hd:d ∈ it.2):(it.1,d) ∈ zab l:=List.mem_flatMap.2 ⟨it,h,List.mem_map.2 ⟨d,hd,rfl⟩⟩
theorem zf8 (ps:List zan):ps.Pairwise (fun a b=>ltOf cmpP a b=true)->((zep ps).Pairwise fun a b=>ltS a.1 b.1=true)/\∀ it ∈ zep ps,it.2 ≠ []/\it.2.Pairwise fun a b=>ltOf cmpD a b=true:=by
 induction ps using zhq with
 | h0=>intro _;exact⟨.nil,fun it h=>by cases h⟩
 | h1 ps p ih =>
  intro hp;obtain⟨hp1,-,hp2⟩:=List.pairwise_append.1 hp;have hlt:∀ q ∈ ps,ltOf cmpP q p=true:=fun q hq=>hp2 q hq p (by simp)
  obtain⟨h1,h2⟩:=ih hp1;have hpl:=zdw ps;rw [zhv];generalize zep ps=l at *;rcases List.eq_nil_or_concat l with rfl | ⟨pre,it,rfl⟩
  ·rw [zqj];exact⟨by simp,fun it h=>by simp at h;subst h;simp⟩
  ·rw [List.concat_eq_append] at *
   by_cases h:it.1=p.1
   ·obtain⟨t,ds⟩:=it;obtain⟨s,d⟩:=p;simp only at h;subst h;rw [zhn];obtain⟨k1,-,k2⟩:=List.pairwise_append.1 h1;refine ⟨List.pairwise_append.2 ⟨k1,by simp,fun a ha b hb=>?_⟩,fun x hx=>?_⟩
    ·simp only [List.mem_singleton] at hb;subst hb;exact k2 a ha (t,ds) (by simp)
    ·rcases List.mem_append.1 hx with hx | hx
     ·exact h2 x (List.mem_append_left _ hx)
     ·simp only [List.mem_singleton] at hx;subst hx;refine ⟨by simp,List.pairwise_append.2 ⟨(h2 (t,ds) (by simp)).2,by simp,fun a ha b hb=>?_⟩⟩;simp only [List.mem_singleton] at hb;subst hb;have hm:=hlt (t,a) (by rw [<- hpl];exact ze4 (it:=(t,ds)) (by simp) ha);rcases cmpP_lt.1 hm with hm | hm
      ·rw [zap] at hm;cases hm
      ·exact hm.2
   ·rw [zg3 _ _ _ (by simpa using h)]
    have hlast:ltS it.1 p.1=true:=by
     obtain⟨h3,-⟩:=h2 it (by simp)
     cases hds:it.2 with
     | nil=>exact absurd hds h3
     | cons a r =>
      have hm:=hlt (it.1,a) (by rw [<- hpl];exact ze4 (by simp) (by rw [hds];simp));rcases cmpP_lt.1 hm with hm | hm
      ·exact hm
      ·exact absurd hm.1 h
    refine ⟨List.pairwise_append.2 ⟨h1,by simp,fun a ha b hb=>?_⟩,fun x hx=>?_⟩
    ·simp only [List.mem_singleton] at hb;subst hb;rcases List.mem_append.1 ha with ha | ha
     ·exact zay ((List.pairwise_append.1 h1).2.2 a ha it (by simp)) hlast
     ·simp only [List.mem_singleton] at ha;subst ha;exact hlast
    ·rcases List.mem_append.1 hx with hx | hx
     ·exact h2 x hx
     ·simp only [List.mem_singleton] at hx;subst hx;simp
theorem zcn (l:List Item):zcx l=(zab l).map (·.2):=by
 unfold zcx zab;rw [List.map_flatMap]
 congr 1
 funext it
 simp [Function.comp_def]
theorem zhz {ps:List zan} (hn:ps.Nodup):(zco (ltOf cmpP) ps).Pairwise fun a b=>ltOf cmpP a b=true:=by
 have h1:=zdn zhm ps;have h2:(zco (ltOf cmpP) ps).Nodup:=(zbq ps).nodup_iff.2 hn
 exact (h1.and h2).imp fun {a b} h=>by
  rcases zm9 a b with k | k | k
  ·exact k
  ·exact absurd k h.2
  ·rw [h.1] at k;cases k
theorem zh0 {ps:List zan} (hn:(ps.map (·.2)).Nodup) (hd:∀ p ∈ ps,OkD p.2) (ht:∀ p ∈ ps,p.1.length<=4096):GoodB (za7 ps):=by
 have hn0:ps.Nodup:=(List.pairwise_map.1 hn).imp fun h e=>h (by rw [e])
 have hp:=zbq (lt:=ltOf cmpP) ps;obtain⟨h1,h2⟩:=zf8 _ (zhz hn0);have hpl:=zdw (zco (ltOf cmpP) ps);unfold za7;refine ⟨h1,fun it hit=>?_,fun d hdd=>?_,?_⟩
 ·obtain⟨k1,k2⟩:=h2 it hit;refine ⟨?_,k1,k2⟩
  cases hds:it.2 with
  | nil=>exact absurd hds k1
  | cons a r=>have hm:=ze4 hit (d:=a) (by rw [hds];simp);rw [hpl] at hm;exact ht _ (hp.mem_iff.1 hm)
 ·rw [zcn,hpl] at hdd;obtain⟨p,hp1,rfl⟩:=List.mem_map.1 hdd;exact hd p (hp.mem_iff.1 hp1)
 ·rw [zcn,hpl];exact ((hp.map _).nodup_iff).2 hn
theorem zn7 {ps:List zan} {d:Dot} (h:d ∈ zcx (za7 ps)):∃ p ∈ ps,p.2=d:=by
 rw [zcn] at h;unfold za7 at h;rw [zdw] at h;obtain⟨p,hp,e⟩:=List.mem_map.1 h;exact⟨p,(zbq ps).mem_iff.1 hp,e⟩
end
end Go.Proofs.YtaabaflgeljbjaaGreat
