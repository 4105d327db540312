/- Contracts and plain laws. -/
import Derived.Test.YtdikcgmdmcfpfaaGreatJo13
import Derived.Test.YtdikcgmdmcfpfaaGreatJo16
import Derived.Test.YtdikcgmdmcfpfaaGreatJo17
import Derived.Test.YtdikcgmdmcfpfaaGreatJo18
import Derived.Test.YtdikcgmdmcfpfaaGreatJo08
import Derived.Test.YtdikcgmdmcfpfaaGreatJo04
set_option linter.unusedVariables false
set_option linter.unusedSimpArgs false
set_option maxRecDepth 100000
set_option maxHeartbeats 40000000
namespace Go.Proofs.YtdikcgmdmcfpfaaGreat
section
open Go.RowKit Go.Shelf Go.Sort
theorem zry {tid base:Nat} {v:Value} {l:List zam} {w:World} (h:Own w base tid 3 v l.length (l.flatMap zca)) {pre post:List zam} {m:zam} (hl:l=pre++m :: post) :
  ∃ g c,v=.slice (some ⟨g,0,none⟩) l.length c/\∀ w',Ext w w'->w'.cell? ⟨g,pre.length * 3,none⟩=some (St m.1)/\w'.cell? ⟨g,pre.length * 3+1,none⟩=some (St m.2.1)/\w'.cell? ⟨g,pre.length * 3+2,none⟩=some (U m.2.2):=by
 obtain⟨g,cap,cur,rfl,-,-,-⟩:=h.pos (by rw [hl];simp;omega);have hp:=zf4 pre
 have e:∀ j,(zca m)[j]? = (l.flatMap zca)[pre.length * 3+j]? ∨ 3<=j:=fun j=>by
  rcases Nat.lt_or_ge j 3 with hj | hj
  ·left
   rw [hl,List.flatMap_append,List.flatMap_cons,<- hp,List.getElem?_append_right (by omega),Nat.add_sub_cancel_left,List.getElem?_append_left (by simp [zca];omega)]
  ·exact .inr hj
 refine ⟨g,cap,rfl,fun w' hx=>?_⟩;have h0:=(e 0).resolve_right (by omega);have h1:=(e 1).resolve_right (by omega);have h2:=(e 2).resolve_right (by omega);exact⟨hx.cell (h.cell rfl h0.symm),hx.cell (h.cell rfl h1.symm),hx.cell (h.cell rfl h2.symm)⟩
theorem znc:∀ ps:List zam,(zdu ps).length<=ps.length:=by
 have:∀ (ps:List zam) (l:List Item),(ps.foldl zbz l).length<=l.length+ps.length:=by
  intro ps
  induction ps with
  | nil=>simp
  | cons p r ih =>
   intro l;rw [List.foldl_cons];refine Nat.le_trans (ih _) ?_
   have:(zbz l p).length<=l.length+1:=by
    unfold zbz
    split
    ·simp
    ·rename_i it he
     split
     ·have:l ≠ []:=by rintro rfl;simp at he
      have:=List.length_pos_iff.2 this;simp;(try omega)
     ·simp
   simp;omega
 intro ps
 simpa [zdu] using this ps []
theorem zob {l:List Item} {p:zam} {n:Nat} (hl:∀ it ∈ l,it.2.length<=n):∀ it ∈ zbz l p,it.2.length<=n+1:=by
 intro it h;unfold zbz at h
 split at h
 ·simp at h;subst h;simp
 ·rename_i a ha;have ham:a ∈ l:=List.mem_of_getLast? ha
  split at h
  ·rcases List.mem_append.1 h with h | h
   ·exact Nat.le_succ_of_le (hl it (List.dropLast_subset _ h))
   ·simp at h;subst h;simp;exact hl a ham
  ·rcases List.mem_append.1 h with h | h
   ·exact Nat.le_succ_of_le (hl it h)
   ·simp at h;subst h;simp
theorem zrz (ps:List zam):∀ it ∈ zdu ps,it.2.length<=ps.length:=by
 have:∀ (ps:List zam) (l:List Item) (n:Nat),(∀ it ∈ l,it.2.length<=n)->∀ it ∈ ps.foldl zbz l,it.2.length<=n+ps.length:=by
  intro ps
  induction ps with
  | nil=>intro l n hl it h;exact hl it h
  | cons p r ih=>intro l n hl it h;have:=ih (zbz l p) (n+1) (zob hl) it h;simp only [List.length_cons];omega
 intro it h;have:=this ps [] 0 (by simp) it h;omega
def yan (W:World) (base:Nat) (v:Value) (ps:List zam):Prop :=
 (ps = []/\v=.slice none 0 0) ∨ ∃ its last,zdu ps=its++[last]/\ItemsAt W base v its last
set_option maxRecDepth 100000 in
set_option maxHeartbeats 1000000 in
theorem zik {p : Nat} {ks : List zam} {w : World} (hm : SetOf zar w p ks) (hL : ks.length <= 1099511627776) :
   Calls Tryz.prog 193 #[.map (some p)] w fun e w' => ∃ v', e = .returned v' /\ OwnL itemT 96 w' w.heap.size (fun b => w.heap.size <= b) v' (zb3 ks) /\ Ext w w' := by
 have HK := zH (zvw p w)
 have hxk := (Ext.refl w).alloc (.cells #[.map (some p)] 229)
 have HS := zH (zrx (B := w.heap.size) (by simp [go_sem]) (hm.ext hxk) hL)
 clear hm
 go_enter Tryz.func193, Tryz.ntmps193
 go_wp2_with fail
 refine HK.out.mono ?_
 rintro e wk ⟨rfl, rfl⟩
 go_wp2_with fail
 refine HS.out.mono ?_
 rintro e W2 ⟨vk, rfl, hks, hx2⟩
 have hkl : (zcq (ltOf cmpP) ks).length = ks.length := (zb1 _).length_eq
 have HI := zH (show zb3 ks = zdu (zcq (ltOf cmpP) ks) from rfl)
 generalize zcq (ltOf cmpP) ks = qs at *
 have hkl2 : qs.length <= 1099511627776 := by omega
 clear hkl
 have HW2 := zH (hxk.trans hx2)
 have hff := hks.form
 obtain ⟨A, c, rfl, hc1, hc2⟩ := hff
 have HAT := zH (fun (pre post : List zam) (m : zam) (hl : qs = pre ++ m :: post) => zry hks hl)
 clear hks hx2 hxk
 go_wp2_with fail
 go_loopw [4, 13] (fun l i wr => ∃ pre post, qs = pre ++ post /\ i = I pre.length /\ Hid (yan wr W2.heap.size l pre) /\ Ext W2 wr) (fun _ i _ => qs.length - (intOf i).toNat)
 case atStart => exact ⟨[], qs, rfl, rfl, zH (.inl ⟨rfl, rfl⟩), Ext.refl _⟩
 case round =>
   obtain ⟨pre, post, hl, rfl, hrow, hx⟩ := hrel
   cases post with
   | cons q post =>
     obtain ⟨gk, ck, e, hcells⟩ := HAT.out pre post q hl
     obtain ⟨rfl, rfl⟩ : A = some ⟨gk, 0, none⟩ /\ c = ck := by injection e with e1 e2 e3; exact ⟨e1, e3⟩
     obtain ⟨hd0, hd1, hd2⟩ := hcells wr hx
     have hlt : pre.length < qs.length := by rw [hl]; simp
     have HL := zH hl
     have hx1 := (Ext.refl wr).alloc (.cells #[St q.1, St q.2.1, U q.2.2] 234)
     have b0 : (wr.alloc (.cells #[St q.1, St q.2.1, U q.2.2] 234)).cell? ⟨wr.heap.size, 0, none⟩ = some (St q.1) := by simp [go_sem]
     have b1 : (wr.alloc (.cells #[St q.1, St q.2.1, U q.2.2] 234)).cell? ⟨wr.heap.size, 1, none⟩ = some (St q.2.1) := by simp [go_sem]
     have b2 : (wr.alloc (.cells #[St q.1, St q.2.1, U q.2.2] 234)).cell? ⟨wr.heap.size, 2, none⟩ = some (U q.2.2) := by simp [go_sem]
     have HX := zH (hx.trans hx1)
     have hn3 := hx.size
     have hsz1 : wr.heap.size + 1 <= (wr.alloc (.cells #[St q.1, St q.2.1, U q.2.2] 234)).heap.size := by simp
     have hsz2 : (wr.alloc (.cells #[St q.1, St q.2.1, U q.2.2] 234)).heap.size <= wr.heap.size + 1 := by simp
     clear hl hx e hcells
     rcases hrow.out with ⟨rfl, rfl⟩ | ⟨its, ⟨t, ds⟩, hg, hI⟩
     · clear hrow
       simp only [List.length_nil, Nat.zero_mul, Nat.zero_add] at hd0 hd1 hd2 hlt ⊢
       go_wp2_with fail
       generalize wr.alloc (.cells #[St q.1, St q.2.1, U q.2.2] 234) = W1 at *
       go_quiet (fail)
       go_wp2_with (at_builtin; refine zab rfl (.tmp 32) (.tmp 36) 33 rfl W2.heap.size 96 2 40 (.agg #[St [], .slice none 0 0]) Tryz.underlying33 zdt rfl (by omega) _ 0 [] rfl (Own.nil _ _ _ _ _) _ 1 1 _ rfl (Src.new rfl (by intro u hu; simp at hu; rcases hu with rfl | rfl <;> rfl)) (by omega) (by omega) (by first | omega | (simp; omega)) ?_; intro v' W3 hown hgr
                    have hI := ItemsAt.first q.1 (by simpa using hown)
                    have hxa : Ext W1 W3 := Ext.grew ((((Ext.refl W1).drewN _).alloc _)) hgr (fun b ⟨g, n, c, e, _, _⟩ => by cases e)
                    have c1 := hxa.cell b1
                    have c2 := hxa.cell b2
                    obtain ⟨g, cap, dv, rfl, hcap1, hcap2, hgb, t0, t1, tf, hdv, hdg⟩ := hI.tells
                    obtain ⟨Ad, cd, rfl, hcd1, hcd2⟩ := hdv.form
                    simp only [List.length_nil, Nat.zero_mul, Nat.zero_add] at hcap1 t0 t1 tf ⊢)
       have HX3 := zH (HX.out.trans hxa)
       have t1d := (Ext.refl W3).drew.cell t1
       have tfd := ((Ext.refl W3).drew.frozen (o := 1) (zaf t1)).trans tf
       have hId := zH (hI.ext (Ext.refl W3).drew)
       have HXD := zH (HX3.out.drew)
       have hglt := zaf t1d
       have hwd := HXD.out.size
       have hwd3 := HX3.out.size
       have t1a := ((Ext.refl W3).alloc (.cells #[St q.2.1, U q.2.2] 97)).cell t1
       have hvd := zH (hdv.ext (Ext.refl W3).drew)
       clear hI hdv
       go_region_law (refine zf5 rfl (.tmp 47) (.tmp 50) 94 rfl W2.heap.size 97 2 24 (.agg #[St [], U 0]) Tryz.underlying94 zd1 rfl (by omega) (.slice Ad 0 cd) 0 (([] : List Dot).flatMap zag) (by simp [Act.eval, Act.put]) (hvd.out.alloc _) (some ⟨W3.heap.size, 0, none⟩) 1 1 [St q.2.1, U q.2.2] (by simp [Act.eval, Act.put]) (Src.new rfl (by intro u hu; simp at hu; rcases hu with rfl | rfl <;> rfl)) (by omega) (by omega) (by first | omega | (simp; omega)) ?_; intro dv' W5 hown5 hgr5
                      have hxe := (Ext.refl W3.drew).alloc (.cells #[St q.2.1, U q.2.2] 97)
                      have hsame5 := hgr5.same g (Nat.lt_of_lt_of_le hglt hxe.size) (fun hb => hdg _ hb rfl)
                      have t5 : W5.cell? ⟨g, 1, none⟩ = some (.slice Ad 0 cd) := (World.cell?_of_block (a := ⟨g, 1, none⟩) hsame5).trans (hxe.cell t1d)
                      have tf5 : W5.frozen? ⟨g, 1, none⟩ = false := by
                        have h := (hxe.frozen (o := 1) hglt).trans tfd
                        unfold World.frozen? at h ⊢
                        simp only [] at h ⊢
                        rw [hsame5]
                        exact h
                      have hg5 : Grew (W3.drew.alloc (.cells #[St q.2.1, U q.2.2] 97)) W5 (.slice Ad 0 cd) dv' := hgr5
                      have hi : ItemsAt (W3.drew.alloc (.cells #[St q.2.1, U q.2.2] 97)) W2.heap.size (.slice (some ⟨g, 0, none⟩) (0 + 1) cap) [] (q.1, []) := hId.out.ext hxe
                      have hI5 := zH (ItemsAt.dotN (n := 0) (its := []) rfl (d := q.2) hi (hxe.cell t1d) hg5 hown5)
                      have HX5 := zH (Ext.grewOwn (HXD.out.alloc _) hg5 (hvd.out.alloc _) (Nat.le_refl _))
                      obtain ⟨Ae, ce, rfl, hce1, hce2⟩ := hown5.form
                      clear hxe hsame5 hi hown5 hgr5 hg5)
       all_goals
         go_wp2
         go_roundw
         case rel => exact ⟨[] ++ [q], post, by rw [HL.out]; simp, by simp, zH (.inr ⟨[], (q.1, [] ++ [q.2]), rfl, hI5.out⟩), HX5.out.set (by simpa using hgb) _⟩
         case measure => simp [intOf]; omega
     · have HG := zH hg
       clear hrow hg
       have hI1 := hI.ext hx1
       obtain ⟨g, cap, dv, rfl, hcap1, hcap2, hgb, t0, t1, tf, hdv, hdg⟩ := hI1.tells
       obtain ⟨Ad, cd, rfl, hcd1, hcd2⟩ := hdv.form
       have HI1 := zH hI1
       have HDV := zH hdv
       have HDG := zH hdg
       have hgl := znc pre
       rw [HG.out, List.length_append, List.length_singleton] at hgl
       have hdl : ds.length <= pre.length := zrz pre (t, ds) (by rw [HG.out]; simp)
       have hgw : g < wr.heap.size := by
         obtain ⟨g2, _, _, e, _, _, _, tt, -⟩ := hI.tells
         cases e
         exact zaf tt
       have k1 : (((its.length : Int) + 1) == 0) = false := by rw [beq_eq_false_iff_ne]; omega
       have k4 : IntKind.i64.wrap ((its.length : Int) + 1 - 1) = its.length := by rw [show (its.length : Int) + 1 - 1 = its.length by omega]; simp [IntKind.wrap, IntKind.signed, IntKind.bits]; omega
       have k5 : IntKind.i64.wrap (its.length : Int) = its.length := by simp [IntKind.wrap, IntKind.signed, IntKind.bits]; omega
       have k6 : ((its.length : Int)).toNat = its.length := by omega
       have k7 : (0 : Int) <= (its.length : Int) := by omega
       have k8 : (its.length : Int) < (its.length : Int) + 1 := by omega
       clear hI hI1 hdv hdg
       by_cases htq : t = q.1
       · subst htq
         go_wp2_with fail
         generalize wr.alloc (.cells #[St q.1, St q.2.1, U q.2.2] 234) = W1 at *
         go_quiet (fail)
         go_wp2_with fail
         have hxn : Ext W1 (W1.drewN nq) := (Ext.refl W1).drewN nq
         generalize W1.drewN nq = W3 at *
         have hI := HI1.out.ext hxn
         have hdv := HDV.out.ext hxn
         have hdg := HDG.out
         have HX3 := zH (HX.out.trans hxn)
         have c1 := hxn.cell b1
         have c2 := hxn.cell b2
         have t1 := (show W3.cell? ⟨g, its.length * 2 + 1, none⟩ = some (.slice Ad ds.length cd) from hxn.cell ‹W1.cell? ⟨g, its.length * 2 + 1, none⟩ = some (.slice Ad ds.length cd)›)
         have tf := (hxn.frozen (o := its.length * 2 + 1) (zaf ‹W1.cell? ⟨g, its.length * 2 + 1, none⟩ = some (.slice Ad ds.length cd)›)).trans ‹W1.frozen? ⟨g, its.length * 2 + 1, none⟩ = false›
         have t1d := (Ext.refl W3).drew.cell t1
         have tfd := ((Ext.refl W3).drew.frozen (o := (its.length * 2 + 1)) (zaf t1)).trans tf
         have hId := zH (hI.ext (Ext.refl W3).drew)
         have HXD := zH (HX3.out.drew)
         have hglt := zaf t1d
         have hwd := HXD.out.size
         have hwd3 := HX3.out.size
         have t1a := ((Ext.refl W3).alloc (.cells #[St q.2.1, U q.2.2] 97)).cell t1
         have hvd := zH (hdv.ext (Ext.refl W3).drew)
         clear hI hdv
         go_region_law (refine zf5 rfl (.tmp 47) (.tmp 50) 94 rfl W2.heap.size 97 2 24 (.agg #[St [], U 0]) Tryz.underlying94 zd1 rfl (by omega) (.slice Ad ds.length cd) ds.length (ds.flatMap zag) (by simp [Act.eval, Act.put]) (hvd.out.alloc _) (some ⟨W3.heap.size, 0, none⟩) 1 1 [St q.2.1, U q.2.2] (by simp [Act.eval, Act.put]) (Src.new rfl (by intro u hu; simp at hu; rcases hu with rfl | rfl <;> rfl)) (by omega) (by omega) (by first | omega | (simp; omega)) ?_; intro dv' W5 hown5 hgr5
                        have hxe := (Ext.refl W3.drew).alloc (.cells #[St q.2.1, U q.2.2] 97)
                        have hsame5 := hgr5.same g (Nat.lt_of_lt_of_le hglt hxe.size) (fun hb => hdg _ hb rfl)
                        have t5 : W5.cell? ⟨g, (its.length * 2 + 1), none⟩ = some (.slice Ad ds.length cd) := (World.cell?_of_block (a := ⟨g, (its.length * 2 + 1), none⟩) hsame5).trans (hxe.cell t1d)
                        have tf5 : W5.frozen? ⟨g, (its.length * 2 + 1), none⟩ = false := by
                          have h := (hxe.frozen (o := (its.length * 2 + 1)) hglt).trans tfd
                          unfold World.frozen? at h ⊢
                          simp only [] at h ⊢
                          rw [hsame5]
                          exact h
                        have hg5 : Grew (W3.drew.alloc (.cells #[St q.2.1, U q.2.2] 97)) W5 (.slice Ad ds.length cd) dv' := hgr5
                        have hi : ItemsAt (W3.drew.alloc (.cells #[St q.2.1, U q.2.2] 97)) W2.heap.size (.slice (some ⟨g, 0, none⟩) (its.length + 1) cap) its (q.1, ds) := hId.out.ext hxe
                        have hI5 := zH (ItemsAt.dotN (n := its.length) (its := its) rfl (d := q.2) hi (hxe.cell t1d) hg5 hown5)
                        have HX5 := zH (Ext.grewOwn (HXD.out.alloc _) hg5 (hvd.out.alloc _) (Nat.le_refl _))
                        obtain ⟨Ae, ce, rfl, hce1, hce2⟩ := hown5.form
                        clear hxe hsame5 hi hown5 hgr5 hg5)
         all_goals
           go_wp2
           go_roundw
           case rel => exact ⟨pre ++ [q], post, by rw [HL.out]; simp, by simp, zH (.inr ⟨its, (q.1, ds ++ [q.2]), (by rw [zgt, HG.out]; exact zgm _ _ _ _), hI5.out⟩), HX5.out.set (by simpa using hgb) _⟩
           case measure => simp [intOf]; omega
       · have hne : (t == q.1) = false := by simpa using htq
         have hne2 : (q.1 == t) = false := by simpa using (fun e => htq e.symm)
         go_wp2_with fail
         generalize wr.alloc (.cells #[St q.1, St q.2.1, U q.2.2] 234) = W1 at *
         go_quiet (fail)
         obtain ⟨xs, hxs, hmore⟩ := (HI1.out.ext (((Ext.refl W1).drewN nq).alloc (.cells #[St q.1, .slice none 0 0] 96))).row
         have HMORE := zH hmore
         clear hmore
         go_wp2_with (at_builtin; refine zab rfl (.tmp 32) (.tmp 36) 33 rfl W2.heap.size 96 2 40 (.agg #[St [], .slice none 0 0]) Tryz.underlying33 zdt rfl (by omega) _ (its.length + 1) xs rfl hxs _ 1 1 _ rfl (Src.new rfl (by intro u hu; simp at hu; rcases hu with rfl | rfl <;> rfl)) (by omega) (by omega) (by first | omega | (simp; omega)) ?_; intro v' W3 hown hgr
                      have hI := HMORE.out W3 v' q.1 hown hgr
                      have hxa : Ext W2 W3 := Ext.grewOwn ((HX.out.trans ((Ext.refl W1).drewN nq)).alloc (.cells #[St q.1, .slice none 0 0] 96)) hgr hxs (Nat.le_refl _)
                      have hxb := ((Ext.refl W1).drewN nq).alloc (.cells #[St q.1, .slice none 0 0] 96)
                      have c1 : W3.cell? ⟨wr.heap.size, 1, none⟩ = some (St q.2.1) := (World.cell?_of_block (a := ⟨wr.heap.size, 1, none⟩) (hgr.same wr.heap.size (zaf (hxb.cell b1)) (fun ⟨g', n', c', e, _, e2⟩ => by cases e; omega))).trans (hxb.cell b1)
                      have c2 : W3.cell? ⟨wr.heap.size, 2, none⟩ = some (U q.2.2) := (World.cell?_of_block (a := ⟨wr.heap.size, 2, none⟩) (hgr.same wr.heap.size (zaf (hxb.cell b2)) (fun ⟨g', n', c', e, _, e2⟩ => by cases e; omega))).trans (hxb.cell b2)
                      have HX3 := zH hxa
                      clear hcap1 hcap2 hgb t0 t1 tf
                      obtain ⟨g, cap, dv, rfl, hcap1, hcap2, hgb, t0, t1, tf, hdv, hdg⟩ := hI.tells
                      obtain ⟨Ad, cd, rfl, hcd1, hcd2⟩ := hdv.form
                      simp only [List.length_append, List.length_cons, List.length_nil, Nat.zero_add] at hcap1 t0 t1 tf hI ⊢)
         have t1d := (Ext.refl W3).drew.cell t1
         have tfd := ((Ext.refl W3).drew.frozen (o := ((its.length + 1) * 2 + 1)) (zaf t1)).trans tf
         have hId := zH (hI.ext (Ext.refl W3).drew)
         have HXD := zH (HX3.out.drew)
         have hglt := zaf t1d
         have hwd := HXD.out.size
         have hwd3 := HX3.out.size
         have t1a := ((Ext.refl W3).alloc (.cells #[St q.2.1, U q.2.2] 97)).cell t1
         have hvd := zH (hdv.ext (Ext.refl W3).drew)
         clear hI hdv
         go_region_law (refine zf5 rfl (.tmp 47) (.tmp 50) 94 rfl W2.heap.size 97 2 24 (.agg #[St [], U 0]) Tryz.underlying94 zd1 rfl (by omega) (.slice Ad 0 cd) 0 (([] : List Dot).flatMap zag) (by simp [Act.eval, Act.put]) (hvd.out.alloc _) (some ⟨W3.heap.size, 0, none⟩) 1 1 [St q.2.1, U q.2.2] (by simp [Act.eval, Act.put]) (Src.new rfl (by intro u hu; simp at hu; rcases hu with rfl | rfl <;> rfl)) (by omega) (by omega) (by first | omega | (simp; omega)) ?_; intro dv' W5 hown5 hgr5
                        have hxe := (Ext.refl W3.drew).alloc (.cells #[St q.2.1, U q.2.2] 97)
                        have hsame5 := hgr5.same g (Nat.lt_of_lt_of_le hglt hxe.size) (fun hb => hdg _ hb rfl)
                        have t5 : W5.cell? ⟨g, ((its.length + 1) * 2 + 1), none⟩ = some (.slice Ad 0 cd) := (World.cell?_of_block (a := ⟨g, ((its.length + 1) * 2 + 1), none⟩) hsame5).trans (hxe.cell t1d)
                        have tf5 : W5.frozen? ⟨g, ((its.length + 1) * 2 + 1), none⟩ = false := by
                          have h := (hxe.frozen (o := ((its.length + 1) * 2 + 1)) hglt).trans tfd
                          unfold World.frozen? at h ⊢
                          simp only [] at h ⊢
                          rw [hsame5]
                          exact h
                        have hg5 : Grew (W3.drew.alloc (.cells #[St q.2.1, U q.2.2] 97)) W5 (.slice Ad 0 cd) dv' := hgr5
                        have hi : ItemsAt (W3.drew.alloc (.cells #[St q.2.1, U q.2.2] 97)) W2.heap.size (.slice (some ⟨g, 0, none⟩) ((its.length + 1) + 1) cap) (its ++ [(t, ds)]) (q.1, []) := hId.out.ext hxe
                        have hI5 := zH (ItemsAt.dotN (n := its.length + 1) (its := (its ++ [(t, ds)])) (by simp) (d := q.2) hi (hxe.cell t1d) hg5 hown5)
                        have HX5 := zH (Ext.grewOwn (HXD.out.alloc _) hg5 (hvd.out.alloc _) (Nat.le_refl _))
                        obtain ⟨Ae, ce, rfl, hce1, hce2⟩ := hown5.form
                        clear hxe hsame5 hi hown5 hgr5 hg5)
         all_goals
           go_wp2
           go_roundw
           case rel => exact ⟨pre ++ [q], post, by rw [HL.out]; simp, by simp, zH (.inr ⟨(its ++ [(t, ds)]), (q.1, [] ++ [q.2]), (by rw [zgt, HG.out, zfz _ _ _ hne]; rfl), hI5.out⟩), HX5.out.set (by simpa using hgb) _⟩
           case measure => simp [intOf]; omega
   | nil =>
     rw [List.append_nil] at hl
     have hlen : qs.length = pre.length := by rw [hl]
     have HL := zH hl
     have HX := zH hx
     have hn3 := HW2.out.size
     have HROW := zH (show OwnL itemT 96 wr W2.heap.size (fun b => W2.heap.size <= b) u4 (zb3 ks) by
       rw [HI.out, HL.out]
       rcases hrow.out with ⟨rfl, rfl⟩ | ⟨its, last, hg, hI⟩
       · exact OwnL.nil _ _
       · rw [hg]; exact hI.done)
     clear hl hx hrow
     go_wp2_with fail
     go_ret
     exact ⟨_, rfl, (HROW.out.lower hn3).mono (fun b _ hb => Nat.le_trans hn3 hb), HW2.out.trans HX.out⟩
end
section
open Go.RowKit Go.Shelf
def KnowsAt (W:World) (base B:Nat) (rise:List Mark):Prop:=B < base/\∃ vr,W.cell? ⟨B,0,none⟩=some vr/\Sl markT W (fun b=>b < base) vr rise
theorem KnowsAt.keep {W W':World} {base B:Nat} {rise:List Mark} (h:KnowsAt W base B rise) (hb:Below base W W'):KnowsAt W' base B rise:=by
 obtain⟨h1,vr,h2,h3⟩:=h;exact⟨h1,vr,(Below.cell hb (p:=⟨B,0,none⟩) h1).trans h2,h3.keep (by decide) fun b hb' _=>hb.block b hb'⟩
theorem KnowsAt.mono {W:World} {base base' B:Nat} {rise:List Mark} (h:KnowsAt W base B rise) (hb:base<=base'):KnowsAt W base' B rise:=by
 obtain⟨h1,vr,h2,h3⟩:=h;exact⟨by omega,vr,h2,h3.mono (by decide) fun b _ h=>by omega⟩
theorem zvy {l:List Mark} {d:Dot} (h:d.1 ∉ l.map (·.1)):hasM l d=false:=by
 unfold hasM;rw [zew (s:=d.1) (fun m hm e=>h (List.mem_map.2 ⟨m,hm,e⟩))];cases hd:d.2 <;> simp
theorem zxy {l:List Mark} (hl:SortedM l) {m:Mark} {d:Dot} (hm:m ∈ l) (h:m.1=d.1):hasM [m] d=hasM l d:=by
 unfold hasM
 by_cases h0:d.1 = []
 ·rw [h0,zfr,zfr]
 ·have h1:ofM l d.1=m.2:=by rw [<- h];exact hl.of hm (by rw [h];exact h0)
  have h2:ofM [m] d.1=m.2:=by obtain⟨ms,mn⟩:=m;rw [zs5,if_pos ⟨h.symm,by rw [show ms=d.1 from h];exact h0⟩]
  rw [h1,h2]
theorem Sl.sub {w:World} {S:Nat->Prop} {A:Option Addr} {n c:Nat} {l:List Mark} (h:Sl markT w S (.slice A n c) l) {i:Nat} {m:Mark} (hm:l[i]? = some m) :
  ∃ b o,A=some ⟨b,o,none⟩/\Sl markT w S (.slice (some ⟨b,o+i * 2,none⟩) 1 (c - i)) [m]:=by
 have hlt:=(List.getElem?_eq_some_iff.1 hm).1
 have hs:l=l.take i++m :: l.drop (i+1):=by have e:=(List.getElem?_eq_some_iff.1 hm).2;rw [<- e,List.getElem_cons_drop,List.take_append_drop]
 obtain⟨A',c',e,h1,h2,-⟩:=id h;cases e;obtain⟨b,o,vs,c',hv,hS,hr,hc⟩:=h.at_ hs;cases hv;rw [show (l.take i).length=i by simp;omega,show (markT.k:Nat)=2 from rfl] at hc;refine ⟨b,o,rfl,_,_,rfl,by simp;omega,by omega,fun pre x post hl=>?_⟩
 cases pre with
 | nil=>simp at hl;obtain⟨rfl,-⟩:=hl;exact⟨b,o+i * 2,vs,rfl,hS,hr,fun j u hj=>by have:=hc j u hj;simpa using this⟩
 | cons a r=>simp at hl
theorem ztn {W:World} {base B:Nat} {rise:List Mark} (d:Dot) (hk:KnowsAt W base B rise) (hb:base<=W.heap.size) (hg:GoodM rise) (hl:rise.length<=1099511627776) :
  Calls Tryz.prog 230 #[dotV d,.pointer (some ⟨B,0,none⟩)] W fun e w'=>e=.returned (.bool (hasM rise d))/\Ext W w':=by
 have hx1:=(Ext.refl W).alloc (.cells #[St d.1,U d.2] 97);obtain⟨hB,vr,hc,hs⟩:=hk.keep (hx1.below hb);obtain⟨A,c,rfl,h1,h2⟩:=hs.form;have HS:=zH (zqe d.1 hs hg.1 hl);have HSL:=zH hs;have b0:(W.alloc (.cells #[St d.1,U d.2] 97)).cell? ⟨W.heap.size,0,none⟩=some (St d.1):=by simp [go_sem]
 have b1:(W.alloc (.cells #[St d.1,U d.2] 97)).cell? ⟨W.heap.size,1,none⟩=some (U d.2):=by simp [go_sem]
 have HG:=zH hg;clear hk hs hg;go_enter Tryz.func230,Tryz.ntmps230;go_wp2_with fail;generalize W.alloc (.cells #[St d.1,U d.2] 97)=W1 at *;refine HS.out.mono ?_;rintro e W2 ⟨i,is,rfl,hf,hx2⟩;have hc2:=hx2.cell hc;have d0:=hx2.cell b0;have d1:=hx2.cell b1
 cases is with
 | false=>have HN:=zH (zvy (d:=d) (hf.no (zow HG.out.1)));clear hf;go_wp2_with fail;go_quiet (fail);go_wp2;go_ret;exact⟨by rw [HN.out];rfl,(hx1.trans hx2).drewN _⟩
 | true =>
  have hy:=hf.yes;rw [List.getElem?_map] at hy;obtain⟨m,hm,hms⟩:=Option.map_eq_some_iff.1 hy;have hil:=(List.getElem?_eq_some_iff.1 hm).1;obtain⟨b,o,rfl,hsub⟩:=HSL.out.sub hm;have HH:=zH (fun (W:World) (hW:Ext W1 W)=>zn4 d (hsub.ext (by decide) hW));have HN:=zH (zxy HG.out.1 (d:=d) (List.mem_of_getElem? hm) hms);have i0:(0:Int)<=(i:Int):=by omega
  have i1:(i:Int)<=(i:Int)+1:=by omega
  have i2:(i:Int)+1<=(c:Int):=by omega
  have i3:IntKind.i64.wrap ((i:Int)+1)=(i:Int)+1:=IntWalk.i64_in _ (by omega);have i4:((i:Int)+1).toNat=i+1:=by omega
  have i5:i+1 - i=1:=by omega
  clear hf hy hm hsub;go_wp2_with fail;obtain⟨Wd,hWd⟩:∃ Wd,W2.drew=Wd:=⟨_,rfl⟩
  have hxd:Ext W2 Wd:=by rw [<- hWd];exact (Ext.refl W2).drew
  have e0:=hxd.cell hc2;have e1:=hxd.cell d0;have e2:=hxd.cell d1;have HE:=zH (hx2.trans hxd);refine wp_region_still_tail 8 (by kernel_rfl) (by kernel_rfl) ?_;simp only [List.take_succ_cons,List.take_zero,List.drop_succ_cons,List.drop_zero];change wpStill _ _ W2.drew (fun a'=>wpList _ _ _ _ a' W2.drew) _ _;rw [hWd];clear hWd hxd
  repeat still_step
  refine wpStill_nil ?_;go_wp2_with fail;refine (HH.out _ HE.out).mono ?_;rintro e w1 ⟨rfl,hb1⟩;go_wp2;go_ret;exact⟨by rw [<- HN.out];rfl,hx1.trans (HE.out.trans hb1)⟩
end
section
open Go.RowKit Go.Shelf
theorem zox {S:Nat->Prop} {v:Value} {l:List Mark} {w:World} (hv:Sl markT w S v l) (hl:l.length<=1099511627776) :
  Calls Tryz.prog 191 #[v] w fun e w'=>∃ B,e=.returned (.func (.func 230) #[] #[.pointer (some ⟨B,0,none⟩)])/\w.heap.size<=B/\KnowsAt w' w'.heap.size B (zat l [])/\Ext w w':=by
 have H:=zH (zhx hv (Sl.nil (T:=markT) (S:=fun _=>False) none 0 (by omega)) hl (by simp));clear hv;go_enter Tryz.func191,Tryz.ntmps191;go_wp2_with fail;refine H.out.mono ?_;rintro e w1 ⟨v1,rfl,hv1,hx1⟩;have hsl:=zH (zax hv1);have hff:=hv1.form;obtain⟨A,c,rfl,-,-⟩:=hff;clear hv1;go_wp2_with fail;go_ret;refine ⟨_,rfl,hx1.size,⟨by simp,_,by simp [go_sem];rfl,?_⟩,hx1.alloc _⟩;have hx2:=(Ext.refl w1).alloc (.cells #[.slice A (zat l []).length c] 26);have h3:Sl markT w1 (fun b=>b < w1.heap.size) (.slice A (zat l []).length c) (zat l []):=hsl.out.mono (by decide) fun b hb _=>hb
 exact (h3.ext (by decide) hx2).mono (by decide) fun b _ h=>Nat.lt_of_lt_of_le h hx2.size
def StaysAt (W:World) (base B1 B2 q B:Nat) (ks:List zam) (rise:List Mark):Prop :=
 B1 < base/\B2 < base/\q < base/\W.cell? ⟨B1,0,none⟩=some (.map (some q))/\W.cell? ⟨B2,0,none⟩=some (.func (.func 230) #[] #[.pointer (some ⟨B,0,none⟩)])/\SetOf zar W q ks/\KnowsAt W base B rise
theorem StaysAt.keep {W W':World} {base B1 B2 q B:Nat} {ks:List zam} {rise:List Mark} (h:StaysAt W base B1 B2 q B ks rise) (hb:Below base W W'):StaysAt W' base B1 B2 q B ks rise:=by
 obtain⟨h1,h2,h3,h4,h5,h6,h7⟩:=h;exact⟨h1,h2,h3,(Below.cell hb (p:=⟨B1,0,none⟩) h1).trans h4,(Below.cell hb (p:=⟨B2,0,none⟩) h2).trans h5,h6.keep (hb.block q h3),h7.keep hb⟩
def zg4 (ks:List zam) (rise:List Mark) (p:zam):Bool:=decide (p ∈ ks) || !hasM rise p.2
theorem zvz {W:World} {base B1 B2 q B:Nat} {ks:List zam} {rise:List Mark} (m:zam) (h:StaysAt W base B1 B2 q B ks rise) (hb:base<=W.heap.size) (hg:GoodM rise) (hl:rise.length<=1099511627776) :
  Calls Tryz.prog 189 #[zar m,.pointer (some ⟨B1,0,none⟩),.pointer (some ⟨B2,0,none⟩)] W fun e w'=>e=.returned (.bool (zg4 ks rise m))/\Ext W w':=by
 have eg:∀ args w,(callFunc 230 args).run Tryz.prog w=.ok (.enter 230 args) w:=enters_of Tryz.func230 (by kernel_rfl) rfl;have hx1:=(Ext.refl W).alloc (.cells #[St m.1,St m.2.1,U m.2.2] 234);have hx2:=hx1.alloc (.cells #[] 124);obtain⟨h1,h2,h3,h4,h5,h6,h7⟩:=h.keep (hx1.below hb);have hk2:=(h.keep (hx2.below hb)).2.2.2.2.2.2;have h52:=(h.keep (hx2.below hb)).2.2.2.2.1;have hlk:=zg9 (P:=Tryz.prog) Tryz.underlying229 zkn zmp h6 m;have HK:=zH (ztn m.2 hk2 (Nat.le_trans hb hx2.size) hg hl);have hn1:W.heap.size ≠ B1:=by omega
 have hn2:W.heap.size ≠ B2:=by omega
 clear h h6 h7 hk2
 by_cases hm:m ∈ ks
 ·have HP:=zH (show zg4 ks rise m=true by simp [zg4,hm]);simp only [hm,decide_true] at hlk;clear hm;go_enter Tryz.func189,Tryz.ntmps189;go_wp2_with fail;go_ret;exact⟨by rw [HP.out];rfl,hx2⟩
 ·have HP:=zH (show zg4 ks rise m = !hasM rise m.2 by simp [zg4,hm]);simp only [hm,decide_false] at hlk;clear hm;go_enter Tryz.func189,Tryz.ntmps189;go_wp2_with fail;refine HK.out.mono ?_;rintro e w2 ⟨rfl,hx3⟩;go_wp2_with fail;go_ret;exact⟨by rw [HP.out];rfl,hx2.trans hx3⟩
theorem znd {base B1 B2 q B:Nat} {ks:List zam} {rise:List Mark} (hg:GoodM rise) (hl:rise.length<=1099511627776) :
  PredK zar Tryz.prog 189 #[.pointer (some ⟨B1,0,none⟩),.pointer (some ⟨B2,0,none⟩)] base (fun W=>StaysAt W base B1 B2 q B ks rise/\base<=W.heap.size) (zg4 ks rise) where
 enters:=enters_of Tryz.func189 (by kernel_rfl) rfl
 keep W W' h hB:=⟨h.1.keep hB,Nat.le_trans h.2 hB.size⟩
 does m W h:=zvz m h.1 h.2 hg hl
theorem zto (q B:Nat) (w:World):Calls Tryz.prog 188 #[.map (some q),.func (.func 230) #[] #[.pointer (some ⟨B,0,none⟩)]] w fun e w' =>
  e=.returned (.func (.func 189) #[] #[.pointer (some ⟨w.heap.size,0,none⟩),.pointer (some ⟨w.heap.size+1,0,none⟩)])/\w'=(w.alloc (.cells #[.map (some q)] 229)).alloc (.cells #[.func (.func 230) #[] #[.pointer (some ⟨B,0,none⟩)]] 231):=by
 go_enter Tryz.func188,Tryz.ntmps188;go_wp2;go_ret;exact⟨rfl,rfl⟩
end
section
open Go.RowKit Go.Shelf
def zf6 (mine theirs:List Item) (v:List Mark):List zam:=(setL (zac mine)).filter (zg4 (setL (zac theirs)) (zat v []))
def zb9 (a:List Item) (sa:List Mark) (b:List Item) (sb:List Mark):List Item:=zb3 ((zf6 b a sa).foldl addK (zf6 a b sb))
theorem zl0 (a b:List Item) (v:List Mark):(zf6 a b v).Nodup:=(zf3 _).filter _
theorem zoy (a b:List Item) (v:List Mark):(zf6 a b v).length<=(zac a).length:=Nat.le_trans (List.length_filter_le _ _) (zjp _)
theorem ztp {A B A' B':List zam} (hA:A'.Perm A) (hB:B'.Perm B) (hn:A.Nodup):(B'.foldl addK A').Perm (B.foldl addK A) :=
 zd2 (zdk _ _ (hA.nodup_iff.2 hn)) (zdk _ _ hn) fun x=>by rw [zd5,zd5,hA.mem_iff,hB.mem_iff]
theorem zl1 {w w1:World} {q B:Nat} {ks:List zam} {rise:List Mark} (hs:SetOf zar w q ks) (hk:KnowsAt w w.heap.size B rise)
  (he:w1=(w.alloc (.cells #[.map (some q)] 229)).alloc (.cells #[.func (.func 230) #[] #[.pointer (some ⟨B,0,none⟩)]] 231)) :
  StaysAt w1 w1.heap.size w.heap.size (w.heap.size+1) q B ks rise:=by
 subst he;have hx:=((Ext.refl w).alloc (.cells #[.map (some q)] 229)).alloc (.cells #[.func (.func 230) #[] #[.pointer (some ⟨B,0,none⟩)]] 231);exact⟨(by simp;omega),(by simp),Nat.lt_of_lt_of_le hs.lt hx.size,by simp [go_sem],by simp [go_sem],hs.ext hx,(hk.keep hx).mono hx.size⟩
theorem zv0 {S1 S2 S3 S4:Nat->Prop} {va vsa vb vsb:Value} {a b:List Item} {sa sb:List Mark} {w:World} (ha:Sl itemT w S1 va a) (hsa:Sl markT w S2 vsa sa) (hb:Sl itemT w S3 vb b) (hsb:Sl markT w S4 vsb sb)
  (hl:(zac a).length+(zac b).length<=1099511627776) (hla:sa.length<=549755813888) (hlb:sb.length<=549755813888) :
  Calls Tryz.prog 107 #[va,vsa,vb,vsb] w fun e w'=>∃ v',e=.returned v'/\OwnL itemT 96 w' w.heap.size (fun b=>w.heap.size<=b) v' (zb9 a sa b sb)/\Ext w w':=by
 have e1:∀ args w,(callFunc 188 args).run Tryz.prog w=.ok (.enter 188 args) w:=enters_of Tryz.func188 (by kernel_rfl) rfl;have HA:=zH (zkp ha);have HB:=zH (fun (W:World) (h:Ext w W)=>zkp (hb.ext (by decide) h));have HSB:=zH (fun (W:World) (h:Ext w W)=>zox (hsb.ext (by decide) h) (by omega));have HSA:=zH (fun (W:World) (h:Ext w W)=>zox (hsa.ext (by decide) h) (by omega));have HT:=zH zto;have HJ:=zH (show zb9 a sa b sb=zb3 ((zf6 b a sa).foldl addK (zf6 a b sb)) from rfl);have gb:=zH (ze8 sb []);have ga:=zH (ze8 sa []);have hlj:∀ s:List Mark,(zat s []).length<=s.length:=fun s=>by rw [zn7];exact zd8 s
 have lb:=Nat.le_trans (hlj sb) hlb;have la:=Nat.le_trans (hlj sa) hla;obtain⟨Aa,ca,rfl,-,-⟩:=ha.form;obtain⟨Asa,csa,rfl,-,-⟩:=hsa.form;obtain⟨Ab,cb,rfl,-,-⟩:=hb.form;obtain⟨Asb,csb,rfl,-,-⟩:=hsb.form;clear ha hsa hb hsb hlj;go_enter Tryz.func107,Tryz.ntmps107;go_wp2_with fail;refine HA.out.mono ?_;rintro e W1 ⟨p,rfl,hp1,hp2,hx1⟩;go_wp2_with fail;refine (HB.out W1 hx1).mono ?_;rintro e W2 ⟨q,rfl,hq1,hq2,hx2⟩;have hx12:=hx1.trans hx2;have hpq:p ≠ q:=by have:=hp2.lt;omega
 go_wp2_with fail;refine (HSB.out W2 hx12).mono ?_;rintro e W3 ⟨B,rfl,hB1,hB2,hx3⟩;go_wp2_with fail;refine (HT.out q B W3).mono ?_;rintro e W4 ⟨rfl,hw4⟩;have hx34:Ext W3 W4:=by rw [hw4];exact ((Ext.refl W3).alloc _).alloc _
 have hst:=zl1 (hq2.ext hx3) hB2 hw4;have hx14:=(hx12.trans hx3).trans hx34;have H5:=zH (zjq (((hp2.ext hx2).ext hx3).ext hx34) (znd gb.out (by omega)) ⟨hst,Nat.le_refl _⟩ (Nat.le_refl _));have HQ4:=zH ((hq2.ext hx3).ext hx34);have HP4:=zH (((hp2.ext hx2).ext hx3).ext hx34);clear hw4 hst hq2 hp2 hB2;go_wp2_with fail;refine H5.out.mono ?_;rintro e W5 ⟨r,ks1,rfl,hr1,hpm1,hr2,hx5⟩;have hx15:=hx14.trans hx5;have HQ5:=zH (HQ4.out.ext hx5);have HP5:=zH (HP4.out.ext hx5);go_wp2_with fail;refine (HSA.out W5 hx15).mono ?_;rintro e W6 ⟨B',rfl,hB1',hB2',hx6⟩;go_wp2_with fail;refine (HT.out p B' W6).mono ?_;rintro e W7 ⟨rfl,hw7⟩;have hx67:Ext W6 W7:=by rw [hw7];exact ((Ext.refl W6).alloc _).alloc _
 have hst:=zl1 (HP5.out.ext hx6) hB2' hw7;have hx17:=(hx15.trans hx6).trans hx67;have hx57:=hx6.trans hx67;have H8:=zH (zjq (HQ5.out.ext hx57) (znd ga.out (by omega)) ⟨hst,Nat.le_refl _⟩ (Nat.le_refl _));have HR7:=zH (hr2.ext hx57);have HPM1:=zH hpm1;clear hw7 hst hB2' hr2 hpm1;go_wp2_with fail;refine H8.out.mono ?_;rintro e W8 ⟨r',ls1,rfl,hr1',hpm2,hr2',hx8⟩;have hs5:=hx14.size;have hs7:=hx17.size;have hs57:=hx57.size;have hrr:r ≠ r':=by have:=HR7.out.lt;omega
 have H9:=zH (zxw (base:=w.heap.size) (HR7.out.ext hx8) hr2' hrr (by omega) (hx17.trans hx8).size);have HPM2:=zH hpm2;clear hpm2 hr2';go_wp2_with fail;refine H9.out.mono ?_;rintro e W9 ⟨ls2,rfl,hpm3,hr9,hx9⟩;have hperm:(ls2.foldl addK ks1).Perm ((zf6 b a sa).foldl addK (zf6 a b sb)):=ztp HPM1.out (hpm3.trans HPM2.out) (zl0 a b sb);have h1:=zoy a b sb;have h2:=zoy b a sa;have h3:=zgo (zf6 b a sa) (zf6 a b sb);have hx19:=Below.trans (hx17.trans hx8) hx9;have H10:=zH (zik hr9 (by rw [hperm.length_eq];omega));have HI:=zH (zgs hperm);clear hr9 hpm3 hperm;go_wp2_with fail;refine H10.out.mono ?_;rintro e W10 ⟨v',rfl,hv,hx10⟩;rw [HI.out,<- HJ.out] at hv;have hs9:=hx19.size;have HV:=zH ((hv.lower hs9).mono (fun b _ hb=>Nat.le_trans hs9 hb));have hff:=hv.form;obtain⟨Az,cz,rfl,-,-⟩:=hff;clear hv;go_wp2_with fail;go_ret;exact⟨_,rfl,HV.out,Below.trans hx19 (hx10.below hs9)⟩
end
section
open Go.RowKit Go.Shelf
def zco (l:List Item) (s:Str):List zam:=(setL (zac l)).filter fun m=>m.1 != s
def zhf (l:List Item) (s:Str):List Item:=zb3 (zco l s)
theorem zl2 (l:List Item) (s:Str):(zco l s).length<=(zac l).length:=Nat.le_trans (List.length_filter_le _ _) (zjp _)
theorem zpt (l:List Item) (s:Str):(zco l s).Nodup:=(zf3 _).filter _
theorem zxz {S:Nat->Prop} {v:Value} {l:List Item} {w:World} (s:Str) (hv:Sl itemT w S v l) (hl:(zac l).length<=1099511627776) :
  Calls Tryz.prog 164 #[v,St s] w fun e w'=>∃ v',e=.returned v'/\OwnL itemT 96 w' w.heap.size (fun b=>w.heap.size<=b) v' (zhf l s)/\Ext w w':=by
 have hx0:=(Ext.refl w).alloc (.cells #[St s] 9);have hb0:(w.alloc (.cells #[St s] 9)).cell? ⟨w.heap.size,0,none⟩=some (St s):=by simp [go_sem]
 have H1:=zH (zkp (hv.ext (by decide) hx0));have HT:=zH (show zhf l s=zb3 (zco l s) from rfl);obtain⟨A,c,rfl,-,-⟩:=hv.form;clear hv;go_enter Tryz.func164,Tryz.ntmps164;go_wp2_with fail;refine H1.out.mono ?_;rintro e W1 ⟨p,rfl,hp1,hp2,hx1⟩;have hx01:=hx0.trans hx1;have hb1:=hx1.cell hb0;have hlt:=zaf hb1;have H2:=zH (zjq hp2 (ztj s w.heap.size W1.heap.size (by have:=hx01.size;omega)) hb1 (Nat.le_refl _));clear hp2;go_wp2_with fail;refine H2.out.mono ?_;rintro e W2 ⟨q,ks,rfl,hq1,hpm,hq2,hx2⟩;have hx02:=hx01.trans hx2;have hlen:=zl2 l s;have H3:=zH (zik hq2 (by have:=hpm.length_eq;unfold zco at hlen;omega));have HI:=zH (zgs hpm);clear hq2 hpm;go_wp2_with fail;refine H3.out.mono ?_;rintro e W3 ⟨v',rfl,hv,hx3⟩;rw [HI.out,<- zco,<- HT.out] at hv;have hs9:=hx02.size;have HV:=zH ((hv.lower hs9).mono (fun b _ hb=>Nat.le_trans hs9 hb));have hff:=hv.form;obtain⟨Az,cz,rfl,-,-⟩:=hff;clear hv;go_wp2_with fail;go_ret;exact⟨_,rfl,HV.out,hx02.trans hx3⟩
def zf7 (l:List Item):List Str:=(zb3 (setL (zac l))).map (·.1)
theorem ztq (ks:List zam):(zb3 ks).length<=ks.length:=by
 unfold zb3;refine Nat.le_trans (znc _) ?_;rw [(zb1 ks).length_eq];exact Nat.le_refl _
theorem zv1 {S:Nat->Prop} {v:Value} {l:List Item} {w:World} (hv:Sl itemT w S v l) (hl:(zac l).length<=1099511627776) :
  Calls Tryz.prog 149 #[v] w fun e w'=>∃ v',e=.returned v'/\Own w' w.heap.size 9 1 v' (zf7 l).length ((zf7 l).flatMap strC)/\Ext w w':=by
 have H1:=zH (zkp hv);obtain⟨A,c,rfl,-,-⟩:=hv.form;have HT:=zH (show zf7 l=(zb3 (setL (zac l))).map (·.1) from rfl);have hlen:=zjp (zac l);clear hv;go_enter Tryz.func149,Tryz.ntmps149;go_wp2_with fail;refine H1.out.mono ?_;rintro e W1 ⟨p,rfl,hp1,hp2,hx1⟩;have H2:=zH (zik hp2 (by omega));clear hp2;go_wp2_with fail;refine H2.out.mono ?_;rintro e W2 ⟨v2,rfl,hv2,hx2⟩;have hil:=ztq (setL (zac l));generalize zb3 (setL (zac l))=its at *;have hsl:=hv2.sl (S':=fun _=>True) (by decide) (fun _ _ _=>trivial) (fun _ _ _=>trivial);obtain⟨A2,c2,rfl,hc1,hc2⟩:=hsl.form;have HAT:=zH (fun (pre post:List Item) (m:Item) (wr:World) (h:Ext W2 wr) (hl:its=pre++m :: post)=>zcu hsl h hl);have HX2:=zH (hx1.trans hx2);clear hv2 hsl hx1 hx2;go_wp2_with fail
 go_loopw [3,10] (fun l i wr=>∃ pre post,its=pre++post/\i=I pre.length/\Own wr W2.heap.size 9 1 l pre.length ((pre.map (·.1)).flatMap strC)/\Ext W2 wr) (fun _ i _=>its.length - (intOf i).toNat)
 case atStart=>exact⟨[],its,rfl,rfl,Own.nil _ _ _ _ _,Ext.refl _⟩
 case round =>
  obtain⟨pre,post,hl,rfl,hown,hx⟩:=hrel
  cases post with
  | cons it post =>
   obtain⟨b,o,vd,rfl,hd0,hd1,hsl⟩:=HAT.out pre post it wr hx hl;have hlt:pre.length < its.length:=(by rw [hl];simp);have hff:=hsl.form;obtain⟨A3,c3,rfl,-,-⟩:=hff;have HL:=zH hl;have hn3:=hx.size;have HX:=zH hx;have HO:=zH hown;clear hl hx hsl
   go_wp2_with (at_builtin;refine zab rfl (.tmp 14) (.tmp 17) 28 rfl W2.heap.size 9 1 16 (St []) Tryz.underlying28 zcf rfl (by omega) _ pre.length ((pre.map (·.1)).flatMap strC) rfl ((hown.alloc _).alloc _) _ 1 1 [St it.1] rfl (Src.newAt (by simp) rfl (by intro u hu;simp at hu;subst hu;rfl)) (by omega) (by omega) (by simp;omega) ?_;intro v' w' hown2 hgr)
   go_roundw
   case rel=>exact⟨pre++[it],post,by rw [HL.out];simp,by simp,by simpa [strC] using hown2,Ext.grewOwn ((HX.out.alloc _).alloc _) hgr ((HO.out.alloc _).alloc _) (Nat.le_refl _)⟩
   case measure=>simp [intOf];omega
  | nil=>rw [List.append_nil] at hl;have HL:=zH hl;have hlen2:its.length=pre.length:=(by rw [hl]);have HX:=zH hx;have HO:=zH hown;have hn3:=HX2.out.size;have hff:=hown.form;obtain⟨A3,c3,rfl,-,-⟩:=hff;clear hl hx hown;go_wp2_with fail;go_ret;exact⟨_,rfl,by rw [HT.out,HL.out,List.length_map];exact HO.out.lower hn3,HX2.out.trans HX.out⟩
end
section
open Go.RowKit Go.Shelf
theorem zlh (w:World):(zeroValue 3).run Tryz.prog w=.ok (I 0) w:=Tryz.zeroValue3 w
def zf8 (ks:List zam):List Str:=setL (ks.map (·.1))
theorem zr0 {a b:List zam} (h:a.Perm b):(zf8 a).length=(zf8 b).length :=
 (zd2 (zf3 _) (zf3 _) fun x=>by rw [zgp,zgp];exact (h.map _).mem_iff).length_eq
theorem zpu {κ ν:Type} {K:κ->Value} {V:ν->Value} {w:World} {b:Nat} {L:List (κ × ν)} {P:Program} {t kt et:TypeId} (ht:P.underlying t=some (.map kt et)) (h:MapIs K V w b L) (ty:TypeId) :
  (Builtin.len_ #[t] ty #[.map (some b)]).run P w=.ok (.int .i64 (L.length:Int)) w:=by
 obtain⟨es,c,h1,h2,-⟩:=h
 have hlen:es.size=L.length:=by
  have:=congrArg List.length h2
  simpa using this
 simp [Builtin.len_,run_underlying ht,MapKept.run_getObj_map h1,hlen,goInt]
def putB (l:List Item) (s:Str) (d:Dot):List Item × Nat :=
 if 4096 < s.length then ([],4) else if 256<=(zf8 (zco l s)).length then ([],6) else (zb3 (addK (zco l s) (s,d)),0)
theorem zx0 {S:Nat->Prop} {v:Value} {l:List Item} {w:World} (s:Str) (d:Dot) (hv:Sl itemT w S v l) (hl:(zac l).length < 1099511627776) :
  Calls Tryz.prog 162 #[v,St s,dotV d] w fun e w'=>∃ v',e=.returned (.tuple #[v',I (putB l s d).2])/\OwnL itemT 96 w' w.heap.size (fun b=>w.heap.size<=b) v' (putB l s d).1/\Ext w w':=by
 have hx0:=((Ext.refl w).alloc (.cells #[St s] 9)).alloc (.cells #[St d.1,U d.2] 97)
 by_cases hlong:4096 < s.length
 ·have HP:=zH (show putB l s d=([],4) by simp [putB,hlong]);have hs:(s.length:Int) > 4096:=by omega
  obtain⟨A,c,rfl,-,-⟩:=hv.form;clear hv;go_enter Tryz.func162,Tryz.ntmps162;go_wp2_with fail
  go_ret2
  exact⟨_,by rw [HP.out];rfl,by rw [HP.out];exact OwnL.nil _ _,hx0⟩
 ·have hs:¬ (s.length:Int) > 4096:=by omega
  have HP:=zH (show putB l s d=if 256<=(zf8 (zco l s)).length then ([],6) else (zb3 (addK (zco l s) (s,d)),0) by simp [putB,hlong]);have hb0:((w.alloc (.cells #[St s] 9)).alloc (.cells #[St d.1,U d.2] 97)).cell? ⟨w.heap.size,0,none⟩=some (St s):=by simp [go_sem]
  have hb1:((w.alloc (.cells #[St s] 9)).alloc (.cells #[St d.1,U d.2] 97)).cell? ⟨w.heap.size+1,0,none⟩=some (St d.1):=by simp [go_sem]
  have hb2:((w.alloc (.cells #[St s] 9)).alloc (.cells #[St d.1,U d.2] 97)).cell? ⟨w.heap.size+1,1,none⟩=some (U d.2):=by simp [go_sem]
  have H1:=zH (zkp (hv.ext (by decide) hx0));have hmm:=@run_makeMap Tryz.prog;have hz0:((w.alloc (.cells #[St s] 9)).alloc (.cells #[St d.1,U d.2] 97)).heap.size=w.heap.size+1+1:=by simp
  have HZ0:=zH hz0;have hlen:=zl2 l s;have hnd:=zpt l s;obtain⟨A,c,rfl,-,-⟩:=hv.form;clear hv hz0;go_enter Tryz.func162,Tryz.ntmps162;go_wp2_with fail;generalize (w.alloc (.cells #[St s] 9)).alloc (.cells #[St d.1,U d.2] 97)=W0 at *;refine H1.out.mono ?_;rintro e W1 ⟨p,rfl,hp1,hp2,hx1⟩;have hx01:=hx0.trans hx1;have hc0:=hx1.cell hb0;have hlt:=zaf hc0;have H2:=zH (zjq hp2 (zvs s w.heap.size W1.heap.size (by omega)) hc0 (Nat.le_refl _));clear hp2;go_wp2_with fail;refine H2.out.mono ?_;rintro e W2 ⟨q,ks,rfl,hq1,hpm,hq2,hx2⟩;rw [<- zco] at hpm;have hx02:=hx01.trans hx2;have d0:=(hx1.trans hx2).cell hb0;have d1:=(hx1.trans hx2).cell hb1;have d2:=(hx1.trans hx2).cell hb2;have hxm:=(Ext.refl W2).alloc (.map #[] 0);obtain⟨W3,hr,hR,hx3,hsz⟩:=zc4 (P:=Tryz.prog) Tryz.underlying229 (hq2.ext hxm);have HR:=zH hR;have HN:=zH (MapIs.new (κ:=Str) (ν:=Int) (K:=St) (V:=I) W2 |>.ext hx3);have HQ:=zH ((hq2.ext hxm).ext hx3);have HND:=zH hq2.nodup;have hqw:=hq2.lt;rw [World.size_alloc] at hr hsz;have hx23:=hxm.trans hx3;have hx03:=hx02.trans hx23;have f0:=hx23.cell d0;have f1:=hx23.cell d1;have f2:=hx23.cell d2;have hb0l:=zaf d0;have hb1l:=zaf d1;have HPM:=zH hpm;have HX03:=zH hx03;have hqb:w.heap.size<=q:=Nat.le_trans hx01.size hq1;have hs2:=hx02.size;have hklen:ks.length=(zco l s).length:=hpm.length_eq;have hklen2:ks.length < 1099511627776:=by omega
  clear hR hq2 hpm hxm hx3 hx23 hx03 hx0 hx1 hx2 hklen d0 d1 d2 hb0 hb1 hb2;go_wp2_with fail
  go_loopw [21] (fun u wr=>∃ done rest L,(done++rest.map Prod.fst).Perm ks/\RangeIs zar zes wr q (W2.heap.size+1) (ks.map fun k=>(k,())) rest/\Hid (MapIs St I wr W2.heap.size L/\L.map Prod.fst=zf8 done) /\
   (wr.cell? ⟨w.heap.size,0,none⟩=some (St s)/\wr.cell? ⟨w.heap.size+1,0,none⟩=some (St d.1)/\wr.cell? ⟨w.heap.size+1,1,none⟩=some (U d.2))/\SetOf zar wr q ks/\Ext w wr) (fun _ wr=>wr.rangeLeft q (W2.heap.size+1))
  case atStart=>exact⟨[],_,[],by rw [zex];exact .refl _,by have:=HR.out;rwa [World.size_alloc] at this,zH ⟨HN.out,rfl⟩,⟨f0,f1,f2⟩,HQ.out,HX03.out⟩
  case round =>
   obtain⟨done,rest,L,hperm,hR,hML,⟨g0,g1,g2⟩,hS,hx⟩:=hrel;rcases zdj (P:=Tryz.prog) 0 hR with ⟨rfl,hrun⟩ | ⟨r1,k,r2,wn,rfl,hrun,hR2,ht,hent⟩
   ·have hnx:∀ ty,(Instr.next (.pointer (some ⟨W2.heap.size+1,0,none⟩)) false ty).run Tryz.prog wr=.ok (.tuple #[.bool false]) wr:=fun ty=>hrun
    have hd:done.Perm ks:=(by simpa using hperm);have hdo:=hd.trans HPM.out;obtain⟨hMap,hkeys⟩:=hML.out;have hln:=zpu (P:=Tryz.prog) Tryz.underlying112 hMap 3
    have hN:L.length=(zf8 (zco l s)).length:=by have h2:=congrArg List.length hkeys;simp at h2;rw [h2];exact zr0 hdo
    rw [hN] at hln;obtain⟨N,hNN⟩:∃ N,(zf8 (zco l s)).length=N:=⟨_,rfl⟩
    rw [hNN] at HP hln;have HX:=zH hx;clear hML hR hperm hrun hkeys hNN hx hMap hN
    by_cases h256:256<=N
    ·have HP2:=zH (show putB l s d=([],6) by rw [HP.out,if_pos h256]);have hz:(N:Int) ≥ 256:=(by omega);clear hd hdo hS;go_wp2_with fail
     go_ret2
     exact⟨_,by rw [HP2.out];rfl,by rw [HP2.out];exact OwnL.nil _ _,HX.out⟩
    ·have HP2:=zH (show putB l s d=(zb3 (addK (zco l s) (s,d)),0) by rw [HP.out,if_neg h256]);have hz:¬ (N:Int) ≥ 256:=(by omega);obtain⟨w4,hup,hs4,ht4⟩:=zdr (P:=Tryz.prog) Tryz.underlying229 zkn hS (s,d);have hx4:=HX.out.turned ht4 hqb;have hpm4:(addK ks (s,d)).Perm (addK (zco l s) (s,d)):=zd2 (zjo HND.out _) (zjo hnd _) fun x=>by rw [zmq,zmq,HPM.out.mem_iff]
     have h5:=zqh ks (s,d);have H5:=zH (zik hs4 (by omega));have HI:=zH (zgs hpm4);have HX4:=zH hx4;clear hd hdo hS hs4 ht4 hx4 hpm4 hnd;go_wp2_with fail;refine H5.out.mono ?_;rintro e w5 ⟨v',rfl,hv,hx5⟩;rw [HI.out] at hv;have hs9:=HX4.out.size;have HV:=zH ((hv.lower hs9).mono (fun b _ hb=>Nat.le_trans hs9 hb));have hff:=hv.form;obtain⟨Az,cz,rfl,-,-⟩:=hff;clear hv;go_wp2_with fail
     go_ret2
     exact⟨_,by rw [HP2.out];rfl,by rw [HP2.out];exact HV.out,HX4.out.trans hx5⟩
   ·have hnx:∀ ty,(Instr.next (.pointer (some ⟨W2.heap.size+1,0,none⟩)) false ty).run Tryz.prog wr=.ok (.tuple #[.bool true,zar k.1,zes k.2]) wn:=fun ty=>hrun
    have hxn:=hx.turned ht (by omega);have hx1:=(Ext.refl wn).alloc (.cells #[St k.1.1,St k.1.2.1,U k.1.2.2] 234);have hMn:MapIs St I (wn.alloc (.cells #[St k.1.1,St k.1.2.1,U k.1.2.2] 234)) W2.heap.size L:=(hML.out.1.keep (ht.other _ (by omega))).ext hx1;have hlk:=(zbc (P:=Tryz.prog) (z:=0) Tryz.underlying112 zd6 zlh hMn k.1.1).1;obtain⟨z,hz⟩:∃ z,getL 0 L k.1.1=z:=⟨_,rfl⟩
    rw [hz] at hlk;obtain⟨w3,hup,hm3,ht3⟩:=zas (P:=Tryz.prog) Tryz.underlying112 zd6 hMn k.1.1 (wrap64 (z+1));have g0n:=ht3.cell (hx1.cell (ht.cell g0 (by omega))) (by omega);have g1n:=ht3.cell (hx1.cell (ht.cell g1 (by omega))) (by omega);have g2n:=ht3.cell (hx1.cell (ht.cell g2 (by omega))) (by omega);have HR2:=zH ((hR2.ext hx1).keep (ht3.other q (by omega)) (ht3.other _ (by omega)));have HS2:=zH (((hS.keep (ht.other q (by omega))).ext hx1).keep (ht3.other q (by omega)));have HX2:=zH ((hxn.trans hx1).turned ht3 (by omega));have HM3:=zH hm3
    have HKEY:=zH (show (putL L k.1.1 (wrap64 (z+1))).map Prod.fst=zf8 (done++[k.1]) by
     rw [zij,hML.out.2];unfold zf8;rw [List.map_append,List.map_singleton,zko]
     rfl)
    have HML:=zH hR.left_eq;have HPM3:=zH hperm;clear hperm hR hrun hR2 hx ht hxn hS hx1 hm3 ht3 hMn hz hML;go_wp2_with fail;go_roundw
    case rel=>exact⟨done++[k.1],r1++r2,_,by have h1:=HPM3.out;simp only [List.map_append,List.map_cons] at h1 ⊢;rw [List.append_assoc];exact ((List.perm_middle (l₁:=r1.map Prod.fst) (a:=k.1) (l₂:=r2.map Prod.fst)).symm.append_left done).trans h1,HR2.out,zH ⟨HM3.out,HKEY.out⟩,⟨g0n,g1n,g2n⟩,HS2.out,HX2.out⟩
    case measure=>rw [HML.out,HR2.out.left_eq];simp
end
section
open Go.RowKit Go.Shelf
def zhg (prev:Option Dot) (all:List Dot) (d:Dot):Bool :=
 !d.1.isEmpty && decide (1<=d.2) && decide (d.2<=281474976710656) && (match prev with | none=>true | some q=>decide (cmpD q d < 0)) && !decide (d ∈ all)
def zfs:Option Dot->List Dot->List Dot->Option (List Dot)
 | _,all,[]=>some all
 | prev,all,d :: r=>if zhg prev all d then zfs (some d) (all++[d]) r else none
def zjb (prev:Option Str) (it:Item):Bool:=(match prev with | none=>true | some s=>ltS s it.1) && decide (it.1.length<=4096) && !it.2.isEmpty
def zeb:Option Str->List Dot->List Item->Bool
 | _,_,[]=>true
 | prev,all,it :: r=>if zjb prev it then (match zfs none all it.2 with | none=>false | some a=>zeb (some it.1) a r) else false
def mayB (l:List Item):Bool:=zeb none [] l
theorem zhh {α:Type} {l:List α} (h:0 < l.length):∃ pre q,l=pre++[q]/\l.getLast? = some q/\pre.length=l.length - 1:=by
 rcases List.eq_nil_or_concat l with rfl | ⟨pre,q,rfl⟩
 ·simp at h
 ·exact⟨pre,q,by simp,by simp,by simp⟩
theorem zf9 {n:Nat} (h:0 < n) (h2:n<=9223372036854775807):IntKind.i64.wrap ((n:Int) - 1)=((n - 1:Nat):Int):=by
 rw [show (n:Int) - 1=((n - 1:Nat):Int) by omega];exact IntWalk.i64_in _ (by omega)
theorem zx1 {S:Nat->Prop} {v:Value} {l:List Item} {w:World} (hv:Sl itemT w S v l) (hl40:l.length<=1099511627776) :
  Calls Tryz.prog 122 #[v] w fun e w'=>e=.returned (.bool (mayB l))/\Ext w w':=by
 have hv':=hv;obtain⟨A,c,rfl,hc1,hc2⟩:=hv.form;have HAT:=zH (fun (pre post:List Item) (m:Item) (wr:World) (h:Ext w wr) (hl:l=pre++m :: post)=>zcu hv' h hl);have HCMP:=zH zlw;have hmm:=@run_makeMap Tryz.prog;clear hv hv';go_enter Tryz.func122,Tryz.ntmps122;go_wp2_with fail
 go_loopw [13] (fun i wr=>∃ pre post all,l=pre++post/\i=I pre.length/\Hid (mayB l=zeb (pre.getLast?.map (·.1)) all post)/\SetOf dotV wr w.heap.size all/\Ext w wr) (fun i _=>l.length - (intOf i).toNat)
 case atStart=>exact⟨[],l,[],rfl,rfl,zH rfl,SetOf.new w,(Ext.refl w).alloc _⟩
 case round =>
  obtain⟨pre,post,all,hl,rfl,hm,hS,hx⟩:=hrel
  cases post with
  | cons it post =>
   obtain⟨b,o,vd,rfl,hd0,hd1,hsl⟩:=HAT.out pre post it wr hx hl;have hlt:pre.length < l.length:=(by rw [hl];simp);have hsl':=hsl;have hff:=hsl.form;obtain⟨A2,c2,rfl,hc3,hc4⟩:=hff;have hx1:=(Ext.refl wr).alloc (.cells #[St it.1,.slice A2 it.2.length c2] 96);have t0:(wr.alloc (.cells #[St it.1,.slice A2 it.2.length c2] 96)).cell? ⟨wr.heap.size,0,none⟩=some (St it.1):=(by simp [go_sem]);have t1:(wr.alloc (.cells #[St it.1,.slice A2 it.2.length c2] 96)).cell? ⟨wr.heap.size,1,none⟩=some (.slice A2 it.2.length c2):=(by simp [go_sem]);have hws:=hS.lt;have HIN:=zH (fun (p2 q2:List Dot) (x:Dot) (wr':World) (h:Ext w wr') (hl:it.2=p2++x :: q2)=>zdv hsl' h hl);have HM:=zH (show mayB l=if zjb (pre.getLast?.map (·.1)) it then (match zfs none all it.2 with | none=>false | some a=>zeb (some it.1) a post) else false by rw [hm.out];rfl);have HL:=zH hl;have HS:=zH (hS.ext hx1);have HX:=zH (hx.trans hx1)
   have hprev:(pre.length=0/\pre.getLast?.map (·.1)=none) ∨ (0 < pre.length/\∃ q:Item,pre.getLast?.map (·.1)=some q.1/\(wr.alloc (.cells #[St it.1,.slice A2 it.2.length c2] 96)).cell? ⟨b,o+(pre.length - 1) * 2,none⟩=some (St q.1)):=by
    rcases Nat.eq_zero_or_pos pre.length with h0 | h0
    ·exact .inl ⟨h0,by rw [List.eq_nil_of_length_eq_zero h0];rfl⟩
    ·obtain⟨p',q,e1,e2,e3⟩:=zhh h0;obtain⟨b',o',v',e,q0,-,-⟩:=HAT.out p' (it :: post) q wr hx (by rw [hl,e1];simp);cases e;rw [e3] at q0;exact .inr ⟨h0,q,by rw [e2];rfl,hx1.cell q0⟩
   clear hl hS hsl hsl' hx hx1 hm
   by_cases hok:zjb (pre.getLast?.map (·.1)) it=true
   ·have HM2:=zH (show mayB l=(match zfs none all it.2 with | none=>false | some a=>zeb (some it.1) a post) by rw [HM.out,if_pos hok]);unfold zjb at hok;simp only [Bool.and_eq_true,decide_eq_true_eq,Bool.not_eq_true'] at hok;obtain⟨⟨hok1,hok2⟩,hok3⟩:=hok
    have hne:0 < it.2.length:=by
     cases h2:it.2 with
     | nil=>rw [h2] at hok3;cases hok3
     | cons a r=>simp
    have k1d:decide ((4096:Int) < (List.length it.1:Int))=false:=decide_eq_false (by omega);have k2:((it.2.length:Int) == 0)=false:=(by rw [beq_eq_false_iff_ne];omega);have k2d:decide (it.2.length=0)=false:=decide_eq_false (by omega);clear HM hok2 hok3;rcases hprev with ⟨h0,hp⟩ | ⟨h0,q,hp,q0⟩
    case' inl=>have k0:¬ (pre.length:Int) > 0:=(by omega);have k0n:¬ 0 < pre.length:=(by omega);clear hp h0 hok1;go_wp2_with fail;generalize wr.alloc (.cells #[St it.1,.slice A2 it.2.length c2] 96)=W1 at *;go_quiet (fail);clear k0 k0n k1d k2 k2d;go_wp2_with fail
    case' inr=>rw [hp] at hok1;have k0:(pre.length:Int) > 0:=(by omega);have k4:=zf9 h0 (by omega);have k5:((pre.length - 1:Nat):Int) < (l.length:Int):=(by omega);have k6:(0:Int)<=((pre.length - 1:Nat):Int):=(by omega);have k7:(((pre.length - 1:Nat):Int)).toNat=pre.length - 1:=(by omega);clear hp;go_wp2_with fail;generalize wr.alloc (.cells #[St it.1,.slice A2 it.2.length c2] 96)=W1 at *;go_quiet (fail);clear k0 k4 k5 k6 k7 q0 hok1 k1d k2 k2d;go_wp2_with fail
    all_goals
     have hxn:Ext W1 (W1.drewN nq):=(Ext.refl W1).drewN nq;obtain⟨wo,rfl⟩:∃ wo:World,wo=wr:=⟨_,rfl⟩
     go_loopw [46] (fun j wr2=>∃ p2 q2 all2,it.2=p2++q2/\j=I p2.length/\Hid (mayB l=(match zfs p2.getLast? all2 q2 with | none=>false | some a=>zeb (some it.1) a post))/\SetOf dotV wr2 w.heap.size all2 /\
      (wr2.cell? ⟨wo.heap.size,0,none⟩=some (St it.1)/\wr2.cell? ⟨wo.heap.size,1,none⟩=some (.slice A2 it.2.length c2))/\Ext w wr2) (fun j _=>it.2.length - (intOf j).toNat)
     case atStart=>exact⟨[],it.2,all,rfl,rfl,HM2,HS.out.ext hxn,⟨hxn.cell t0,hxn.cell t1⟩,HX.out.trans hxn⟩
     case round =>
      obtain⟨p2,q2,all2,hl2,rfl,hm2,hS2,⟨s0,s1⟩,hx2⟩:=hrel;clear t0 t1
      cases q2 with
      | cons x q2 =>
       obtain⟨b2,o2,rfl,e0,e1⟩:=HIN.out p2 q2 x wr hx2 hl2;have hlt2:p2.length < it.2.length:=(by rw [hl2];simp);have hxa:=(Ext.refl wr).alloc (.cells #[St x.1,U x.2] 97);have u0:(wr.alloc (.cells #[St x.1,U x.2] 97)).cell? ⟨wr.heap.size,0,none⟩=some (St x.1):=(by simp [go_sem]);have u1:(wr.alloc (.cells #[St x.1,U x.2] 97)).cell? ⟨wr.heap.size,1,none⟩=some (U x.2):=(by simp [go_sem]);have r0:=hxa.cell s0;have r1:=hxa.cell s1;have HS2:=zH (hS2.ext hxa);have HX2:=zH (hx2.trans hxa);have HL2:=zH hl2;have HMM:=zH (show mayB l=(match (if zhg p2.getLast? all2 x then zfs (some x) (all2++[x]) q2 else none) with | none=>false | some a=>zeb (some it.1) a post) by rw [hm2.out];rfl)
       have hpd:(p2.length=0/\p2.getLast? = none) ∨ (0 < p2.length/\∃ q:Dot,p2.getLast? = some q/\(wr.alloc (.cells #[St x.1,U x.2] 97)).cell? ⟨b2,o2+(p2.length - 1) * 2,none⟩=some (St q.1)/\(wr.alloc (.cells #[St x.1,U x.2] 97)).cell? ⟨b2,o2+(p2.length - 1) * 2+1,none⟩=some (U q.2)):=by
        rcases Nat.eq_zero_or_pos p2.length with h0 | h0
        ·exact .inl ⟨h0,by rw [List.eq_nil_of_length_eq_zero h0];rfl⟩
        ·obtain⟨p',q,e1,e2,e3⟩:=zhh h0;obtain⟨b',o',e,q0,q1⟩:=HIN.out p' (x :: q2) q wr hx2 (by rw [hl2,e1];simp);cases e;rw [e3] at q0 q1;exact .inr ⟨h0,q,e2,hxa.cell q0,hxa.cell q1⟩
       clear hl2 hS2 hx2 hm2 s0 s1 hxa
       by_cases hd:!x.1.isEmpty && decide (1<=x.2) && decide (x.2<=281474976710656)
       ·obtain⟨xs,xn⟩:=x
        cases xs with
        | nil=>simp at hd
        | cons a r =>
         simp only [Bool.and_eq_true,decide_eq_true_eq] at hd;obtain⟨⟨-,h1⟩,h2⟩:=hd;have kA:decide ((xn:Int) < 1)=false:=decide_eq_false (by omega);have kB:decide ((281474976710656:Int) < (xn:Int))=false:=decide_eq_false (by omega);have kC:¬ (xn:Int) < 1:=(by omega);have kD:¬ (xn:Int) > 281474976710656:=(by omega);have hwb:=wr;rcases hpd with ⟨h0,hp⟩ | ⟨h0,q,hp,q0,q1⟩
         case' inl=>have HOK:=zH (show zhg p2.getLast? all2 (a :: r,xn) = !decide ((a :: r,xn) ∈ all2) by rw [hp];simp [zhg];omega);have k0:¬ (p2.length:Int) > 0:=(by omega);have k0n:¬ 0 < p2.length:=(by omega);clear hp h0;go_wp2_with fail;generalize wr.alloc (.cells #[St (a :: r),U xn] 97)=W2 at *;go_quiet (fail);have hx3:Ext W2 (W2.drewN nq):=(Ext.refl W2).drewN nq;generalize W2.drewN nq=W3 at *
         case' inr =>
          have k0:(p2.length:Int) > 0:=(by omega);have k4:=zf9 h0 (by omega);have k5:((p2.length - 1:Nat):Int) < (it.2.length:Int):=(by omega);have k6:(0:Int)<=((p2.length - 1:Nat):Int):=(by omega);have k7:(((p2.length - 1:Nat):Int)).toNat=p2.length - 1:=(by omega);go_wp2_with fail;generalize wr.alloc (.cells #[St (a :: r),U xn] 97)=W2 at *;obtain⟨Wd,hWd⟩:∃ Wd,W2.drew=Wd:=⟨_,rfl⟩
          have hxd:Ext W2 Wd:=(by rw [<- hWd];exact (Ext.refl W2).drew);have u0d:=hxd.cell u0;have u1d:=hxd.cell u1;have r1d:=hxd.cell r1;have q0d:=hxd.cell q0;have q1d:=hxd.cell q1;refine wp_region_still_tail 24 (by kernel_rfl) (by kernel_rfl) ?_;simp only [List.take_succ_cons,List.take_zero,List.drop_succ_cons,List.drop_zero];change wpStill _ _ W2.drew (fun a'=>wpList _ _ _ _ a' W2.drew) _ _;rw [hWd]
          repeat still_step
          refine wpStill_nil ?_;go_wp2_with fail;refine (HCMP.out q (a :: r,xn) Wd).mono ?_;rintro e W3 ⟨rfl,nq2,os,hgrow⟩;have hx3:Ext W2 W3:=hxd.trans (by rw [hgrow];exact zxq _ _ _);clear hgrow hWd hxd u0d u1d r1d q0d q1d q0 q1 k0 k4 k5 k6 k7;obtain⟨z,hz⟩:∃ z,cmpD q (a :: r,xn)=z:=⟨_,rfl⟩
          rw [hz]
          by_cases hzn:z < 0
          case neg =>
           have HF:=zH (show mayB l=false by
            rw [HMM.out];have:zhg p2.getLast? all2 (a :: r,xn)=false:=by rw [hp];simp [zhg];intro _ _ hlt;rw [hz] at hlt;exact absurd hlt hzn
            rw [this];rfl)
           have kz:z ≥ 0:=(by omega);clear hp hz h0;go_wp2_with fail;go_ret;exact⟨by rw [HF.out];rfl,HX2.out.trans hx3⟩
          case' pos=>have HOK:=zH (show zhg p2.getLast? all2 (a :: r,xn) = !decide ((a :: r,xn) ∈ all2) by rw [hp];simp [zhg,hz,hzn];omega);have kz:¬ z ≥ 0:=(by omega);clear hp hz h0
         all_goals
          have v0:=hx3.cell u0;have v1:=hx3.cell u1;have w0:=hx3.cell r0;have w1:=hx3.cell r1;have hS3:=HS2.out.ext hx3;have hlk:=zg9 (P:=Tryz.prog) Tryz.underlying251 zvp zmp hS3 (a :: r,xn);have hx4:=(Ext.refl W3).alloc (.cells #[] 124)
          by_cases hmem:(a :: r,xn) ∈ all2
          ·have HF:=zH (show mayB l=false by rw [HMM.out,HOK.out];simp [hmem]);simp only [hmem,decide_true] at hlk;clear hmem hS3;go_wp2_with fail;go_ret;exact⟨by rw [HF.out];rfl,(HX2.out.trans hx3).alloc _⟩
          ·have HF:=zH (show mayB l=(match zfs (p2++[(a :: r,xn)]).getLast? (addK all2 (a :: r,xn)) q2 with | none=>false | some a=>zeb (some it.1) a post) by
            rw [HMM.out,HOK.out];have:addK all2 (a :: r,xn)=all2++[(a :: r,xn)]:=by unfold addK;rw [if_neg hmem]
            rw [this];simp [hmem])
           simp only [hmem,decide_false] at hlk;obtain⟨w5,hup,hs5,ht5⟩:=zdr (P:=Tryz.prog) Tryz.underlying251 zvp (hS3.ext hx4) (a :: r,xn);have hwa:=hS3.lt;have HS5:=zH hs5;have v0a:=hx4.cell v0;have v1a:=hx4.cell v1;have y0:=ht5.cell (hx4.cell w0) (by omega);have y1:=ht5.cell (hx4.cell w1) (by omega);have HX5:=zH (((HX2.out.trans hx3).trans hx4).turned ht5 (Nat.le_refl _));clear hmem hS3 hs5 ht5 hx3 hx4;go_wp2_with fail;go_roundw
           case rel=>exact⟨p2++[(a :: r,xn)],q2,_,by rw [HL2.out];simp,by simp,HF,HS5.out,⟨y0,y1⟩,HX5.out⟩
           case measure=>simp [intOf];omega
       ·have HF:=zH (show mayB l=false by rw [HMM.out];simp only [zhg,Bool.eq_false_iff.2 hd];rfl);clear HMM hpd HIN HS2;obtain⟨xs,xn⟩:=x
        cases xs with
        | nil=>go_wp2_with fail;generalize wr.alloc (.cells #[St [],U xn] 97)=W2 at *;go_quiet (fail);go_wp2_with fail;go_ret;exact⟨by rw [HF.out];rfl,HX2.out.drewN _⟩
        | cons a r =>
         by_cases h1:1<=xn
         ·have h2:281474976710656 < xn:=by
           simp at hd;omega
          have kA:decide ((xn:Int) < 1)=false:=decide_eq_false (by omega);have kB:decide ((281474976710656:Int) < (xn:Int))=true:=decide_eq_true (by omega);clear hd;go_wp2_with fail;generalize wr.alloc (.cells #[St (a :: r),U xn] 97)=W2 at *;go_quiet (fail);go_wp2_with fail;go_ret;exact⟨by rw [HF.out];rfl,HX2.out.drewN _⟩
         ·obtain rfl:xn=0:=by omega
          clear hd h1;go_wp2_with fail;generalize wr.alloc (.cells #[St (a :: r),U 0] 97)=W2 at *;go_quiet (fail);go_wp2_with fail;go_ret;exact⟨by rw [HF.out];rfl,HX2.out.drewN _⟩
      | nil =>
       rw [List.append_nil] at hl2;have hlen2:it.2.length=p2.length:=(by rw [hl2]);have HF:=zH (show mayB l=zeb ((pre++[it]).getLast?.map (·.1)) all2 post by rw [hm2.out];simp [zfs]);have HS2:=zH hS2;have HX2:=zH hx2;clear hl2 hm2 hS2 hx2 s0 s1;go_wp2_with fail;go_roundw
       case rel=>exact⟨pre++[it],post,all2,by rw [HL.out];simp,by simp,HF,HS2.out,HX2.out⟩
       case measure=>simp [intOf];omega
   ·have HF:=zH (show mayB l=false by rw [HM.out,if_neg hok]);rcases hprev with ⟨h0,hp⟩ | ⟨h0,q,hp,q0⟩
    ·rw [hp] at hok;have k0:¬ (pre.length:Int) > 0:=(by omega);have k0n:¬ 0 < pre.length:=by omega
     by_cases hL:4096 < it.1.length
     ·have k1:(it.1.length:Int) > 4096:=(by omega);clear hp hok h0;go_wp2_with fail;generalize wr.alloc (.cells #[St it.1,.slice A2 it.2.length c2] 96)=W1 at *;go_quiet (fail);go_wp2_with fail;go_ret;exact⟨by rw [HF.out];rfl,HX.out.drewN _⟩
     ·have k1:¬ (it.1.length:Int) > 4096:=by omega
      have hE:it.2.length=0:=by
       unfold zjb at hok
       cases h2:it.2 with
       | nil=>rfl
       | cons a r=>exact absurd (by simp [h2];omega) hok
      clear hp hok HIN HM HS h0;obtain⟨ts,ds⟩:=it;obtain rfl:ds = []:=List.eq_nil_of_length_eq_zero hE;clear hE;simp only [List.length_nil] at t0 t1 hd1 hc3 HX ⊢;have k1e:¬ (ts.length:Int) > 4096:=k1;have k1d:decide ((4096:Int) < (List.length ts:Int))=false:=decide_eq_false (by omega);clear k1;go_wp2_with fail;generalize wr.alloc (.cells #[St ts,.slice A2 0 c2] 96)=W1 at *;go_quiet (fail);go_wp2_with fail;go_ret;exact⟨by rw [HF.out];rfl,HX.out.drewN _⟩
    ·rw [hp] at hok;have k0:(pre.length:Int) > 0:=(by omega);have k4:=zf9 h0 (by omega);have k5:((pre.length - 1:Nat):Int) < (l.length:Int):=(by omega);have k6:(0:Int)<=((pre.length - 1:Nat):Int):=(by omega);have k7:(((pre.length - 1:Nat):Int)).toNat=pre.length - 1:=(by omega);cases hq:ltS q.1 it.1
     ·clear hp hok;go_wp2_with fail;generalize wr.alloc (.cells #[St it.1,.slice A2 it.2.length c2] 96)=W1 at *;go_quiet (fail);go_wp2_with fail;go_ret;exact⟨by rw [HF.out];rfl,HX.out.drewN _⟩
     ·by_cases hL:4096 < it.1.length
      ·have k1:(it.1.length:Int) > 4096:=(by omega);clear hp hok;go_wp2_with fail;generalize wr.alloc (.cells #[St it.1,.slice A2 it.2.length c2] 96)=W1 at *;go_quiet (fail);go_wp2_with fail;go_ret;exact⟨by rw [HF.out];rfl,HX.out.drewN _⟩
      ·have k1:¬ (it.1.length:Int) > 4096:=by omega
       have hE:it.2.length=0:=by
        unfold zjb at hok
        cases h2:it.2 with
        | nil=>rfl
        | cons a r=>exact absurd (by simp [h2,hq];omega) hok
       clear hp hok HIN HM HS;obtain⟨ts,ds⟩:=it;obtain rfl:ds = []:=List.eq_nil_of_length_eq_zero hE;clear hE;simp only [List.length_nil] at t0 t1 hd1 hc3 HX ⊢;have k1e:¬ (ts.length:Int) > 4096:=k1;have k1d:decide ((4096:Int) < (List.length ts:Int))=false:=decide_eq_false (by omega);clear k1;go_wp2_with fail;generalize wr.alloc (.cells #[St ts,.slice A2 0 c2] 96)=W1 at *;go_quiet (fail);go_wp2_with fail;go_ret;exact⟨by rw [HF.out];rfl,HX.out.drewN _⟩
  | nil=>rw [List.append_nil] at hl;have hlen:l.length=pre.length:=(by rw [hl]);have HF:=zH (show mayB l=true by rw [hm.out];rfl);have HX:=zH hx;clear hl hm hS hx;go_wp2_with fail;go_ret;exact⟨by rw [HF.out];rfl,HX.out⟩
end
section
open Go.Sort
theorem ze3 {α:Type} {P:List α->Prop} (h0:P []) (h1:∀ l a,P l->P (l++[a])) (l:List α):P l:=by
 have h:∀ r:List α,P r.reverse:=by
  intro r
  induction r with
  | nil=>exact h0
  | cons a r ih=>rw [List.reverse_cons];exact h1 _ _ ih
 have:=h l.reverse
 rwa [List.reverse_reverse] at this
theorem zmz (l:List Item) (p:zam):zac (zbz l p)=zac l++[p]:=by
 rcases List.eq_nil_or_concat l with rfl | ⟨pre,it,rfl⟩
 ·simp [zbz,zac]
 ·by_cases h:it.1=p.1
  ·obtain⟨t,ds⟩:=it;obtain⟨s,d⟩:=p;simp only at h;subst h;rw [List.concat_eq_append,zgm];simp [zac]
  ·rw [List.concat_eq_append,zfz _ _ _ (by simpa using h)];simp [zac]
theorem zha (ps:List zam):zac (zdu ps)=ps:=by
 induction ps using ze3 with
 | h0=>rfl
 | h1 ps p ih=>rw [zgt,zmz,ih]
theorem zk5 {l:List Item} {it:Item} {d:Dot} (h:it ∈ l) (hd:d ∈ it.2):(it.1,d) ∈ zac l:=List.mem_flatMap.2 ⟨it,h,List.mem_map.2 ⟨d,hd,rfl⟩⟩
theorem zmg (ps:List zam):ps.Pairwise (fun a b=>ltOf cmpP a b=true)->((zdu ps).Pairwise fun a b=>ltS a.1 b.1=true)/\∀ it ∈ zdu ps,it.2 ≠ []/\it.2.Pairwise fun a b=>ltOf cmpD a b=true:=by
 induction ps using ze3 with
 | h0=>intro _;exact⟨.nil,fun it h=>by cases h⟩
 | h1 ps p ih =>
  intro hp;obtain⟨hp1,-,hp2⟩:=List.pairwise_append.1 hp;have hlt:∀ q ∈ ps,ltOf cmpP q p=true:=fun q hq=>hp2 q hq p (by simp)
  obtain⟨h1,h2⟩:=ih hp1;have hpl:=zha ps;rw [zgt];generalize zdu ps=l at *;rcases List.eq_nil_or_concat l with rfl | ⟨pre,it,rfl⟩
  ·rw [zpr];exact⟨by simp,fun it h=>by simp at h;subst h;simp⟩
  ·rw [List.concat_eq_append] at *
   by_cases h:it.1=p.1
   ·obtain⟨t,ds⟩:=it;obtain⟨s,d⟩:=p;simp only at h;subst h;rw [zgm];obtain⟨k1,-,k2⟩:=List.pairwise_append.1 h1;refine ⟨List.pairwise_append.2 ⟨k1,by simp,fun a ha b hb=>?_⟩,fun x hx=>?_⟩
    ·simp only [List.mem_singleton] at hb;subst hb;exact k2 a ha (t,ds) (by simp)
    ·rcases List.mem_append.1 hx with hx | hx
     ·exact h2 x (List.mem_append_left _ hx)
     ·simp only [List.mem_singleton] at hx;subst hx;refine ⟨by simp,List.pairwise_append.2 ⟨(h2 (t,ds) (by simp)).2,by simp,fun a ha b hb=>?_⟩⟩;simp only [List.mem_singleton] at hb;subst hb;have hm:=hlt (t,a) (by rw [<- hpl];exact zk5 (it:=(t,ds)) (by simp) ha);rcases cmpP_lt.1 hm with hm | hm
      ·rw [zal] at hm;cases hm
      ·exact hm.2
   ·rw [zfz _ _ _ (by simpa using h)]
    have hlast:ltS it.1 p.1=true:=by
     obtain⟨h3,-⟩:=h2 it (by simp)
     cases hds:it.2 with
     | nil=>exact absurd hds h3
     | cons a r =>
      have hm:=hlt (it.1,a) (by rw [<- hpl];exact zk5 (by simp) (by rw [hds];simp));rcases cmpP_lt.1 hm with hm | hm
      ·exact hm
      ·exact absurd hm.1 h
    refine ⟨List.pairwise_append.2 ⟨h1,by simp,fun a ha b hb=>?_⟩,fun x hx=>?_⟩
    ·simp only [List.mem_singleton] at hb;subst hb;rcases List.mem_append.1 ha with ha | ha
     ·exact zap ((List.pairwise_append.1 h1).2.2 a ha it (by simp)) hlast
     ·simp only [List.mem_singleton] at ha;subst ha;exact hlast
    ·rcases List.mem_append.1 hx with hx | hx
     ·exact h2 x hx
     ·simp only [List.mem_singleton] at hx;subst hx;simp
theorem zsl {ps:List zam} (hn:ps.Nodup):(zcq (ltOf cmpP) ps).Pairwise fun a b=>ltOf cmpP a b=true:=by
 have h1:=zcy zgl ps;have h2:(zcq (ltOf cmpP) ps).Nodup:=(zb1 ps).nodup_iff.2 hn
 exact (h1.and h2).imp fun {a b} h=>by
  rcases zmn a b with k | k | k
  ·exact k
  ·exact absurd k h.2
  ·rw [h.1] at k;cases k
end
end Go.Proofs.YtdikcgmdmcfpfaaGreat
