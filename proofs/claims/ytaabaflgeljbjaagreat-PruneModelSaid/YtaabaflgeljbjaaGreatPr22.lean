/- Laws. -/
import Derived.Test.YtaabaflgeljbjaaGreatPr18
import Derived.Test.YtaabaflgeljbjaaGreatPr19
import Derived.Test.YtaabaflgeljbjaaGreatPr20
import Derived.Test.YtaabaflgeljbjaaGreatPr21
import Derived.Test.YtaabaflgeljbjaaGreatPr15
import Derived.Test.YtaabaflgeljbjaaGreatPr12
set_option linter.unusedVariables false
set_option linter.unusedSimpArgs false
set_option maxRecDepth 100000
set_option maxHeartbeats 40000000
namespace Go.Proofs.YtaabaflgeljbjaaGreat
open Go.Value renaming slice→Xa,pointer→Xb,bool→Xc
open Go.Obj renaming cells→Xd
open Go.Ending renaming returned→Xe
open Go renaming World→Xf,Value→Xg
open Ext renaming refl→Xh
open List renaming pairwise_append→Qc,eq_nil_of_length_eq_zero→Qd,pairwise_cons→Qe,mem_singleton→Qf,mem_append→Qh,append_nil→Qj,length_nil→Qk,getElem?_eq_some_iff→Ql,append_assoc→Qm,eq_nil_or_concat→Qn,concat_eq_append→Qo,length→Qp,mem_cons→Qq,nodup_append→Qr,mem_map→Qs,length_filter_le→Qt,mem_append_left→Qu,length_append→Qx,length_cons→Ya,map_append→Yc
open Nat renaming le_trans→Qa,le_refl→Qb,lt_of_lt_of_le→Qi,zero_add→Qw,eq_zero_or_pos→Qy,le_succ_of_le→Qz
open Go.World renaming cell?_of_block→Qg,frozen?→Qv,size_alloc→Yb
section
open Go.RowKit Go.Shelf Go.Sort
theorem zss {k base:Nat}{v:Xg}{l:List zan}{w:Xf}(a:Own w base k 3 v l.length (l.flatMap zcm)){pre post:List zan}{m:zan}(d:l=pre++m::post) :
  ∃g c,v=Xa (some ⟨g,0,none⟩) l.length c/\∀w',Ext w w'->w'.cell? ⟨g,pre.length * 3,none⟩=some (St m.1)/\w'.cell? ⟨g,pre.length * 3+1,none⟩=some (St m.2.1)/\w'.cell? ⟨g,pre.length * 3+2,none⟩=some (U m.2.2):=by
 obtain⟨g,f,n,rfl,-,-,-⟩:=a.pos (by rw[d];simp;omega);have i:=zg6 pre
 have e:∀j,(zcm m)[j]? = (l.flatMap zcm)[pre.length * 3+j]? ∨ 3<=j:=fun j=>by
  rcases Nat.lt_or_ge j 3 with hj|hj
  ·left
   rw[d,List.flatMap_append,List.flatMap_cons,<- i,List.getElem?_append_right (by omega),Nat.add_sub_cancel_left,List.getElem?_append_left (by simp[zcm];omega)]
  exact .inr hj
 refine⟨g,f,rfl,fun w' b=>?_⟩;have h0:=(e 0).resolve_right (by omega);have h1:=(e 1).resolve_right (by omega);have h:=(e 2).resolve_right (by omega);exact⟨b.cell (a.cell rfl h0.symm),b.cell (a.cell rfl h1.symm),b.cell (a.cell rfl h.symm)⟩
theorem zn0:∀ps:List zan,(zep ps).length<=ps.length:=by
 have:∀(ps:List zan) (l:List Item),(ps.foldl zb5 l).length<=l.length+ps.length:=by
  intro ps
  induction ps with
  | nil=>simp
  | cons p r b =>
   intro l;rw[List.foldl_cons];refine Qa (b _) ?_
   have:(zb5 l p).length<=l.length+1:=by
    unfold zb5
    split
    ·simp
    rename_i it a
    split
    ·have:l≠[]:=by rintro rfl;simp at a
     have:=List.length_pos_iff.2 this;simp;(try omega)
    simp
   simp;omega
 intro ps
 simpa[zep]using this ps []
theorem zoy {l:List Item}{p:zan}{n:Nat}(c:∀it∈l,it.2.length<=n):∀it∈zb5 l p,it.2.length<=n+1:=by
 intro it b;unfold zb5 at b
 split at b
 ·simp at b;subst b;simp
 rename_i a ha;have d:a∈l:=List.mem_of_getLast? ha
 split at b
 ·rcases Qh.1 b with b|b
  ·exact Qz (c it (List.dropLast_subset _ b))
  simp at b;subst b;simp;exact c a d
 rcases Qh.1 b with b|b
 ·exact Qz (c it b)
 simp at b;subst b;simp
theorem zst (ps:List zan):∀it∈zep ps,it.2.length<=ps.length:=by
 have:∀(ps:List zan) (l:List Item) (n:Nat),(∀it∈l,it.2.length<=n)->∀it∈ps.foldl zb5 l,it.2.length<=n+ps.length:=by
  intro ps
  induction ps with
  | nil=>intro l n b it a;exact b it a
  | cons p r c=>intro l n b it a;have:=c (zb5 l p) (n+1) (zoy b) it a;simp only[Ya];omega
 intro it a;have:=this ps [] 0 (by simp) it a;omega
def yb6 (W:Xf)(base:Nat)(v:Xg)(ps:List zan):Prop :=
 (ps = []/\v=Xa none 0 0) ∨ ∃its last,zep ps=its++[last]/\ItemsAt W base v its last
set_option maxRecDepth 100000 in
set_option maxHeartbeats 1000000 in
theorem zh8 {p : Nat}{M : List zan}{w : Xf}(ba : SetOf zar w p M)(bw : M.length <= 1099511627776) :
   Calls Tryz.prog 145 #[.map (some p)] w fun e w' => ∃v', e = Xe v' /\ OwnL itemT 57 w' w.heap.size (fun b => w.heap.size <= b) v' (za7 M) /\ Ext w w' := by
 have bp := zH (zwy p w)
 have ay := (Xh w).alloc (Xd #[.map (some p)] 217)
 have bs := zH (zsr (B := w.heap.size) (by simp[go_sem]) (ba.ext ay) bw)
 clear ba
 go_enter Tryz.func145, Tryz.ntmps145
 go_wp2_with fail
 refine bp.out.mono ?_
 rintro e cq⟨rfl, rfl⟩
 go_wp2_with fail
 refine bs.out.mono ?_
 rintro e C⟨cp, rfl, au, bf⟩
 have b3 : (zco (ltOf cmpP) M).length = M.length := (zbq _).length_eq
 have bo := zH (show za7 M = zep (zco (ltOf cmpP) M)from rfl)
 generalize zco (ltOf cmpP) M = V at *
 have ce : V.length <= 1099511627776 := by omega
 clear b3
 have a1 := zH (ay.trans bf)
 have b1 := au.form
 obtain⟨A, c, rfl, ca, cb⟩ := b1
 have bk := zH (fun(pre post : List zan) (m : zan) (L : V = pre ++ m::post) => zss au L)
 clear au bf ay
 go_wp2_with fail
 go_loopw [4, 13] (fun l i wr => ∃pre post, V = pre ++ post /\ i = I pre.length /\ Hid (yb6 wr C.heap.size l pre) /\ Ext C wr) (fun _ i _ => V.length-(intOf i).toNat)
 case atStart => exact⟨[], V, rfl, rfl, zH (.inl ⟨rfl, rfl⟩), Xh _⟩
 obtain⟨pre, post, L, rfl, ah, Y⟩ := hrel
 cases post
 case cons q post=>
   obtain⟨gk, bu, e, a9⟩ := bk.out pre post q L
   obtain⟨rfl, rfl⟩ : A = some ⟨gk, 0, none⟩ /\ c = bu := by injection e with e1 a4 e3; exact⟨e1, e3⟩
   obtain⟨bx, bz, b0⟩ := a9 wr Y
   have b4 : pre.length<V.length := by rw[L]; simp
   have Z := zH L
   have be := (Xh wr).alloc (Xd #[St q.1, St q.2.1, U q.2.2] 220)
   have b8 : (wr.alloc (Xd #[St q.1, St q.2.1, U q.2.2] 220)).cell? ⟨wr.heap.size, 0, none⟩ = some (St q.1) := by simp[go_sem]
   have am : (wr.alloc (Xd #[St q.1, St q.2.1, U q.2.2] 220)).cell? ⟨wr.heap.size, 1, none⟩ = some (St q.2.1) := by simp[go_sem]
   have an : (wr.alloc (Xd #[St q.1, St q.2.1, U q.2.2] 220)).cell? ⟨wr.heap.size, 2, none⟩ = some (U q.2.2) := by simp[go_sem]
   have aa := zH (Y.trans be)
   have av := Y.size
   have ch : wr.heap.size + 1 <= (wr.alloc (Xd #[St q.1, St q.2.1, U q.2.2] 220)).heap.size := by simp
   have ci : (wr.alloc (Xd #[St q.1, St q.2.1, U q.2.2] 220)).heap.size <= wr.heap.size + 1 := by simp
   clear L Y e a9
   rcases ah.out with⟨rfl, rfl⟩|⟨its, ⟨t, k⟩, ao, j⟩
   · clear ah
     simp only[Qk, Nat.zero_mul, Qw]at bx bz b0 b4 ⊢
     go_wp2_with fail
     generalize wr.alloc (Xd #[St q.1, St q.2.1, U q.2.2] 220) = v at *
     go_quiet (fail)
     go_wp2_with (at_builtin; refine zal rfl (.tmp 32) (.tmp 36) 42 rfl C.heap.size 57 2 40 (.agg #[St [], Xa none 0 0]) Tryz.underlying42 zlh rfl (by omega) _ 0 [] rfl (Own.nil _ _ _ _ _) _ 1 1 _ rfl (Src.new rfl (by intro u z; simp at z; rcases z with rfl|rfl<;>rfl)) (by omega) (by omega) (by first|omega|(simp; omega)) ?_; intro v' f aw X
                  have j := ItemsAt.first q.1 (by simpa using aw)
                  have ai : Ext v f := Ext.grew ((((Xh v).drewN _).alloc _)) X (fun b ⟨g, n, c, e, _, _⟩ => by cases e)
                  have c1 := ai.cell am
                  have c2 := ai.cell an
                  obtain⟨g, ac, a3, rfl, ag, ar, W, aj, r, N, y, Q⟩ := j.tells
                  obtain⟨s, x, rfl, a5, a6⟩ := y.form
                  simp only[Qk, Nat.zero_mul, Qw]at ag aj r N ⊢)
     have O := zH (aa.out.trans ai)
     have K := (Xh f).drew.cell r
     have ak := ((Xh f).drew.frozen (o := 1) (zae r)).trans N
     have af := zH (j.ext (Xh f).drew)
     have P := zH (O.out.drew)
     have R := zae K
     have bc := P.out.size
     have bd := O.out.size
     have bh := ((Xh f).alloc (Xd #[St q.2.1, U q.2.2] 59)).cell r
     have S := zH (y.ext (Xh f).drew)
     clear j y
     go_region_law (refine zg7 rfl (.tmp 47) (.tmp 50) 55 rfl C.heap.size 59 2 24 (.agg #[St [], U 0]) Tryz.underlying55 zkj rfl (by omega) (Xa s 0 x) 0 (([] : List Dot).flatMap zaj) (by simp[Act.eval, Act.put]) (S.out.alloc _) (some ⟨f.heap.size, 0, none⟩) 1 1 [St q.2.1, U q.2.2] (by simp[Act.eval, Act.put]) (Src.new rfl (by intro u z; simp at z; rcases z with rfl|rfl<;>rfl)) (by omega) (by omega) (by first|omega|(simp; omega)) ?_; intro ad D H G
                    have h := (Xh f.drew).alloc (Xd #[St q.2.1, U q.2.2] 59)
                    have J := G.same g (Qi R h.size) (fun hb => Q _ hb rfl)
                    have bi : D.cell? ⟨g, 1, none⟩ = some (Xa s 0 x) := (Qg (a := ⟨g, 1, none⟩) J).trans (h.cell K)
                    have bj : D.frozen? ⟨g, 1, none⟩ = false := by
                      have E := (h.frozen (o := 1) R).trans ak
                      unfold Qv at E ⊢
                      simp only[]at E ⊢
                      rw[J]
                      exact E
                    have F : Grew (f.drew.alloc (Xd #[St q.2.1, U q.2.2] 59)) D (Xa s 0 x) ad := G
                    have hi : ItemsAt (f.drew.alloc (Xd #[St q.2.1, U q.2.2] 59)) C.heap.size (Xa (some ⟨g, 0, none⟩) (0 + 1) ac) [] (q.1, []) := af.out.ext h
                    have ae := zH (ItemsAt.dotN (n := 0) (its := []) rfl (d := q.2) hi (h.cell K) F H)
                    have ab := zH (Ext.grewOwn (P.out.alloc _) F (S.out.alloc _) (Qb _))
                    obtain⟨az, a2, rfl, a7, a8⟩ := H.form
                    clear h J hi H G F)
     all_goals
       go_wp2
       go_roundw
       case rel => exact⟨[] ++ [q], post, by rw[Z.out]; simp, by simp, zH (.inr ⟨[], (q.1, [] ++ [q.2]), rfl, ae.out⟩), ab.out.set (by simpa using W) _⟩
       case measure => simp[intOf]; omega
   have al := zH ao
   clear ah ao
   have aq := j.ext be
   obtain⟨g, ac, a3, rfl, ag, ar, W, aj, r, N, y, Q⟩ := aq.tells
   obtain⟨s, x, rfl, a5, a6⟩ := y.form
   have a0 := zH aq
   have bn := zH y
   have bm := zH Q
   have b2 := zn0 pre
   rw[al.out, Qx, List.length_singleton]at b2
   have cc : k.length <= pre.length := zst pre (t, k) (by rw[al.out]; simp)
   have cd : g<wr.heap.size := by
     obtain⟨b9, _, _, e, _, _, _, b7, -⟩ := j.tells
     cases e
     exact zae b7
   have cj : (((its.length : Int) + 1)==0) = false := by rw[beq_eq_false_iff_ne]; omega
   have ck : IntKind.i64.wrap ((its.length : Int) + 1-1) = its.length := by rw[show(its.length : Int) + 1-1 = its.length by omega]; simp[IntKind.wrap, IntKind.signed, IntKind.bits]; omega
   have cl : IntKind.i64.wrap (its.length : Int) = its.length := by simp[IntKind.wrap, IntKind.signed, IntKind.bits]; omega
   have cm : ((its.length : Int)).toNat = its.length := by omega
   have cn : (0 : Int) <= (its.length : Int) := by omega
   have co : (its.length : Int)<(its.length : Int) + 1 := by omega
   clear j aq y Q
   by_cases ax : t = q.1
   · subst ax
     go_wp2_with fail
     generalize wr.alloc (Xd #[St q.1, St q.2.1, U q.2.2] 220) = v at *
     go_quiet (fail)
     go_wp2_with fail
     have T : Ext v (v.drewN nq) := (Xh v).drewN nq
     generalize v.drewN nq = f at *
     have j := a0.out.ext T
     have y := bn.out.ext T
     have Q := bm.out
     have O := zH (aa.out.trans T)
     have c1 := T.cell am
     have c2 := T.cell an
     have r := (show f.cell? ⟨g, its.length * 2 + 1, none⟩ = some (Xa s k.length x)from T.cell ‹v.cell? ⟨g, its.length * 2 + 1, none⟩ = some (Xa s k.length x)›)
     have N := (T.frozen (o := its.length * 2 + 1) (zae ‹v.cell? ⟨g, its.length * 2 + 1, none⟩ = some (Xa s k.length x)›)).trans ‹v.frozen? ⟨g, its.length * 2 + 1, none⟩ = false›
     have K := (Xh f).drew.cell r
     have ak := ((Xh f).drew.frozen (o := (its.length * 2 + 1)) (zae r)).trans N
     have af := zH (j.ext (Xh f).drew)
     have P := zH (O.out.drew)
     have R := zae K
     have bc := P.out.size
     have bd := O.out.size
     have bh := ((Xh f).alloc (Xd #[St q.2.1, U q.2.2] 59)).cell r
     have S := zH (y.ext (Xh f).drew)
     clear j y
     go_region_law (refine zg7 rfl (.tmp 47) (.tmp 50) 55 rfl C.heap.size 59 2 24 (.agg #[St [], U 0]) Tryz.underlying55 zkj rfl (by omega) (Xa s k.length x) k.length (k.flatMap zaj) (by simp[Act.eval, Act.put]) (S.out.alloc _) (some ⟨f.heap.size, 0, none⟩) 1 1 [St q.2.1, U q.2.2] (by simp[Act.eval, Act.put]) (Src.new rfl (by intro u z; simp at z; rcases z with rfl|rfl<;>rfl)) (by omega) (by omega) (by first|omega|(simp; omega)) ?_; intro ad D H G
                    have h := (Xh f.drew).alloc (Xd #[St q.2.1, U q.2.2] 59)
                    have J := G.same g (Qi R h.size) (fun hb => Q _ hb rfl)
                    have bi : D.cell? ⟨g, (its.length * 2 + 1), none⟩ = some (Xa s k.length x) := (Qg (a := ⟨g, (its.length * 2 + 1), none⟩) J).trans (h.cell K)
                    have bj : D.frozen? ⟨g, (its.length * 2 + 1), none⟩ = false := by
                      have E := (h.frozen (o := (its.length * 2 + 1)) R).trans ak
                      unfold Qv at E ⊢
                      simp only[]at E ⊢
                      rw[J]
                      exact E
                    have F : Grew (f.drew.alloc (Xd #[St q.2.1, U q.2.2] 59)) D (Xa s k.length x) ad := G
                    have hi : ItemsAt (f.drew.alloc (Xd #[St q.2.1, U q.2.2] 59)) C.heap.size (Xa (some ⟨g, 0, none⟩) (its.length + 1) ac) its (q.1, k) := af.out.ext h
                    have ae := zH (ItemsAt.dotN (n := its.length) (its := its) rfl (d := q.2) hi (h.cell K) F H)
                    have ab := zH (Ext.grewOwn (P.out.alloc _) F (S.out.alloc _) (Qb _))
                    obtain⟨az, a2, rfl, a7, a8⟩ := H.form
                    clear h J hi H G F)
     all_goals
       go_wp2
       go_roundw
       case rel => exact⟨pre ++ [q], post, by rw[Z.out]; simp, by simp, zH (.inr ⟨its, (q.1, k ++ [q.2]), (by rw[zhv, al.out]; exact zhn _ _ _ _), ae.out⟩), ab.out.set (by simpa using W) _⟩
       case measure => simp[intOf]; omega
   have b5 : (t==q.1) = false := by simpa using ax
   have cg : (q.1==t) = false := by simpa using(fun e => ax e.symm)
   go_wp2_with fail
   generalize wr.alloc (Xd #[St q.1, St q.2.1, U q.2.2] 220) = v at *
   go_quiet (fail)
   obtain⟨xs, bg, bb⟩ := (a0.out.ext (((Xh v).drewN nq).alloc (Xd #[St q.1, Xa none 0 0] 57))).row
   have bq := zH bb
   clear bb
   go_wp2_with (at_builtin; refine zal rfl (.tmp 32) (.tmp 36) 42 rfl C.heap.size 57 2 40 (.agg #[St [], Xa none 0 0]) Tryz.underlying42 zlh rfl (by omega) _ (its.length + 1) xs rfl bg _ 1 1 _ rfl (Src.new rfl (by intro u z; simp at z; rcases z with rfl|rfl<;>rfl)) (by omega) (by omega) (by first|omega|(simp; omega)) ?_; intro v' f aw X
                have j := bq.out f v' q.1 aw X
                have ai : Ext C f := Ext.grewOwn ((aa.out.trans ((Xh v).drewN nq)).alloc (Xd #[St q.1, Xa none 0 0] 57)) X bg (Qb _)
                have ap := ((Xh v).drewN nq).alloc (Xd #[St q.1, Xa none 0 0] 57)
                have c1 : f.cell? ⟨wr.heap.size, 1, none⟩ = some (St q.2.1) := (Qg (a := ⟨wr.heap.size, 1, none⟩) (X.same wr.heap.size (zae (ap.cell am)) (fun⟨bv, b6, bt, e, _, a4⟩ => by cases e; omega))).trans (ap.cell am)
                have c2 : f.cell? ⟨wr.heap.size, 2, none⟩ = some (U q.2.2) := (Qg (a := ⟨wr.heap.size, 2, none⟩) (X.same wr.heap.size (zae (ap.cell an)) (fun⟨bv, b6, bt, e, _, a4⟩ => by cases e; omega))).trans (ap.cell an)
                have O := zH ai
                clear ag ar W aj r N
                obtain⟨g, ac, a3, rfl, ag, ar, W, aj, r, N, y, Q⟩ := j.tells
                obtain⟨s, x, rfl, a5, a6⟩ := y.form
                simp only[Qx, Ya, Qk, Qw]at ag aj r N j ⊢)
   have K := (Xh f).drew.cell r
   have ak := ((Xh f).drew.frozen (o := ((its.length + 1) * 2 + 1)) (zae r)).trans N
   have af := zH (j.ext (Xh f).drew)
   have P := zH (O.out.drew)
   have R := zae K
   have bc := P.out.size
   have bd := O.out.size
   have bh := ((Xh f).alloc (Xd #[St q.2.1, U q.2.2] 59)).cell r
   have S := zH (y.ext (Xh f).drew)
   clear j y
   go_region_law (refine zg7 rfl (.tmp 47) (.tmp 50) 55 rfl C.heap.size 59 2 24 (.agg #[St [], U 0]) Tryz.underlying55 zkj rfl (by omega) (Xa s 0 x) 0 (([] : List Dot).flatMap zaj) (by simp[Act.eval, Act.put]) (S.out.alloc _) (some ⟨f.heap.size, 0, none⟩) 1 1 [St q.2.1, U q.2.2] (by simp[Act.eval, Act.put]) (Src.new rfl (by intro u z; simp at z; rcases z with rfl|rfl<;>rfl)) (by omega) (by omega) (by first|omega|(simp; omega)) ?_; intro ad D H G
                  have h := (Xh f.drew).alloc (Xd #[St q.2.1, U q.2.2] 59)
                  have J := G.same g (Qi R h.size) (fun hb => Q _ hb rfl)
                  have bi : D.cell? ⟨g, ((its.length + 1) * 2 + 1), none⟩ = some (Xa s 0 x) := (Qg (a := ⟨g, ((its.length + 1) * 2 + 1), none⟩) J).trans (h.cell K)
                  have bj : D.frozen? ⟨g, ((its.length + 1) * 2 + 1), none⟩ = false := by
                    have E := (h.frozen (o := ((its.length + 1) * 2 + 1)) R).trans ak
                    unfold Qv at E ⊢
                    simp only[]at E ⊢
                    rw[J]
                    exact E
                  have F : Grew (f.drew.alloc (Xd #[St q.2.1, U q.2.2] 59)) D (Xa s 0 x) ad := G
                  have hi : ItemsAt (f.drew.alloc (Xd #[St q.2.1, U q.2.2] 59)) C.heap.size (Xa (some ⟨g, 0, none⟩) ((its.length + 1) + 1) ac) (its ++ [(t, k)]) (q.1, []) := af.out.ext h
                  have ae := zH (ItemsAt.dotN (n := its.length + 1) (its := (its ++ [(t, k)])) (by simp) (d := q.2) hi (h.cell K) F H)
                  have ab := zH (Ext.grewOwn (P.out.alloc _) F (S.out.alloc _) (Qb _))
                  obtain⟨az, a2, rfl, a7, a8⟩ := H.form
                  clear h J hi H G F)
   all_goals
     go_wp2
     go_roundw
     case rel => exact⟨pre ++ [q], post, by rw[Z.out]; simp, by simp, zH (.inr ⟨(its ++ [(t, k)]), (q.1, [] ++ [q.2]), (by rw[zhv, al.out, zg3 _ _ _ b5]; rfl), ae.out⟩), ab.out.set (by simpa using W) _⟩
     case measure => simp[intOf]; omega
 rw[Qj]at L
 have cf : V.length = pre.length := by rw[L]
 have Z := zH L
 have aa := zH Y
 have av := a1.out.size
 have br := zH (show OwnL itemT 57 wr C.heap.size (fun b => C.heap.size <= b) u4 (za7 M) by
   rw[bo.out, Z.out]
   rcases ah.out with⟨rfl, rfl⟩|⟨its, last, ao, j⟩
   · exact OwnL.nil _ _
   rw[ao]; exact j.done)
 clear L Y ah
 go_wp2_with fail
 go_ret
 exact⟨_, rfl, (br.out.lower av).mono (fun b _ hb => Qa av hb), a1.out.trans aa.out⟩
end
section
open Go.RowKit Go.Shelf
def KnowsAt (W:Xf)(base B:Nat)(rise:List Mark):Prop:=B<base/\∃vr,W.cell? ⟨B,0,none⟩=some vr/\Sl markT W (fun b=>b<base) vr rise
theorem KnowsAt.keep {W a:Xf}{base B:Nat}{rise:List Mark}(c:KnowsAt W base B rise)(hb:Below base W a):KnowsAt a base B rise:=by
 obtain⟨h1,g,d,e⟩:=c;exact⟨h1,g,(Below.cell hb (p:=⟨B,0,none⟩) h1).trans d,e.keep (by decide) fun b f _=>hb.block b f⟩
theorem KnowsAt.mono {W:Xf}{base base' B:Nat}{rise:List Mark}(a:KnowsAt W base B rise)(hb:base<=base'):KnowsAt W base' B rise:=by
 obtain⟨h1,e,c,d⟩:=a;exact⟨by omega,e,c,d.mono (by decide) fun b _ a=>by omega⟩
theorem zw0 {l:List Mark}{d:Dot}(a:d.1∉l.map (·.1)):hasM l d=false:=by
 unfold hasM;rw[zgi (s:=d.1) (fun m b e=>a (Qs.2 ⟨m,b,e⟩))];cases c:d.2<;>simp
theorem zza {l:List Mark}(c:SortedM l){m:Mark}{d:Dot}(e:m∈l)(a:m.1=d.1):hasM [m] d=hasM l d:=by
 unfold hasM
 by_cases h0:d.1 = []
 ·rw[h0,zh5,zh5]
 have h1:ofM l d.1=m.2:=by rw[<- a];exact c.of e (by rw[a];exact h0)
 have b:ofM [m] d.1=m.2:=by obtain⟨f,g⟩:=m;rw[ztw,zP ⟨a.symm,by rw[show f=d.1 from a];exact h0⟩]
 rw[h1,b]
theorem Sl.sub {w:Xf}{S:Nat->Prop}{A:Option Addr}{n c:Nat}{l:List Mark}(f:Sl markT w S (Xa A n c) l){i:Nat}{m:Mark}(h:l[i]? = some m) :
  ∃b o,A=some ⟨b,o,none⟩/\Sl markT w S (Xa (some ⟨b,o+i * 2,none⟩) 1 (c-i)) [m]:=by
 have C:=(Ql.1 h).1
 have v:l=l.take i++m::l.drop (i+1):=by have e:=(Ql.1 h).2;rw[<- e,List.getElem_cons_drop,List.take_append_drop]
 obtain⟨z,p,e,h1,B,-⟩:=id f;cases e;obtain⟨b,o,vs,p,y,q,t,g⟩:=f.at_ v;cases y;rw[show(l.take i).length=i by simp;omega,show(markT.k:Nat)=2 from rfl]at g;refine⟨b,o,rfl,_,_,rfl,by simp;omega,by omega,fun pre x post d=>?_⟩
 cases pre with
 | nil=>simp at d;obtain⟨rfl,-⟩:=d;exact⟨b,o+i * 2,vs,rfl,q,t,fun j u s=>by have:=g j u s;simpa using this⟩
 | cons a r=>simp at d
theorem zug {W:Xf}{base B:Nat}{rise:List Mark}(d:Dot)(hk:KnowsAt W base B rise)(hb:base<=W.heap.size)(q:GoodM rise)(J:rise.length<=1099511627776) :
  Calls Tryz.prog 202 #[dotV d,Xb (some ⟨B,0,none⟩)] W fun e w'=>e=Xe (Xc (hasM rise d))/\Ext W w':=by
 have r:=(Xh W).alloc (Xd #[St d.1,U d.2] 59);obtain⟨O,Y,H,k⟩:=hk.keep (r.below hb);obtain⟨A,c,rfl,h1,N⟩:=k.form;have x:=zH (zq4 d.1 k q.1 J);have y:=zH k;have D:(W.alloc (Xd #[St d.1,U d.2] 59)).cell? ⟨W.heap.size,0,none⟩=some (St d.1):=by simp[go_sem]
 have E:(W.alloc (Xd #[St d.1,U d.2] 59)).cell? ⟨W.heap.size,1,none⟩=some (U d.2):=by simp[go_sem]
 have u:=zH q;clear hk k q;go_enter Tryz.func202,Tryz.ntmps202;go_wp2_with fail;generalize W.alloc (Xd #[St d.1,U d.2] 59)=z at *;refine x.out.mono ?_;rintro e a⟨i,is,rfl,h,f⟩;have I:=f.cell H;have d0:=f.cell D;have d1:=f.cell E
 cases is
 case false=>have l:=zH (zw0 (d:=d) (h.no (zpj u.out.1)));clear h;go_wp2_with fail;go_quiet (fail);go_wp2;go_ret;exact⟨by rw[l.out];rfl,(r.trans f).drewN _⟩
 have s:=h.yes;rw[List.getElem?_map]at s;obtain⟨m,j,K⟩:=Option.map_eq_some_iff.1 s;have P:=(Ql.1 j).1;obtain⟨b,o,rfl,v⟩:=y.out.sub j;have w:=zH (fun(W:Xf) (F:Ext z W)=>zou d (v.ext (by decide) F));have l:=zH (zza u.out.1 (d:=d) (List.mem_of_getElem? j) K);have Q:(0:Int)<=(i:Int):=by omega
 have R:(i:Int)<=(i:Int)+1:=by omega
 have S:(i:Int)+1<=(c:Int):=by omega
 have T:IntKind.i64.wrap ((i:Int)+1)=(i:Int)+1:=IntWalk.i64_in _ (by omega);have V:((i:Int)+1).toNat=i+1:=by omega
 have X:i+1-i=1:=by omega
 clear h s j v;go_wp2_with fail;obtain⟨n,p⟩:∃n,a.drew=n:=⟨_,rfl⟩
 have g:Ext a n:=by rw[<- p];exact(Xh a).drew
 have e0:=g.cell I;have L:=g.cell d0;have M:=g.cell d1;have t:=zH (f.trans g);refine wp_region_still_tail 8 (by kernel_rfl) (by kernel_rfl) ?_;simp only[zD];change wpStill _ _ a.drew (fun C=>wpList _ _ _ _ C a.drew) _ _;rw[p];clear p g
 repeat still_step
 refine wpStill_nil ?_;go_wp2_with fail;refine(w.out _ t.out).mono ?_;rintro e Z⟨rfl,G⟩;go_wp2;go_ret;exact⟨by rw[<- l.out];rfl,r.trans (t.out.trans G)⟩
theorem zpk {S:Nat->Prop}{v:Xg}{l:List Mark}{w:Xf}(f:Sl markT w S v l)(n:l.length<=1099511627776) :
  Calls Tryz.prog 157 #[v] w fun e w'=>∃B,e=Xe (.func (.func 202) #[] #[Xb (some ⟨B,0,none⟩)])/\w.heap.size<=B/\KnowsAt w' w'.heap.size B (za0 l [])/\Ext w w':=by
 have i:=zH (zjb f (Sl.nil (T:=markT) (S:=fun _=>False) none 0 (by omega)) n (by simp));clear f;go_enter Tryz.func157,Tryz.ntmps157;go_wp2_with fail;refine i.out.mono ?_;rintro e d⟨v1,rfl,a,g⟩;have o:=zH (zbb a);have m:=a.form;obtain⟨A,c,rfl,-,-⟩:=m;clear a;go_wp2_with fail;go_ret;refine⟨_,rfl,g.size,⟨by simp,_,by simp[go_sem];rfl,?_⟩,g.alloc _⟩;have h:=(Xh d).alloc (Xd #[Xa A (za0 l []).length c] 22);have k:Sl markT d (fun b=>b<d.heap.size) (Xa A (za0 l []).length c) (za0 l []):=o.out.mono (by decide) fun b hb _=>hb
 exact(k.ext (by decide) h).mono (by decide) fun b _ j=>Qi j h.size
def StaysAt (W:Xf)(base B1 B2 q B:Nat)(ks:List zan)(rise:List Mark):Prop :=
 B1<base/\B2<base/\q<base/\W.cell? ⟨B1,0,none⟩=some (.map (some q))/\W.cell? ⟨B2,0,none⟩=some (.func (.func 202) #[] #[Xb (some ⟨B,0,none⟩)])/\SetOf zar W q ks/\KnowsAt W base B rise
theorem StaysAt.keep {W c:Xf}{base a b q B:Nat}{f:List zan}{rise:List Mark}(g:StaysAt W base a b q B f rise)(hb:Below base W c):StaysAt c base a b q B f rise:=by
 obtain⟨h1,d,e,h,i,j,k⟩:=g;exact⟨h1,d,e,(Below.cell hb (p:=⟨a,0,none⟩) h1).trans h,(Below.cell hb (p:=⟨b,0,none⟩) d).trans i,j.keep (hb.block q e),k.keep hb⟩
def zh9 (ks:List zan)(rise:List Mark)(p:zan):Bool:=decide (p∈ks) || !hasM rise p.2
theorem zw1 {W:Xf}{base f g q B:Nat}{c:List zan}{rise:List Mark}(m:zan)(d:StaysAt W base f g q B c rise)(hb:base<=W.heap.size)(p:GoodM rise)(r:rise.length<=1099511627776) :
  Calls Tryz.prog 155 #[zar m,Xb (some ⟨f,0,none⟩),Xb (some ⟨g,0,none⟩)] W fun e w'=>e=Xe (Xc (zh9 c rise m))/\Ext W w':=by
 have t:∀args w,(callFunc 202 args).run Tryz.prog w=.ok (.enter 202 args) w:=enters_of Tryz.func202 (by kernel_rfl) rfl;have l:=(Xh W).alloc (Xd #[St m.1,St m.2.1,U m.2.2] 220);have b:=l.alloc (Xd #[] 141);obtain⟨h1,u,v,x,y,i,o⟩:=d.keep (l.below hb);have j:=(d.keep (b.below hb)).2.2.2.2.2.2;have z:=(d.keep (b.below hb)).2.2.2.2.1;have k:=zih (P:=Tryz.prog) Tryz.underlying217 zjd znb i m;have n:=zH (zug m.2 j (Qa hb b.size) p r);have A:W.heap.size≠f:=by omega
 have C:W.heap.size≠g:=by omega
 clear d i o j
 by_cases a:m∈c
 ·have h:=zH (show zh9 c rise m=true by simp[zh9,a]);simp only[a,decide_true]at k;clear a;go_enter Tryz.func155,Tryz.ntmps155;go_wp2_with fail;go_ret;exact⟨by rw[h.out];rfl,b⟩
 have h:=zH (show zh9 c rise m = !hasM rise m.2 by simp[zh9,a]);simp only[a,decide_false]at k;clear a;go_enter Tryz.func155,Tryz.ntmps155;go_wp2_with fail;refine n.out.mono ?_;rintro e D⟨rfl,s⟩;go_wp2_with fail;go_ret;exact⟨by rw[h.out];rfl,b.trans s⟩
theorem zn1 {base a b q B:Nat}{c:List zan}{rise:List Mark}(d:GoodM rise)(e:rise.length<=1099511627776) :
  PredK zar Tryz.prog 155 #[Xb (some ⟨a,0,none⟩),Xb (some ⟨b,0,none⟩)] base (fun W=>StaysAt W base a b q B c rise/\base<=W.heap.size) (zh9 c rise) where
 enters:=enters_of Tryz.func155 (by kernel_rfl) rfl
 keep W W' h hB:=⟨h.1.keep hB,Qa h.2 hB.size⟩
 does m W h:=zw1 m h.1 h.2 d e
theorem zuh (q B:Nat)(w:Xf):Calls Tryz.prog 154 #[.map (some q),.func (.func 202) #[] #[Xb (some ⟨B,0,none⟩)]] w fun e w' =>
  e=Xe (.func (.func 155) #[] #[Xb (some ⟨w.heap.size,0,none⟩),Xb (some ⟨w.heap.size+1,0,none⟩)])/\w'=(w.alloc (Xd #[.map (some q)] 217)).alloc (Xd #[.func (.func 202) #[] #[Xb (some ⟨B,0,none⟩)]] 230):=by
 go_enter Tryz.func154,Tryz.ntmps154;go_wp2;go_ret;exact⟨rfl,rfl⟩
def zgb (mine theirs:List Item)(v:List Mark):List zan:=(setL (zab mine)).filter (zh9 (setL (zab theirs)) (za0 v []))
def ze8 (a:List Item)(sa:List Mark)(b:List Item)(sb:List Mark):List Item:=za7 ((zgb b a sa).foldl addK (zgb a b sb))
theorem zms (a b:List Item)(v:List Mark):(zgb a b v).Nodup:=(zdm _).filter _
theorem zpl (a b:List Item)(v:List Mark):(zgb a b v).length<=(zab a).length:=Qa (Qt _ _) (zgj _)
theorem zui {A B a b:List zan}(c:a.Perm A)(e:b.Perm B)(d:A.Nodup):(b.foldl addK a).Perm (B.foldl addK A) :=
 zdl (zd9 _ _ (c.nodup_iff.2 d)) (zd9 _ _ d) fun x=>by rw[zd6,zd6,c.mem_iff,e.mem_iff]
theorem zmt {w b:Xf}{q B:Nat}{d:List zan}{rise:List Mark}(c:SetOf zar w q d)(hk:KnowsAt w w.heap.size B rise)(e:b=(w.alloc (Xd #[.map (some q)] 217)).alloc (Xd #[.func (.func 202) #[] #[Xb (some ⟨B,0,none⟩)]] 230)) :
  StaysAt b b.heap.size w.heap.size (w.heap.size+1) q B d rise:=by
 subst e;have a:=((Xh w).alloc (Xd #[.map (some q)] 217)).alloc (Xd #[.func (.func 202) #[] #[Xb (some ⟨B,0,none⟩)]] 230);exact⟨(by simp;omega),(by simp),Qi c.lt a.size,by simp[go_sem],by simp[go_sem],c.ext a,(hk.keep a).mono a.size⟩
theorem zw2 {aw ax ay az:Nat->Prop}{Y aa Z ab:Xg}{a b:List Item}{d c:List Mark}{w:Xf}(ha:Sl itemT w aw Y a)(v:Sl markT w ax aa d)(hb:Sl itemT w ay Z b)(x:Sl markT w az ab c)(bz:(zab a).length+(zab b).length<=1099511627776)(a8:d.length<=549755813888)(a9:c.length<=549755813888) :
  Calls Tryz.prog 112 #[Y,aa,Z,ab] w fun e w'=>∃v',e=Xe v'/\OwnL itemT 57 w' w.heap.size (fun b=>w.heap.size<=b) v' (ze8 a d b c)/\Ext w w':=by
 have bt:∀args w,(callFunc 154 args).run Tryz.prog w=.ok (.enter 154 args) w:=enters_of Tryz.func154 (by kernel_rfl) rfl;have ah:=zH (zkc ha);have ai:=zH (fun(W:Xf) (f:Ext w W)=>zkc (hb.ext (by decide) f));have au:=zH (fun(W:Xf) (f:Ext w W)=>zpk (x.ext (by decide) f) (by omega));have ar:=zH (fun(W:Xf) (f:Ext w W)=>zpk (v.ext (by decide) f) (by omega));have I:=zH zuh;have ak:=zH (show ze8 a d b c=za7 ((zgb b a d).foldl addK (zgb a b c))from rfl);have a6:=zH (zcp c []);have a5:=zH (zcp d []);have n:∀s:List Mark,(za0 s []).length<=s.length:=fun s=>by rw[zka];exact zeo s
 have lb:=Qa (n c) a9;have b8:=Qa (n d) a8;obtain⟨bf,bo,rfl,-,-⟩:=ha.form;obtain⟨bh,bq,rfl,-,-⟩:=v.form;obtain⟨bg,bp,rfl,-,-⟩:=hb.form;obtain⟨bi,br,rfl,-,-⟩:=x.form;clear ha v hb x n;go_enter Tryz.func112,Tryz.ntmps112;go_wp2_with fail;refine ah.out.mono ?_;rintro e a0⟨p,rfl,b0,i,R⟩;go_wp2_with fail;refine(ai.out a0 R).mono ?_;rintro e a1⟨q,rfl,b2,t,C⟩;have S:=R.trans C;have b1:p≠q:=by have:=i.lt;omega
 go_wp2_with fail;refine(au.out a1 S).mono ?_;rintro e l⟨B,rfl,bw,J,h⟩;go_wp2_with fail;refine(I.out q B l).mono ?_;rintro e a2⟨rfl,y⟩;have k:Ext l a2:=by rw[y];exact((Xh l).alloc _).alloc _
 have g:=zmt (t.ext h) J y;have T:=(S.trans h).trans k;have ae:=zH (zku (((i.ext C).ext h).ext k) (zn1 a6.out (by omega)) ⟨g,Qb _⟩ (Qb _));have ap:=zH ((t.ext h).ext k);have al:=zH (((i.ext C).ext h).ext k);clear y g t i J;go_wp2_with fail;refine ae.out.mono ?_;rintro e a3⟨r,bd,rfl,b3,L,O,D⟩;have U:=T.trans D;have aq:=zH (ap.out.ext D);have am:=zH (al.out.ext D);go_wp2_with fail;refine(ar.out a3 U).mono ?_;rintro e m⟨ac,rfl,bx,K,F⟩;go_wp2_with fail;refine(I.out p ac m).mono ?_;rintro e a4⟨rfl,z⟩;have X:Ext m a4:=by rw[z];exact((Xh m).alloc _).alloc _
 have g:=zmt (am.out.ext F) K z;have A:=(U.trans F).trans X;have E:=F.trans X;have af:=zH (zku (aq.out.ext E) (zn1 a5.out (by omega)) ⟨g,Qb _⟩ (Qb _));have H:=zH (O.ext E);have an:=zH L;clear z g K O L;go_wp2_with fail;refine af.out.mono ?_;rintro e bm⟨r',b9,rfl,b4,M,P,G⟩;have b5:=T.size;have b7:=A.size;have b6:=E.size;have ba:r≠r':=by have:=H.out.lt;omega
 have ag:=zH (zy8 (base:=w.heap.size) (H.out.ext G) P ba (by omega) (A.trans G).size);have ao:=zH M;clear M P;go_wp2_with fail;refine ag.out.mono ?_;rintro e bn⟨be,rfl,N,Q,bc⟩;have o:(be.foldl addK bd).Perm ((zgb b a d).foldl addK (zgb a b c)):=zui an.out (N.trans ao.out) (zms a b c);have h1:=zpl a b c;have bu:=zpl b a d;have bv:=zhp (zgb b a d) (zgb a b c);have V:=Below.trans (A.trans G) bc;have ad:=zH (zh8 Q (by rw[o.length_eq];omega));have aj:=zH (zfe o);clear Q N o;go_wp2_with fail;refine ad.out.mono ?_;rintro e bk⟨v',rfl,j,bb⟩;rw[aj.out,<- ak.out]at j;have u:=V.size;have av:=zH ((j.lower u).mono (fun b _ hb=>Qa u hb));have a7:=j.form;obtain⟨bj,bs,rfl,-,-⟩:=a7;clear j;go_wp2_with fail;go_ret;exact⟨_,rfl,av.out,Below.trans V (bb.below u)⟩
def zbd (l:List Item)(s:Str):List zan:=(setL (zab l)).filter fun m=>m.1 !=s
def zf2 (l:List Item)(s:Str):List Item:=za7 (zbd l s)
theorem zmu (l:List Item)(s:Str):(zbd l s).length<=(zab l).length:=Qa (Qt _ _) (zgj _)
theorem zqk (l:List Item)(s:Str):(zbd l s).Nodup:=(zdm _).filter _
theorem zzb {S:Nat->Prop}{v:Xg}{l:List Item}{w:Xf}(s:Str)(a:Sl itemT w S v l)(K:(zab l).length<=1099511627776) :
  Calls Tryz.prog 182 #[v,St s] w fun e w'=>∃v',e=Xe v'/\OwnL itemT 57 w' w.heap.size (fun b=>w.heap.size<=b) v' (zf2 l s)/\Ext w w':=by
 have j:=(Xh w).alloc (Xd #[St s] 9);have B:(w.alloc (Xd #[St s] 9)).cell? ⟨w.heap.size,0,none⟩=some (St s):=by simp[go_sem]
 have o:=zH (zkc (a.ext (by decide) j));have x:=zH (show zf2 l s=za7 (zbd l s)from rfl);obtain⟨A,c,rfl,-,-⟩:=a.form;clear a;go_enter Tryz.func182,Tryz.ntmps182;go_wp2_with fail;refine o.out.mono ?_;rintro e z⟨p,rfl,M,g,n⟩;have k:=j.trans n;have f:=n.cell B;have L:=zae f;have r:=zH (zku g (zuc s w.heap.size z.heap.size (by have:=k.size;omega)) f (Qb _));clear g;go_wp2_with fail;refine r.out.mono ?_;rintro e H⟨q,O,rfl,N,d,h,E⟩;have m:=k.trans E;have D:=zmu l s;have t:=zH (zh8 h (by have:=d.length_eq;unfold zbd at D;omega));have u:=zH (zfe d);clear h d;go_wp2_with fail;refine t.out.mono ?_;rintro e I⟨v',rfl,a,F⟩;rw[u.out,<- zbd,<- x.out]at a;have i:=m.size;have y:=zH ((a.lower i).mono (fun b _ hb=>Qa i hb));have C:=a.form;obtain⟨G,J,rfl,-,-⟩:=C;clear a;go_wp2_with fail;go_ret;exact⟨_,rfl,y.out,m.trans F⟩
def zdo (l:List Item):List Str:=(za7 (setL (zab l))).map (·.1)
theorem zn2 (a:List zan):(za7 a).length<=a.length:=by
 unfold za7;refine Qa (zn0 _) ?_;rw[(zbq a).length_eq];exact Qb _
theorem zw3 {S:Nat->Prop}{v:Xg}{l:List Item}{w:Xf}(r:Sl itemT w S v l)(a:(zab l).length<=1099511627776) :
  Calls Tryz.prog 103 #[v] w fun e w'=>∃v',e=Xe v'/\Own w' w.heap.size 9 1 v' (zdo l).length ((zdo l).flatMap strC)/\Ext w w':=by
 have E:=zH (zkc r);obtain⟨A,c,rfl,-,-⟩:=r.form;have H:=zH (show zdo l=(za7 (setL (zab l))).map (·.1)from rfl);have V:=zgj (zab l);clear r;go_enter Tryz.func103,Tryz.ntmps103;go_wp2_with fail;refine E.out.mono ?_;rintro e O⟨p,rfl,Y,x,B⟩;have F:=zH (zh8 x (by omega));clear x;go_wp2_with fail;refine F.out.mono ?_;rintro e h⟨v2,rfl,z,C⟩;have U:=zn2 (setL (zab l));generalize za7 (setL (zab l))=its at *;have d:=z.sl (S':=fun _=>True) (by decide) (fun _ _ _=>trivial) (fun _ _ _=>trivial);obtain⟨N,c2,rfl,P,Q⟩:=d.form;have G:=zH (fun(pre post:List Item) (m:Item) (wr:Xf) (K:Ext h wr) (a:its=pre++m::post)=>zgr d K a);have s:=zH (B.trans C);clear z d B C;go_wp2_with fail
 go_loopw [3,10] (fun l i wr=>∃pre post,its=pre++post/\i=I pre.length/\Own wr h.heap.size 9 1 l pre.length ((pre.map (·.1)).flatMap strC)/\Ext h wr) (fun _ i _=>its.length-(intOf i).toNat)
 case atStart=>exact⟨[],its,rfl,rfl,Own.nil _ _ _ _ _,Xh _⟩
 obtain⟨pre,post,a,rfl,g,f⟩:=hrel
 cases post with
 | cons it post =>
  obtain⟨b,o,Z,rfl,R,T,d⟩:=G.out pre post it wr f a;have X:pre.length<its.length:=(by rw[a];simp);have q:=d.form;obtain⟨D,J,rfl,-,-⟩:=q;have j:=zH a;have t:=f.size;have n:=zH f;have k:=zH g;clear a f d
  go_wp2_with (at_builtin;refine zal rfl (.tmp 14) (.tmp 17) 24 rfl h.heap.size 9 1 16 (St []) Tryz.underlying24 zd7 rfl (by omega) _ pre.length ((pre.map (·.1)).flatMap strC) rfl ((g.alloc _).alloc _) _ 1 1 [St it.1] rfl (Src.newAt (by simp) rfl (by intro u y;simp at y;subst y;rfl)) (by omega) (by omega) (by simp;omega) ?_;intro v' w' M L)
  go_roundw
  case rel=>exact⟨pre++[it],post,by rw[j.out];simp,by simp,by simpa[strC]using M,Ext.grewOwn ((n.out.alloc _).alloc _) L ((k.out.alloc _).alloc _) (Qb _)⟩
  case measure=>simp[intOf];omega
 | nil=>rw[Qj]at a;have j:=zH a;have W:its.length=pre.length:=(by rw[a]);have n:=zH f;have k:=zH g;have t:=s.out.size;have q:=g.form;obtain⟨D,J,rfl,-,-⟩:=q;clear a f g;go_wp2_with fail;go_ret;exact⟨_,rfl,by rw[H.out,j.out,List.length_map];exact k.out.lower t,s.out.trans n.out⟩
theorem zmf (w:Xf):(zeroValue 3).run Tryz.prog w=.ok (I 0) w:=Tryz.zeroValue3 w
def ze2 (ks:List zan):List Str:=setL (ks.map (·.1))
theorem zsu {a b:List zan}(h:a.Perm b):(ze2 a).length=(ze2 b).length :=
 (zdl (zdm _) (zdm _) fun x=>by rw[mem_setL,mem_setL];exact(h.map _).mem_iff).length_eq
theorem zql {κ ν:Type}{K:κ->Xg}{V:ν->Xg}{w:Xf}{b:Nat}{L:List (κ×ν)}{P:Program}{t h a:TypeId}(g:P.underlying t=some (.map h a))(d:MapIs K V w b L)(i:TypeId) :
  (Builtin.len_ #[t] i #[.map (some b)]).run P w=.ok (.int .i64 (L.length:Int)) w:=by
 obtain⟨es,c,h1,e,-⟩:=d
 have f:es.size=L.length:=by
  have:=congrArg Qp e
  simpa using this
 simp[Builtin.len_,run_underlying g,MapKept.run_getObj_map h1,f,goInt]
def putB (l:List Item)(s:Str)(d:Dot):List Item×Nat :=
 if 4096<s.length then([],4)else if 256<=(ze2 (zbd l s)).length then([],6)else(za7 (addK (zbd l s) (s,d)),0)
theorem zzc {S:Nat->Prop}{v:Xg}{l:List Item}{w:Xf}(s:Str)(d:Dot)(g:Sl itemT w S v l)(ci:(zab l).length<1099511627776) :
  Calls Tryz.prog 180 #[v,St s,dotV d] w fun e w'=>∃v',e=Xe (.tuple #[v',I (putB l s d).2])/\OwnL itemT 57 w' w.heap.size (fun b=>w.heap.size<=b) v' (putB l s d).1/\Ext w w':=by
 have M:=((Xh w).alloc (Xd #[St s] 9)).alloc (Xd #[St d.1,U d.2] 59)
 by_cases aq:4096<s.length
 ·have n:=zH (show putB l s d=([],4) by simp[putB,aq]);have b4:(s.length:Int)>4096:=by omega
  obtain⟨A,c,rfl,-,-⟩:=g.form;clear g;go_enter Tryz.func180,Tryz.ntmps180;go_wp2_with fail
  go_ret2
  exact⟨_,by rw[n.out];rfl,by rw[n.out];exact OwnL.nil _ _,M⟩
 have b4:¬(s.length:Int)>4096:=by omega
 have n:=zH (show putB l s d=if 256<=(ze2 (zbd l s)).length then([],6)else(za7 (addK (zbd l s) (s,d)),0) by simp[putB,aq]);have T:((w.alloc (Xd #[St s] 9)).alloc (Xd #[St d.1,U d.2] 59)).cell? ⟨w.heap.size,0,none⟩=some (St s):=by simp[go_sem]
 have al:((w.alloc (Xd #[St s] 9)).alloc (Xd #[St d.1,U d.2] 59)).cell? ⟨w.heap.size+1,0,none⟩=some (St d.1):=by simp[go_sem]
 have am:((w.alloc (Xd #[St s] 9)).alloc (Xd #[St d.1,U d.2] 59)).cell? ⟨w.heap.size+1,1,none⟩=some (U d.2):=by simp[go_sem]
 have a7:=zH (zkc (g.ext (by decide) M));have cl:=@run_makeMap Tryz.prog;have a5:((w.alloc (Xd #[St s] 9)).alloc (Xd #[St d.1,U d.2] 59)).heap.size=w.heap.size+1+1:=by simp
 have b9:=zH a5;have cj:=zmu l s;have au:=zqk l s;obtain⟨A,c,rfl,-,-⟩:=g.form;clear g a5;go_enter Tryz.func180,Tryz.ntmps180;go_wp2_with fail;generalize (w.alloc (Xd #[St s] 9)).alloc (Xd #[St d.1,U d.2] 59)=ca at *;refine a7.out.mono ?_;rintro e bo⟨p,rfl,cm,av,f⟩;have a0:=M.trans f;have an:=f.cell T;have ck:=zae an;have a8:=zH (zku av (zww s w.heap.size bo.heap.size (by omega)) an (Qb _));clear av;go_wp2_with fail;refine a8.out.mono ?_;rintro e h⟨q,j,rfl,b1,H,B,D⟩;rw[<- zbd]at H;have a1:=a0.trans D;have d0:=(f.trans D).cell T;have d1:=(f.trans D).cell al;have ae:=(f.trans D).cell am;have O:=(Xh h).alloc (.map #[] 0);obtain⟨cb,b3,hR,N,b5⟩:=zcz (P:=Tryz.prog) Tryz.underlying217 (B.ext O);have bi:=zH hR;have be:=zH (MapIs.new (κ:=Str) (ν:=Int) (K:=St) (V:=I) h |>.ext N);have bh:=zH ((B.ext O).ext N);have bf:=zH B.nodup;have cn:=B.lt;rw[Yb]at b3 b5;have E:=O.trans N;have a2:=a1.trans E;have f0:=E.cell d0;have f1:=E.cell d1;have bp:=E.cell ae;have ce:=zae d0;have cf:=zae d1;have aa:=zH H;have bm:=zH a2;have b2:w.heap.size<=q:=Qa a0.size b1;have co:=a1.size;have bx:j.length=(zbd l s).length:=H.length_eq;have ch:j.length<1099511627776:=by omega
 clear hR B H O N E a2 M f D bx d0 d1 ae T al am;go_wp2_with fail
 go_loopw [21] (fun u wr=>∃done Y L,(done++Y.map Prod.fst).Perm j/\RangeIs zar zeg wr q (h.heap.size+1) (j.map fun k=>(k,())) Y/\Hid (MapIs St I wr h.heap.size L/\L.map Prod.fst=ze2 done) /\
  (wr.cell? ⟨w.heap.size,0,none⟩=some (St s)/\wr.cell? ⟨w.heap.size+1,0,none⟩=some (St d.1)/\wr.cell? ⟨w.heap.size+1,1,none⟩=some (U d.2))/\SetOf zar wr q j/\Ext w wr) (fun _ wr=>wr.rangeLeft q (h.heap.size+1))
 case atStart=>exact⟨[],_,[],by rw[ze3];exact .refl _,by have:=bi.out;rwa[Yb]at this,zH ⟨be.out,rfl⟩,⟨f0,f1,bp⟩,bh.out,bm.out⟩
 obtain⟨done,Y,L,G,hR,t,⟨bq,bs,bu⟩,y,J⟩:=hrel;rcases zdh (P:=Tryz.prog) 0 hR with⟨rfl,C⟩|⟨r1,k,a6,Z,rfl,C,ak,m,cg⟩
 ·have b0:∀F,(Instr.next (Xb (some ⟨h.heap.size+1,0,none⟩)) false F).run Tryz.prog wr=.ok (.tuple #[Xc false]) wr:=fun F=>C
  have W:done.Perm j:=(by simpa using G);have X:=W.trans aa.out;obtain⟨ah,ao⟩:=t.out;have ap:=zql (P:=Tryz.prog) Tryz.underlying129 ah 3
  have ai:L.length=(ze2 (zbd l s)).length:=by have af:=congrArg Qp ao;simp at af;rw[af];exact zsu X
  rw[ai]at ap;obtain⟨r,aj⟩:∃r,(ze2 (zbd l s)).length=r:=⟨_,rfl⟩
  rw[aj]at n ap;have ac:=zH J;clear t hR G C ao aj J ah ai
  by_cases ag:256<=r
  ·have o:=zH (show putB l s d=([],6) by rw[n.out,zP ag]);have Q:(r:Int)≥256:=(by omega);clear W X y;go_wp2_with fail
   go_ret2
   exact⟨_,by rw[o.out];rfl,by rw[o.out];exact OwnL.nil _ _,ac.out⟩
  have o:=zH (show putB l s d=(za7 (addK (zbd l s) (s,d)),0) by rw[n.out,zN ag]);have Q:¬(r:Int)≥256:=(by omega);obtain⟨cq,b6,ax,az⟩:=zc9 (P:=Tryz.prog) Tryz.underlying217 zjd y (s,d);have a3:=ac.out.turned az b2;have aw:(addK j (s,d)).Perm (addK (zbd l s) (s,d)):=zdl (zkt bf.out _) (zkt au _) fun x=>by rw[zks,zks,aa.out.mem_iff]
  have cd:=zq7 j (s,d);have a9:=zH (zh8 ax (by omega));have ba:=zH (zfe aw);have ad:=zH a3;clear W X y ax az a3 aw au;go_wp2_with fail;refine a9.out.mono ?_;rintro e cr⟨v',rfl,g,b7⟩;rw[ba.out]at g;have ay:=ad.out.size;have bk:=zH ((g.lower ay).mono (fun b _ hb=>Qa ay hb));have bw:=g.form;obtain⟨b8,cc,rfl,-,-⟩:=bw;clear g;go_wp2_with fail
  go_ret2
  exact⟨_,by rw[o.out];rfl,by rw[o.out];exact bk.out,ad.out.trans b7⟩
 have b0:∀F,(Instr.next (Xb (some ⟨h.heap.size+1,0,none⟩)) false F).run Tryz.prog wr=.ok (.tuple #[Xc true,zar k.1,zeg k.2]) Z:=fun F=>C
 have a4:=J.turned m (by omega);have f:=(Xh Z).alloc (Xd #[St k.1.1,St k.1.2.1,U k.1.2.2] 220);have R:MapIs St I (Z.alloc (Xd #[St k.1.1,St k.1.2.1,U k.1.2.2] 220)) h.heap.size L:=(t.out.1.keep (m.other _ (by omega))).ext f;have bz:=(zbi (P:=Tryz.prog) (z:=0) Tryz.underlying129 zd8 zmf R k.1.1).1;obtain⟨z,Q⟩:∃z,getL 0 L k.1.1=z:=⟨_,rfl⟩
 rw[Q]at bz;obtain⟨cp,b6,ar,i⟩:=zaw (P:=Tryz.prog) Tryz.underlying129 zd8 R k.1.1 (wrap64 (z+1));have br:=i.cell (f.cell (m.cell bq (by omega))) (by omega);have bt:=i.cell (f.cell (m.cell bs (by omega))) (by omega);have bv:=i.cell (f.cell (m.cell bu (by omega))) (by omega);have ab:=zH ((ak.ext f).keep (i.other q (by omega)) (i.other _ (by omega)));have bj:=zH (((y.keep (m.other q (by omega))).ext f).keep (i.other q (by omega)));have bn:=zH ((a4.trans f).turned i (by omega));have bc:=zH ar
 have bb:=zH (show(putL L k.1.1 (wrap64 (z+1))).map Prod.fst=ze2 (done++[k.1]) by
  rw[zjo,t.out.2];unfold ze2;rw[Yc,List.map_singleton,zh6]
  rfl)
 have bd:=zH hR.left_eq;have bg:=zH G;clear G hR C ak J m a4 y f ar i R Q t;go_wp2_with fail;go_roundw
 case rel=>exact⟨done++[k.1],r1++a6,_,by have h1:=bg.out;simp only[Yc,List.map_cons]at h1 ⊢;rw[Qm];exact((List.perm_middle (l₁:=r1.map Prod.fst) (a:=k.1) (l₂:=a6.map Prod.fst)).symm.append_left done).trans h1,ab.out,zH ⟨bc.out,bb.out⟩,⟨br,bt,bv⟩,bj.out,bn.out⟩
 case measure=>rw[bd.out,ab.out.left_eq];simp
def zgc (prev:Option Dot)(all:List Dot)(d:Dot):Bool :=
 !d.1.isEmpty&&decide (1<=d.2)&&decide (d.2<=281474976710656)&&(match prev with|none=>true|some q=>decide (cmpD q d<0)) && !decide (d∈all)
def zel:Option Dot->List Dot->List Dot->Option (List Dot)
 | _,all,[]=>some all
 | prev,all,d::r=>if zgc prev all d then zel (some d) (all++[d]) r else none
def zg8 (prev:Option Str)(it:Item):Bool:=(match prev with|none=>true|some s=>ltS s it.1)&&decide (it.1.length<=4096) && !it.2.isEmpty
def zdu:Option Str->List Dot->List Item->Bool
 | _,_,[]=>true
 | prev,all,it::r=>if zg8 prev it then(match zel none all it.2 with|none=>false|some a=>zdu (some it.1) a r)else false
def mayB (l:List Item):Bool:=zdu none [] l
theorem zin {α:Type}{l:List α}(h:0<l.length):∃pre q,l=pre++[q]/\l.getLast? = some q/\pre.length=l.length-1:=by
 rcases Qn l with rfl|⟨pre,q,rfl⟩
 ·simp at h
 exact⟨pre,q,by simp,by simp,by simp⟩
theorem zg9 {n:Nat}(a:0<n)(b:n<=9223372036854775807):IntKind.i64.wrap ((n:Int)-1)=((n-1:Nat):Int):=by
 rw[show(n:Int)-1=((n-1:Nat):Int) by omega];exact IntWalk.i64_in _ (by omega)
theorem zzd {S:Nat->Prop}{v:Xg}{l:List Item}{w:Xf}(a7:Sl itemT w S v l)(cn:l.length<=1099511627776) :
  Calls Tryz.prog 77 #[v] w fun e w'=>e=Xe (Xc (mayB l))/\Ext w w':=by
 have bk:=a7;obtain⟨A,c,rfl,cj,ck⟩:=a7.form;have ba:=zH (fun(pre post:List Item) (m:Item) (wr:Xf) (a1:Ext w wr) (s:l=pre++m::post)=>zgr bk a1 s);have bs:=zH zmq;have cr:=@run_makeMap Tryz.prog;clear a7 bk;go_enter Tryz.func77,Tryz.ntmps77;go_wp2_with fail
 go_loopw [13] (fun i wr=>∃pre post all,l=pre++post/\i=I pre.length/\Hid (mayB l=zdu (pre.getLast?.map (·.1)) all post)/\SetOf dotV wr w.heap.size all/\Ext w wr) (fun i _=>l.length-(intOf i).toNat)
 case atStart=>exact⟨[],l,[],rfl,rfl,zH rfl,SetOf.new w,(Xh w).alloc _⟩
 obtain⟨pre,post,all,s,rfl,af,ad,Q⟩:=hrel
 cases post with
 | cons it post =>
  obtain⟨b,o,c3,rfl,cm,bd,a6⟩:=ba.out pre post it wr Q s;have a3:pre.length<l.length:=(by rw[s];simp);have bj:=a6;have b2:=a6.form;obtain⟨p,c2,rfl,bc,cl⟩:=b2;have ai:=(Xh wr).alloc (Xd #[St it.1,Xa p it.2.length c2] 57);have ap:(wr.alloc (Xd #[St it.1,Xa p it.2.length c2] 57)).cell? ⟨wr.heap.size,0,none⟩=some (St it.1):=(by simp[go_sem]);have aq:(wr.alloc (Xd #[St it.1,Xa p it.2.length c2] 57)).cell? ⟨wr.heap.size,1,none⟩=some (Xa p it.2.length c2):=(by simp[go_sem]);have cw:=ad.lt;have T:=zH (fun(d t:List Dot) (x:Dot) (cg:Xf) (a1:Ext w cg) (s:it.2=d++x::t)=>zje bj a1 s);have V:=zH (show mayB l=if zg8 (pre.getLast?.map (·.1)) it then(match zel none all it.2 with|none=>false|some a=>zdu (some it.1) a post)else false by rw[af.out];rfl);have bt:=zH s;have aw:=zH (ad.ext ai);have y:=zH (Q.trans ai)
  have bh:(pre.length=0/\pre.getLast?.map (·.1)=none) ∨ (0<pre.length/\∃q:Item,pre.getLast?.map (·.1)=some q.1/\(wr.alloc (Xd #[St it.1,Xa p it.2.length c2] 57)).cell? ⟨b,o+(pre.length-1) * 2,none⟩=some (St q.1)):=by
   rcases Qy pre.length with h0|h0
   ·exact .inl ⟨h0,by rw[Qd h0];rfl⟩
   obtain⟨a9,q,ac,az,a0⟩:=zin h0;obtain⟨b0,o',v',e,u,-,-⟩:=ba.out a9 (it::post) q wr Q (by rw[s,ac];simp);cases e;rw[a0]at u;exact .inr ⟨h0,q,by rw[az];rfl,ai.cell u⟩
  clear s ad a6 bj Q ai af
  by_cases k:zg8 (pre.getLast?.map (·.1)) it=true
  ·have bv:=zH (show mayB l=(match zel none all it.2 with|none=>false|some a=>zdu (some it.1) a post) by rw[V.out,zP k]);unfold zg8 at k;simp only[Bool.and_eq_true,decide_eq_true_eq,Bool.not_eq_true']at k;obtain⟨⟨a4,b3⟩,a5⟩:=k
   have cs:0<it.2.length:=by
    cases G:it.2 with
    | nil=>rw[G]at a5;cases a5
    | cons a r=>simp
   have ak:decide ((4096:Int)<(Qp it.1:Int))=false:=decide_eq_false (by omega);have bn:((it.2.length:Int)==0)=false:=(by rw[beq_eq_false_iff_ne];omega);have bo:decide (it.2.length=0)=false:=decide_eq_false (by omega);clear V b3 a5;rcases bh with⟨h0,g⟩|⟨h0,q,g,u⟩
   case' inl=>have F:¬(pre.length:Int)>0:=(by omega);have a8:¬ 0<pre.length:=(by omega);clear g h0 a4;go_wp2_with fail;generalize wr.alloc (Xd #[St it.1,Xa p it.2.length c2] 57)=C at *;go_quiet (fail);clear F a8 ak bn bo;go_wp2_with fail
   case' inr=>rw[g]at a4;have F:(pre.length:Int)>0:=(by omega);have al:=zg9 h0 (by omega);have am:((pre.length-1:Nat):Int)<(l.length:Int):=(by omega);have an:(0:Int)<=((pre.length-1:Nat):Int):=(by omega);have ao:(((pre.length-1:Nat):Int)).toNat=pre.length-1:=(by omega);clear g;go_wp2_with fail;generalize wr.alloc (Xd #[St it.1,Xa p it.2.length c2] 57)=C at *;go_quiet (fail);clear F al am an ao u a4 ak bn bo;go_wp2_with fail
   all_goals
    have aj:Ext C (C.drewN nq):=(Xh C).drewN nq;obtain⟨ar,rfl⟩:∃ar:Xf,ar=wr:=⟨_,rfl⟩
    go_loopw [46] (fun j au=>∃d t h,it.2=d++t/\j=I d.length/\Hid (mayB l=(match zel d.getLast? h t with|none=>false|some a=>zdu (some it.1) a post))/\SetOf dotV au w.heap.size h /\
     (au.cell? ⟨ar.heap.size,0,none⟩=some (St it.1)/\au.cell? ⟨ar.heap.size,1,none⟩=some (Xa p it.2.length c2))/\Ext w au) (fun j _=>it.2.length-(intOf j).toNat)
    case atStart=>exact⟨[],it.2,all,rfl,rfl,bv,aw.out.ext aj,⟨aj.cell ap,aj.cell aq⟩,y.out.trans aj⟩
    obtain⟨d,t,h,E,rfl,ag,ae,⟨s0,s1⟩,R⟩:=hrel;clear ap aq
    cases t
    case cons x t=>
     obtain⟨bb,bp,rfl,e0,ac⟩:=T.out d t x wr R E;have cq:d.length<it.2.length:=(by rw[E];simp);have L:=(Xh wr).alloc (Xd #[St x.1,U x.2] 59);have bq:(wr.alloc (Xd #[St x.1,U x.2] 59)).cell? ⟨wr.heap.size,0,none⟩=some (St x.1):=(by simp[go_sem]);have br:(wr.alloc (Xd #[St x.1,U x.2] 59)).cell? ⟨wr.heap.size,1,none⟩=some (U x.2):=(by simp[go_sem]);have r0:=L.cell s0;have r1:=L.cell s1;have aa:=zH (ae.ext L);have D:=zH (R.trans L);have bu:=zH E;have W:=zH (show mayB l=(match(if zgc d.getLast? h x then zel (some x) (h++[x]) t else none)with|none=>false|some a=>zdu (some it.1) a post) by rw[ag.out];rfl)
     have bg:(d.length=0/\d.getLast? = none) ∨ (0<d.length/\∃q:Dot,d.getLast? = some q/\(wr.alloc (Xd #[St x.1,U x.2] 59)).cell? ⟨bb,bp+(d.length-1) * 2,none⟩=some (St q.1)/\(wr.alloc (Xd #[St x.1,U x.2] 59)).cell? ⟨bb,bp+(d.length-1) * 2+1,none⟩=some (U q.2)):=by
      rcases Qy d.length with h0|h0
      ·exact .inl ⟨h0,by rw[Qd h0];rfl⟩
      obtain⟨a9,q,ac,az,a0⟩:=zin h0;obtain⟨b0,o',e,u,q1⟩:=T.out a9 (x::t) q wr R (by rw[E,ac];simp);cases e;rw[a0]at u q1;exact .inr ⟨h0,q,az,L.cell u,L.cell q1⟩
     clear E ae R ag s0 s1 L
     by_cases H:!x.1.isEmpty&&decide (1<=x.2)&&decide (x.2<=281474976710656)
     ·obtain⟨xs,f⟩:=x
      cases xs
      case nil=>simp at H
      rename_i a r
      simp only[Bool.and_eq_true,decide_eq_true_eq]at H;obtain⟨⟨-,h1⟩,G⟩:=H;have b6:decide ((f:Int)<1)=false:=decide_eq_false (by omega);have b7:decide ((281474976710656:Int)<(f:Int))=false:=decide_eq_false (by omega);have cx:¬(f:Int)<1:=(by omega);have cy:¬(f:Int)>281474976710656:=(by omega);have cv:=wr;rcases bg with⟨h0,g⟩|⟨h0,q,g,u,q1⟩
      case' inl=>have av:=zH (show zgc d.getLast? h (a::r,f) = !decide ((a::r,f)∈h) by rw[g];simp[zgc];omega);have F:¬(d.length:Int)>0:=(by omega);have a8:¬ 0<d.length:=(by omega);clear g h0;go_wp2_with fail;generalize wr.alloc (Xd #[St (a::r),U f] 59)=n at *;go_quiet (fail);have B:Ext n (n.drewN nq):=(Xh n).drewN nq;generalize n.drewN nq=ax at *
      case' inr =>
       have F:(d.length:Int)>0:=(by omega);have al:=zg9 h0 (by omega);have am:((d.length-1:Nat):Int)<(it.2.length:Int):=(by omega);have an:(0:Int)<=((d.length-1:Nat):Int):=(by omega);have ao:(((d.length-1:Nat):Int)).toNat=d.length-1:=(by omega);go_wp2_with fail;generalize wr.alloc (Xd #[St (a::r),U f] 59)=n at *;obtain⟨ab,a2⟩:∃ab,n.drew=ab:=⟨_,rfl⟩
       have M:Ext n ab:=(by rw[<- a2];exact(Xh n).drew);have cc:=M.cell bq;have cd:=M.cell br;have cb:=M.cell r1;have b9:=M.cell u;have ca:=M.cell q1;refine wp_region_still_tail 24 (by kernel_rfl) (by kernel_rfl) ?_;simp only[zD];change wpStill _ _ n.drew (fun bz=>wpList _ _ _ _ bz n.drew) _ _;rw[a2]
       repeat still_step
       refine wpStill_nil ?_;go_wp2_with fail;refine(bs.out q (a::r,f) ab).mono ?_;rintro e ax⟨rfl,cz,os,be⟩;have B:Ext n ax:=M.trans (by rw[be];exact zy3 _ _ _);clear be a2 M cc cd cb b9 ca u q1 F al am an ao;obtain⟨z,Z⟩:∃z,cmpD q (a::r,f)=z:=⟨_,rfl⟩
       rw[Z]
       by_cases bm:z<0
       case neg =>
        have HF:=zH (show mayB l=false by
         rw[W.out];have:zgc d.getLast? h (a::r,f)=false:=by rw[g];simp[zgc];intro _ _ a3;rw[Z]at a3;exact absurd a3 bm
         rw[this];rfl)
        have b8:z≥0:=(by omega);clear g Z h0;go_wp2_with fail;go_ret;exact⟨by rw[HF.out];rfl,D.out.trans B⟩
       case' pos=>have av:=zH (show zgc d.getLast? h (a::r,f) = !decide ((a::r,f)∈h) by rw[g];simp[zgc,Z,bm];omega);have b8:¬z≥0:=(by omega);clear g Z h0
      all_goals
       have ce:=B.cell bq;have v1:=B.cell br;have w0:=B.cell r0;have cf:=B.cell r1;have Y:=aa.out.ext B;have bf:=zih (P:=Tryz.prog) Tryz.underlying188 zwt znb Y (a::r,f);have K:=(Xh ax).alloc (Xd #[] 141)
       by_cases J:(a::r,f)∈h
       ·have HF:=zH (show mayB l=false by rw[W.out,av.out];simp[J]);simp only[J,decide_true]at bf;clear J Y;go_wp2_with fail;go_ret;exact⟨by rw[HF.out];rfl,(D.out.trans B).alloc _⟩
       have HF:=zH (show mayB l=(match zel (d++[(a::r,f)]).getLast? (addK h (a::r,f)) t with|none=>false|some a=>zdu (some it.1) a post) by
        rw[W.out,av.out];have:addK h (a::r,f)=h++[(a::r,f)]:=by unfold addK;rw[zN J]
        rw[this];simp[J])
       simp only[J,decide_false]at bf;obtain⟨c5,ct,bi,ah⟩:=zc9 (P:=Tryz.prog) Tryz.underlying188 zwt (Y.ext K) (a::r,f);have cu:=Y.lt;have bw:=zH bi;have c0:=K.cell ce;have c1:=K.cell v1;have ch:=ah.cell (K.cell w0) (by omega);have ci:=ah.cell (K.cell cf) (by omega);have bx:=zH (((D.out.trans B).trans K).turned ah (Qb _));clear J Y bi ah B K;go_wp2_with fail;go_roundw
       case rel=>exact⟨d++[(a::r,f)],t,_,by rw[bu.out];simp,by simp,HF,bw.out,⟨ch,ci⟩,bx.out⟩
       case measure=>simp[intOf];omega
     have HF:=zH (show mayB l=false by rw[W.out];simp only[zgc,Bool.eq_false_iff.2 H];rfl);clear W bg T aa;obtain⟨xs,f⟩:=x
     cases xs
     case nil=>go_wp2_with fail;generalize wr.alloc (Xd #[St [],U f] 59)=n at *;go_quiet (fail);go_wp2_with fail;go_ret;exact⟨by rw[HF.out];rfl,D.out.drewN _⟩
     rename_i a r
     by_cases h1:1<=f
     ·have G:281474976710656<f:=by
       simp at H;omega
      have b6:decide ((f:Int)<1)=false:=decide_eq_false (by omega);have b7:decide ((281474976710656:Int)<(f:Int))=true:=decide_eq_true (by omega);clear H;go_wp2_with fail;generalize wr.alloc (Xd #[St (a::r),U f] 59)=n at *;go_quiet (fail);go_wp2_with fail;go_ret;exact⟨by rw[HF.out];rfl,D.out.drewN _⟩
     obtain rfl:f=0:=by omega
     clear H h1;go_wp2_with fail;generalize wr.alloc (Xd #[St (a::r),U 0] 59)=n at *;go_quiet (fail);go_wp2_with fail;go_ret;exact⟨by rw[HF.out];rfl,D.out.drewN _⟩
    rw[Qj]at E;have cp:it.2.length=d.length:=(by rw[E]);have HF:=zH (show mayB l=zdu ((pre++[it]).getLast?.map (·.1)) h post by rw[ag.out];simp[zel]);have aa:=zH ae;have D:=zH R;clear E ag ae R s0 s1;go_wp2_with fail;go_roundw
    case rel=>exact⟨pre++[it],post,h,by rw[bt.out];simp,by simp,HF,aa.out,D.out⟩
    case measure=>simp[intOf];omega
  have HF:=zH (show mayB l=false by rw[V.out,zN k]);rcases bh with⟨h0,g⟩|⟨h0,q,g,u⟩
  ·rw[g]at k;have F:¬(pre.length:Int)>0:=(by omega);have a8:¬ 0<pre.length:=by omega
   by_cases b1:4096<it.1.length
   ·have N:(it.1.length:Int)>4096:=(by omega);clear g k h0;go_wp2_with fail;generalize wr.alloc (Xd #[St it.1,Xa p it.2.length c2] 57)=C at *;go_quiet (fail);go_wp2_with fail;go_ret;exact⟨by rw[HF.out];rfl,y.out.drewN _⟩
   have N:¬(it.1.length:Int)>4096:=by omega
   have X:it.2.length=0:=by
    unfold zg8 at k
    cases G:it.2 with
    | nil=>rfl
    | cons a r=>exact absurd (by simp[G];omega) k
   clear g k T V aw h0;obtain⟨O,ay⟩:=it;obtain rfl:ay = []:=Qd X;clear X;simp only[Qk]at ap aq bd bc y ⊢;have b5:¬(O.length:Int)>4096:=N;have ak:decide ((4096:Int)<(Qp O:Int))=false:=decide_eq_false (by omega);clear N;go_wp2_with fail;generalize wr.alloc (Xd #[St O,Xa p 0 c2] 57)=C at *;go_quiet (fail);go_wp2_with fail;go_ret;exact⟨by rw[HF.out];rfl,y.out.drewN _⟩
  rw[g]at k;have F:(pre.length:Int)>0:=(by omega);have al:=zg9 h0 (by omega);have am:((pre.length-1:Nat):Int)<(l.length:Int):=(by omega);have an:(0:Int)<=((pre.length-1:Nat):Int):=(by omega);have ao:(((pre.length-1:Nat):Int)).toNat=pre.length-1:=(by omega);cases b4:ltS q.1 it.1
  ·clear g k;go_wp2_with fail;generalize wr.alloc (Xd #[St it.1,Xa p it.2.length c2] 57)=C at *;go_quiet (fail);go_wp2_with fail;go_ret;exact⟨by rw[HF.out];rfl,y.out.drewN _⟩
  by_cases b1:4096<it.1.length
  ·have N:(it.1.length:Int)>4096:=(by omega);clear g k;go_wp2_with fail;generalize wr.alloc (Xd #[St it.1,Xa p it.2.length c2] 57)=C at *;go_quiet (fail);go_wp2_with fail;go_ret;exact⟨by rw[HF.out];rfl,y.out.drewN _⟩
  have N:¬(it.1.length:Int)>4096:=by omega
  have X:it.2.length=0:=by
   unfold zg8 at k
   cases G:it.2 with
   | nil=>rfl
   | cons a r=>exact absurd (by simp[G,b4];omega) k
  clear g k T V aw;obtain⟨O,ay⟩:=it;obtain rfl:ay = []:=Qd X;clear X;simp only[Qk]at ap aq bd bc y ⊢;have b5:¬(O.length:Int)>4096:=N;have ak:decide ((4096:Int)<(Qp O:Int))=false:=decide_eq_false (by omega);clear N;go_wp2_with fail;generalize wr.alloc (Xd #[St O,Xa p 0 c2] 57)=C at *;go_quiet (fail);go_wp2_with fail;go_ret;exact⟨by rw[HF.out];rfl,y.out.drewN _⟩
 | nil=>rw[Qj]at s;have co:l.length=pre.length:=(by rw[s]);have HF:=zH (show mayB l=true by rw[af.out];rfl);have y:=zH Q;clear s af ad Q;go_wp2_with fail;go_ret;exact⟨by rw[HF.out];rfl,y.out⟩
end
section
open Go.Sort
def OkD (d:Dot):Prop:=d.1≠[]/\1<=d.2/\d.2<=281474976710656
def zcx (l:List Item):List Dot:=l.flatMap (·.2)
def GoodB (l:List Item):Prop:=(l.Pairwise fun a b=>ltS a.1 b.1=true)/\(∀it∈l,it.1.length<=4096/\it.2≠[]/\it.2.Pairwise fun a b=>ltOf cmpD a b=true)/\(∀d∈zcx l,OkD d)/\(zcx l).Nodup
theorem okDot_iff {a:Option Dot}{all:List Dot}{d:Dot}:zgc a all d=true↔OkD d/\(∀q,a=some q->ltOf cmpD q d=true)/\d∉all:=by
 unfold zgc OkD ltOf
 cases a with
 | none=>simp[and_assoc]
 | some q=>simp[and_assoc]
theorem zj4:∀(f:List Dot) (prev:Option Dot) (all:List Dot),(all.Nodup)->∀r,zel prev all f=some r↔r=all++f/\(∀d∈f,OkD d)/\(f.Pairwise fun a b=>ltOf cmpD a b=true)/\(∀q,prev=some q->∀d∈f,ltOf cmpD q d=true)/\(all++f).Nodup
 | [],prev,all,hn,r=>by
  unfold zel
  constructor
  ·intro e;cases e;exact⟨(Qj _).symm,by simp,.nil,by simp,by simpa using hn⟩
  rintro⟨rfl,-⟩;rw[Qj]
 | d::s,prev,all,hn,r=>by
  unfold zel
  by_cases h:zgc prev all d=true
  ·rw[zP h];obtain⟨h1,i,k⟩:=okDot_iff.1 h
   have m:(all++[d]).Nodup:=by rw[Qr];exact⟨hn,by simp,fun a ha b hb=>by simp at hb;subst hb;rintro rfl;exact k ha⟩
   rw[zj4 s (some d) (all++[d]) m r];rw[Qm,List.singleton_append]
   constructor
   ·rintro⟨e,k1,k2,k3,k4⟩;have j:=k3 d rfl;refine⟨e,fun x c=>?_,Qe.2 ⟨j,k2⟩,fun q g x c=>?_,k4⟩
    ·rcases Qq.1 c with rfl|c
     ·exact h1
     exact k1 x c
    rcases Qq.1 c with rfl|c
    ·exact i q g
    exact znv _ _ _ (i q g) (j x c)
   rintro⟨e,k1,k2,k3,k4⟩;exact⟨e,fun x c=>k1 x (by simp[c]),(Qe.1 k2).2,fun q g x c=>by cases g;exact(Qe.1 k2).1 x c,k4⟩
  rw[zN h]
  constructor
  ·intro e;cases e
  rintro⟨e,k1,k2,k3,k4⟩;refine absurd (okDot_iff.2 ⟨k1 d (by simp),fun q g=>k3 q g d (by simp),fun l=>?_⟩) h;exact(Qr.1 k4).2.2 d l d (by simp) rfl
theorem okText_iff {a:Option Str}{it:Item}:zg8 a it=true↔(∀s,a=some s->ltS s it.1=true)/\it.1.length<=4096/\it.2≠[]:=by
 unfold zg8
 cases a with
 | none=>simp
 | some s=>simp[and_assoc]
theorem zlw:∀(l:List Item) (prev:Option Str) (all:List Dot),all.Nodup->(zdu prev all l=true↔(l.Pairwise fun a b=>ltS a.1 b.1=true)/\(∀it∈l,it.1.length<=4096/\it.2≠[]/\it.2.Pairwise fun a b=>ltOf cmpD a b=true)/\(∀d∈zcx l,OkD d)/\(all++zcx l).Nodup/\∀s,prev=some s->∀it∈l,ltS s it.1=true)
 | [],prev,all,hn=>by simp[zdu,zcx,hn]
 | it::r,prev,all,hn=>by
  unfold zdu;have c:zcx (it::r)=it.2++zcx r:=by simp[zcx]
  rw[c]
  by_cases g:zg8 prev it=true
  ·rw[zP g];obtain⟨h1,o,p⟩:=okText_iff.1 g
   cases i:zel none all it.2
   case none=>
    simp only[Bool.false_eq_true,false_iff];rintro⟨k1,k2,k3,k4,k5⟩
    have h:=(zj4 it.2 none all hn (all++it.2)).2 ⟨rfl,fun d c=>k3 d (Qu _ c),(k2 it (by simp)).2.2,by simp,by rw[<- Qm]at k4;exact(Qr.1 k4).1⟩
    rw[i]at h;cases h
   rename_i a
   obtain⟨rfl,k,m,-,n⟩:=(zj4 it.2 none all hn a).1 i;simp only;rw[zlw r (some it.1) _ n,Qm]
   constructor
   ·rintro⟨k1,k2,k3,k4,k5⟩;have j:=k5 it.1 rfl;refine⟨Qe.2 ⟨j,k1⟩,fun x e=>?_,fun d c=>?_,k4,fun s f x e=>?_⟩
    ·rcases Qq.1 e with rfl|e
     ·exact⟨o,p,m⟩
     exact k2 x e
    ·rcases Qh.1 c with c|c
     ·exact k d c
     exact k3 d c
    rcases Qq.1 e with rfl|e
    ·exact h1 s f
    exact zay (h1 s f) (j x e)
   rintro⟨k1,k2,k3,k4,k5⟩;exact⟨(Qe.1 k1).2,fun x e=>k2 x (by simp[e]),fun d c=>k3 d (List.mem_append_right _ c),k4,fun s f x e=>by cases f;exact(Qe.1 k1).1 x e⟩
  rw[zN g];simp only[Bool.false_eq_true,false_iff];rintro⟨k1,k2,k3,k4,k5⟩;exact g (okText_iff.2 ⟨fun s f=>k5 s f it (by simp),(k2 it (by simp)).1,(k2 it (by simp)).2.1⟩)
theorem mayB_iff {l:List Item}:mayB l=true↔GoodB l:=by
 unfold mayB;rw[zlw l none [] .nil];unfold GoodB;simp
theorem zhq {α:Type}{P:List α->Prop}(h0:P [])(h1:∀l a,P l->P (l++[a]))(l:List α):P l:=by
 have h:∀r:List α,P r.reverse:=by
  intro r
  induction r with
  | nil=>exact h0
  | cons a r ih=>rw[List.reverse_cons];exact h1 _ _ ih
 have:=h l.reverse
 rwa[List.reverse_reverse]at this
theorem znd (l:List Item)(p:zan):zab (zb5 l p)=zab l++[p]:=by
 rcases Qn l with rfl|⟨pre,it,rfl⟩
 ·simp[zb5,zab]
 by_cases a:it.1=p.1
 ·obtain⟨t,b⟩:=it;obtain⟨s,d⟩:=p;simp only at a;subst a;rw[Qo,zhn];simp[zab]
 rw[Qo,zg3 _ _ _ (by simpa using a)];simp[zab]
theorem zdw (ps:List zan):zab (zep ps)=ps:=by
 induction ps using zhq with
 | h0=>rfl
 | h1 ps p ih=>rw[zhv,znd,ih]
theorem ze4 {l:List Item}{it:Item}{d:Dot}(a:it∈l)(b:d∈it.2):(it.1,d)∈zab l:=List.mem_flatMap.2 ⟨it,a,Qs.2 ⟨d,b,rfl⟩⟩
theorem zf8 (ps:List zan):ps.Pairwise (fun a b=>ltOf cmpP a b=true)->((zep ps).Pairwise fun a b=>ltS a.1 b.1=true)/\∀it∈zep ps,it.2≠[]/\it.2.Pairwise fun a b=>ltOf cmpD a b=true:=by
 induction ps using zhq with
 | h0=>intro _;exact⟨.nil,fun it f=>by cases f⟩
 | h1 ps p ih =>
  intro o;obtain⟨u,-,v⟩:=Qc.1 o;have k:∀q∈ps,ltOf cmpP q p=true:=fun q w=>v q w p (by simp)
  obtain⟨h1,g⟩:=ih u;have m:=zdw ps;rw[zhv];generalize zep ps=l at *;rcases Qn l with rfl|⟨pre,it,rfl⟩
  ·rw[zqj];exact⟨by simp,fun it f=>by simp at f;subst f;simp⟩
  rw[Qo]at *
  by_cases f:it.1=p.1
  ·obtain⟨t,h⟩:=it;obtain⟨s,d⟩:=p;simp only at f;subst f;rw[zhn];obtain⟨y,-,z⟩:=Qc.1 h1;refine⟨Qc.2 ⟨y,by simp,fun a ha b hb=>?_⟩,fun x c=>?_⟩
   ·simp only[Qf]at hb;subst hb;exact z a ha (t,h) (by simp)
   rcases Qh.1 c with c|c
   ·exact g x (Qu _ c)
   simp only[Qf]at c;subst c;refine⟨by simp,Qc.2 ⟨(g (t,h) (by simp)).2,by simp,fun a ha b hb=>?_⟩⟩;simp only[Qf]at hb;subst hb;have e:=k (t,a) (by rw[<- m];exact ze4 (it:=(t,h)) (by simp) ha);rcases cmpP_lt.1 e with e|e
   ·rw[zap]at e;cases e
   exact e.2
  rw[zg3 _ _ _ (by simpa using f)]
  have j:ltS it.1 p.1=true:=by
   obtain⟨n,-⟩:=g it (by simp)
   cases i:it.2
   case nil=>exact absurd i n
   rename_i a r
   have e:=k (it.1,a) (by rw[<- m];exact ze4 (by simp) (by rw[i];simp));rcases cmpP_lt.1 e with e|e
   ·exact e
   exact absurd e.1 f
  refine⟨Qc.2 ⟨h1,by simp,fun a ha b hb=>?_⟩,fun x c=>?_⟩
  ·simp only[Qf]at hb;subst hb;rcases Qh.1 ha with ha|ha
   ·exact zay ((Qc.1 h1).2.2 a ha it (by simp)) j
   simp only[Qf]at ha;subst ha;exact j
  rcases Qh.1 c with c|c
  ·exact g x c
  simp only[Qf]at c;subst c;simp
theorem zcn (l:List Item):zcx l=(zab l).map (·.2):=by
 unfold zcx zab;rw[List.map_flatMap]
 congr 1
 funext it
 simp[Function.comp_def]
theorem zhz {ps:List zan}(e:ps.Nodup):(zco (ltOf cmpP) ps).Pairwise fun a b=>ltOf cmpP a b=true:=by
 have h1:=zdn zhm ps;have d:(zco (ltOf cmpP) ps).Nodup:=(zbq ps).nodup_iff.2 e
 exact(h1.and d).imp fun {a b} c=>by
  rcases zm9 a b with k|k|k
  ·exact k
  ·exact absurd k c.2
  rw[c.1]at k;cases k
theorem zh0 {ps:List zan}(j:(ps.map (·.2)).Nodup)(n:∀p∈ps,OkD p.2)(s:∀p∈ps,p.1.length<=4096):GoodB (za7 ps):=by
 have o:ps.Nodup:=(List.pairwise_map.1 j).imp fun l e=>l (by rw[e])
 have b:=zbq (lt:=ltOf cmpP) ps;obtain⟨h1,m⟩:=zf8 _ (zhz o);have c:=zdw (zco (ltOf cmpP) ps);unfold za7;refine⟨h1,fun it h=>?_,fun d f=>?_,?_⟩
 ·obtain⟨k,t⟩:=m it h;refine⟨?_,k,t⟩
  cases g:it.2 with
  | nil=>exact absurd g k
  | cons a r=>have i:=ze4 h (d:=a) (by rw[g];simp);rw[c]at i;exact s _ (b.mem_iff.1 i)
 ·rw[zcn,c]at f;obtain⟨p,q,rfl⟩:=Qs.1 f;exact n p (b.mem_iff.1 q)
 rw[zcn,c];exact((b.map _).nodup_iff).2 j
theorem zn7 {ps:List zan}{d:Dot}(a:d∈zcx (za7 ps)):∃p∈ps,p.2=d:=by
 rw[zcn]at a;unfold za7 at a;rw[zdw]at a;obtain⟨p,b,e⟩:=Qs.1 a;exact⟨p,(zbq ps).mem_iff.1 b,e⟩
end
end Go.Proofs.YtaabaflgeljbjaaGreat
