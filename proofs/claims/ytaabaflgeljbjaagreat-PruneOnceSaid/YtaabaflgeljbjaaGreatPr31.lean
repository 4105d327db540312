/- Laws. -/
import Derived.Test.YtaabaflgeljbjaaGreatPr05
import Derived.Test.YtaabaflgeljbjaaGreatPr01
import Derived.Test.YtaabaflgeljbjaaGreatPr21
import Derived.Lib.Overlaps
import Derived.Lib.AppendZerosOnto
import Derived.Laws.Externs
import Derived.Shelf.RegionOpenPlain
set_option linter.unusedVariables false
set_option linter.unusedSimpArgs false
set_option maxRecDepth 100000
set_option maxHeartbeats 40000000
namespace Go.Proofs.YtaabaflgeljbjaaGreat
section
open Go.RowKit Go.Shelf
theorem zct {P:Program} {w:World} {dT sT elem T g o dLen dCap sLen sCap k m:Nat} {s:Addr} {a b c cs:List Value} (hu:P.underlying dT=some (.slice elem)) (hs:(P.info? elem).map (·.size)=some k)
  (h:RowIs w g T (a++(b++c)) []) (ho:a.length=o) (hm:m=Nat.min sLen dLen) (hl:cs.length=m * k) (hb:b.length=cs.length) (hsrc:∀ j v,cs[j]? = some v->w.cell? (s.add j)=some v) (h1:∀ v ∈ cs,v.oneCell'=true) (ty:TypeId) :
  (Builtin.copy_ #[dT,sT] ty #[.slice (some ⟨g,o,none⟩) dLen dCap,.slice (some s) sLen sCap]).run P w=.ok (goInt m) (w.setRow g (a++(cs++c)).toArray):=by
 have hl2:=run_loadCells_list (P:=P) w s cs hsrc;unfold RowIs at h;rw [List.append_nil] at h;have hst:=run_storeCells_at P g o T cs 0 _ w h (by simp;omega) h1
 have e:((a++(b++c)).toArray.toList.take (o+0)++cs++(a++(b++c)).toArray.toList.drop (o+0+cs.length))=a++(cs++c):=by
  subst ho;simp only [Nat.add_zero,List.take_left,List.append_assoc]
  congr 2
  rw [List.drop_append,<- hb];simp
 rw [e] at hst
 cases hq:P.info? elem with
 | none=>simp [hq] at hs
 | some i =>
  have hi:i.size=k:=by simpa [hq] using hs
  rw [hl] at hl2;simp [Builtin.copy_,run_underlying hu,Builtin.lenOf,Builtin.firstCells,sizeOf,typeInfo,hq,hi,<- hm,hl2,hst]
theorem zf5 {P:Program} {ops:Array Oper} {o:Oper} {a:Act} {w:World} {K:Act->World->Prop} {Q:Exit->Act->World->Prop} {E:Prop}
  (hg:o.guard=none) (d x:Operand) (dT sT:TypeId) (hop:o.op=Op.call { callee:=Callee.builtin Builtin.copy,args:=#[d,x],argTypes:=#[dT,sT] })
  (v u:Value) (hd:a.eval d=v) (hx:a.eval x=u) {v':Value} {w':World} (hr:(Builtin.copy_ #[dT,sT] o.type #[v,u]).run P w=.ok v' w') (hK:K (a.put o.dst v') w') :
  if Region.wanted o (yielded ops a.tmps)=true then Oper.wp P o a w K Q else E:=by
 have hw:Region.wanted o (yielded ops a.tmps)=true:=by simp [Region.wanted,hg]
 rw [if_pos hw];unfold Oper.wp;simp [execOp,hop,resolve,invoke,builtin,hd,hx,hr,Result.andThen];exact hK
theorem zfw {P:Program} (w:World) {ops:Array Oper} {rest:List Oper} {o:Oper} {a:Act} {Q:Exit->Act->World->Prop} (hgd:o.guard=none) (d s:Operand) (t t':TypeId)
  (ho:o.op=.call { callee:=.builtin .append,args:=#[d,s],argTypes:=#[t,t'] }) (v u:Value) (hd:a.eval d=v) (hs:a.eval s=u) {v':Value} {w':World}
  (hr:(Builtin.append_ #[t,t'] o.type #[v,u]).run P w=.ok v' w') (h:wpList P ops Q rest (a.put o.dst v') w'):wpList P ops Q (o :: rest) a w :=
 wpList_plain hgd fun _ hK=>by unfold Oper.wp execOp;simp only [ho,resolve,invoke,builtin,Sem.run_bind,Sem.run_pure,Result.andThen_ok,List.map_toArray,List.map_cons,List.map_nil,hd,hs,hr];exact hK _ _ h
abbrev zeroEnt:Value:=.agg #[St [],.slice none 0 0,.slice none 0 0,.slice none 0 0,U 0,St [],.bool false]
theorem ziq:(Tryz.prog.info? 46).map (·.size)=some 7:=by
 have:=zc0
 cases h:Tryz.prog.info? 46 with
 | none=>rw [h] at this;simp at this
 | some i=>rw [h] at this;simp at this;simp [this.2.1]
theorem zu0 {base:Nat} {v:Value} {n vb:Nat} {xs ys:List Value} {w:World} (ho:Own w base 46 7 v n xs) (hy:RowIs w vb 46 ys []) (hyl:ys.length=7) (hy1:∀ u ∈ ys,u.oneCell'=true) (hn:n<=549755813888) (hb:base<=w.heap.size) :
  Calls Tryz.prog 88 #[v,I n,.slice (some ⟨vb,0,none⟩) 1 1] w fun r w'=>∃ v',r=.returned v'/\Own w' base 46 7 v' (n+1) (xs++ys)/\Grew w w' v v':=by
 have HS:Src w 7 (some ⟨vb,0,none⟩) 1 ys:=⟨by omega,hy1,fun _=>⟨vb,0,rfl,fun j u hj=>by rw [Nat.zero_add];exact hy.cell hj⟩⟩
 have HO:=zH ho;obtain⟨A,c,rfl,h1,h2⟩:=ho.form;clear ho
 cases A with
 | none =>
  go_enter Tryz.func88,Tryz.ntmps88
  go_wp2_with (at_builtin;refine zal rfl (.tmp 23) (.tmp 24) 23 rfl base 46 7 120 zeroEnt Tryz.underlying23 zc0 rfl (by omega) (.slice none n c) n xs rfl HO.out (some ⟨vb,0,none⟩) 1 1 ys rfl HS (by omega) (by omega) hb ?_;intro v' w' hown hgr)
  go_ret;exact⟨_,rfl,hown,hgr⟩
 | some A =>
  rcases Nat.eq_or_lt_of_le h1 with h3 | h3
  ·subst h3;go_enter Tryz.func88,Tryz.ntmps88
   go_wp2_with (at_builtin;refine zal rfl (.tmp 23) (.tmp 24) 23 rfl base 46 7 120 zeroEnt Tryz.underlying23 zc0 rfl (by omega) (.slice (some A) n n) n xs rfl HO.out (some ⟨vb,0,none⟩) 1 1 ys rfl HS (by omega) (by omega) hb ?_;intro v' w' hown hgr)
   go_ret;exact⟨_,rfl,hown,hgr⟩
  ·have h4:¬ (c=n):=(by omega);go_enter Tryz.func88,Tryz.ntmps88
   go_wp2_with (at_builtin;refine zal rfl (.tmp 23) (.tmp 24) 23 rfl base 46 7 120 zeroEnt Tryz.underlying23 zc0 rfl (by omega) (.slice (some A) n c) n xs rfl HO.out (some ⟨vb,0,none⟩) 1 1 ys rfl HS (by omega) (by omega) hb ?_;intro v' w' hown hgr)
   go_ret;exact⟨_,rfl,hown,hgr⟩
theorem zcq {α:Type} (l:List α) (i:Nat):l.take i++l.drop i=l:=List.take_append_drop i l
theorem zri {base g cap:Nat} {n i vb:Nat} {xs tail ys:List Value} {w:World} (hg:RowIs w g 46 xs tail) (hbg:base<=g) (hx:xs.length=n * 7) (hcap:(xs++tail).length=cap * 7) (hroom:n+1<=cap) (hm:cap<=9223372036854775807)
  (hy:RowIs w vb 46 ys []) (hyl:ys.length=7) (hy1:∀ u ∈ ys,u.oneCell'=true) (hx1:∀ u ∈ xs,u.oneCell'=true) (hi:i < n) (hne:vb ≠ g) :
  Calls Tryz.prog 88 #[.slice (some ⟨g,0,none⟩) n cap,I i,.slice (some ⟨vb,0,none⟩) 1 1] w fun r w'=>∃ v',r=.returned v'/\Own w' base 46 7 v' (n+1) (xs.take (i * 7)++ys++xs.drop (i * 7))/\Grew w w' (.slice (some ⟨g,0,none⟩) n cap) v':=by
 have hT:tail.length=(cap - n) * 7:=by rw [List.length_append,hx] at hcap;omega
 obtain⟨X1,hX1⟩:∃ X1,X1=xs.take (i * 7):=⟨_,rfl⟩
 obtain⟨X2,hX2⟩:∃ X2,X2=xs.drop (i * 7):=⟨_,rfl⟩
 have hX:xs=X1++X2:=by rw [hX1,hX2,zcq]
 have hl1:X1.length=i * 7:=by rw [hX1,List.length_take,hx];omega
 have hl2:X2.length=(n - i) * 7:=by rw [hX2,List.length_drop,hx];omega
 obtain⟨R1,hR1⟩:∃ R1,R1=(X2++tail).take 7:=⟨_,rfl⟩
 obtain⟨R2,hR2⟩:∃ R2,R2=((X2++tail).drop 7).take ((n - i) * 7):=⟨_,rfl⟩
 obtain⟨R3,hR3⟩:∃ R3,R3=((X2++tail).drop 7).drop ((n - i) * 7):=⟨_,rfl⟩
 have hR:xs++tail=(X1++R1)++(R2++R3):=by rw [hX,hR1,hR2,hR3,zcq,List.append_assoc,List.append_assoc,zcq]
 have hlR1:R1.length=7:=by rw [hR1,List.length_take,List.length_append,hl2,hT];omega
 have hlR2:R2.length=(n - i) * 7:=by rw [hR2,List.length_take,List.length_drop,List.length_append,hl2,hT];omega
 have hg1:RowIs w g 46 ((X1++R1)++(R2++R3)) []:=by unfold RowIs at hg ⊢;rw [List.append_nil,<- hR];exact hg
 obtain⟨N1,hN1⟩:∃ N1,N1=((X1++R1)++(X2++R3)).toArray:=⟨_,rfl⟩
 obtain⟨N2,hN2⟩:∃ N2,N2=(X1++(ys++(X2++R3))).toArray:=⟨_,rfl⟩
 obtain⟨W2,hW2⟩:∃ W2,W2=w.setRow g N1:=⟨_,rfl⟩
 have hg2:RowIs W2 g 46 (X1++(R1++(X2++R3))) []:=by have:=hg1.setRow ((X1++R1)++(X2++R3));rw [List.append_nil] at this;rw [hW2,hN1,show X1++(R1++(X2++R3))=(X1++R1)++(X2++R3) from (List.append_assoc _ _ _).symm];exact this
 have hy2:RowIs W2 vb 46 ys []:=hy.keep (by rw [hW2];exact setRow_other w g vb _ hne);obtain⟨W3,hW3⟩:∃ W3,W3=W2.setRow g N2:=⟨_,rfl⟩
 have hg3:RowIs W3 g 46 (X1++(ys++(X2++R3))) []:=by have:=hg2.setRow (X1++(ys++(X2++R3)));rw [List.append_nil] at this;rw [hW3,hN2];exact this
 have hx2c:∀ u ∈ X2,u.oneCell'=true:=fun u hu=>hx1 u (by rw [hX];simp [hu])
 have hcpA:∀ (W:World),W.heap=w.heap->∀ ty dc sc,(Builtin.copy_ #[23,23] ty #[.slice (some ⟨g,(i+1) * 7,none⟩) (n - i) dc,.slice (some ⟨g,i * 7,none⟩) (n+1 - i) sc]).run Tryz.prog W=.ok (goInt ((n - i:Nat):Int)) (W.setRow g N1):=fun W hW ty dc sc=>hN1 ▸
  zct (sT:=23) (m:=n - i) (o:=(i+1) * 7) (dLen:=n - i) (dCap:=dc) (sLen:=n+1 - i) (sCap:=sc) (s:=⟨g,i * 7,none⟩) (cs:=X2) (c:=R3) (k:=7) Tryz.underlying23 ziq (show RowIs W g 46 ((X1++R1)++(R2++R3)) [] by unfold RowIs at hg1 ⊢;rw [hW];exact hg1) (by rw [List.length_append,hl1,hlR1,Nat.add_mul])
   (by simp only [Nat.min_def];split <;> omega) hl2 (by rw [hlR2,hl2]) (fun j u hj=>by
    rw [zdg];have hg1':RowIs W g 46 xs tail:=(by unfold RowIs at hg ⊢;rw [hW];exact hg);refine hg1'.cell ?_;rw [hX,List.getElem?_append_right (by omega),hl1]
    rwa [show i * 7+j - i * 7=j by omega]) hx2c ty
 have hcpB:∀ (W:World),W.heap=W2.heap->∀ ty dc sc,(Builtin.copy_ #[23,23] ty #[.slice (some ⟨g,i * 7,none⟩) (n+1 - i) dc,.slice (some ⟨vb,0,none⟩) 1 sc]).run Tryz.prog W=.ok (goInt 1) (W.setRow g N2):=fun W hW ty dc sc=>hN2 ▸
  zct (sT:=23) (m:=1) (o:=i * 7) (dLen:=n+1 - i) (dCap:=dc) (sLen:=1) (sCap:=sc) (s:=⟨vb,0,none⟩) (cs:=ys) (c:=X2++R3) (k:=7) Tryz.underlying23 ziq (show RowIs W g 46 (X1++(R1++(X2++R3))) [] by unfold RowIs at hg2 ⊢;rw [hW];exact hg2) hl1
   (by simp only [Nat.min_def];split <;> omega) (by omega) (by omega) (fun j u hj=>by rw [zdg,Nat.zero_add];have hy2':RowIs W vb 46 ys []:=(by unfold RowIs at hy2 ⊢;rw [hW];exact hy2);exact hy2'.cell hj) hy1 ty
 have hov:∀ (W:World) lb cb,W.heap=w.heap->(callFunc 137 #[.slice (some ⟨vb,0,none⟩) 1 1,.slice (some ⟨g,(i+1) * 7,none⟩) lb cb]).run Tryz.prog W=.ok (.value (.bool false)) W:=fun W lb cb hW=>by
  have s1:W.heap[vb]? = some (.cells (ys++[]).toArray 46 (0,0)):=by rw [hW];exact hy
  have s2:W.heap[g]? = some (.cells (xs++tail).toArray 46 (0,0)):=by rw [hW];exact hg
  rw [run_callFunc_extern Tryz.func137 (by kernel_rfl) (by kernel_rfl) (by kernel_rfl) (e:=Extern.SlicesOverlaps.overlaps #[23,23] #[4]) (by kernel_rfl),
   Lib.run_overlaps_apart W 23 4 46 Tryz.underlying23 7 (fun w=>Tryz.sizeOf46 w) ⟨vb,0,none⟩ ⟨g,(i+1) * 7,none⟩ 1 1 lb cb hne 46 46 7 (cap * 7) (by simp [World.shape?,s1,hyl]) (by simp [World.shape?,s2,<- hcap]) (by omega) (by simp [World.frozen?,s1]) (by simp [World.frozen?,s1])]
  rfl
 have mixed:Tryz.prog.follows .mixedOrders=true:=rfl;have hz1:¬ ((i:Int)=(n:Int)):=by omega
 have hz2:¬ ((n:Int)+1 > (cap:Int)):=by omega
 have hw1:IntKind.i64.wrap ((i:Int)+1)=(i:Int)+1:=by rw [IntKind.wrap_i64];omega
 have hw2:IntKind.i64.wrap ((n:Int)+1)=(n:Int)+1:=by rw [IntKind.wrap_i64];omega
 have hb1:(i:Int)<=(n:Int)+1:=by omega
 have hc1:¬ (cap=i):=by omega
 have hc2:¬ (cap=i+1):=by omega
 have hb5:(n:Int)+1<=(cap:Int):=by omega
 have htn:((i:Int)+1).toNat=i+1:=by omega
 have hb6:(0:Int)<=(i:Int)+1:=by omega
 have hin:i<=n:=by omega
 have hout:Own W3 base 46 7 (.slice (some ⟨g,0,none⟩) (n+1) cap) (n+1) (X1++ys++X2) :=
  hg3.own hbg hroom hm (by
   have h0:=congrArg List.length hR;simp only [List.length_append,List.length_nil] at h0 hcap ⊢
   omega) (by
   rw [<- List.append_assoc,<- List.append_assoc];have:(X1++ys++X2).length=(n+1) * 7:=by simp only [List.length_append];omega
   rw [<- this,List.take_left]) (by simp only [List.length_append];omega)
 have hgr:Grew w W3 (.slice (some ⟨g,0,none⟩) n cap) (.slice (some ⟨g,0,none⟩) (n+1) cap):=by
  have hb:zad (.slice (some ⟨g,0,none⟩) n cap) g:=⟨g,n,cap,rfl,by omega,rfl⟩
  rw [hW3,hW2];exact⟨rfl,rfl,rfl,by simp [World.setRow],fun b hb' hn=>((setRow_other _ g b _ (fun e=>hn (by subst e;exact hb))).trans (setRow_other w g b _ (fun e=>hn (by subst e;exact hb)))),fun b ⟨g',n',c',e,hc,e2⟩=>by cases e;exact .inl ⟨_,_,_,rfl,hc,e2⟩⟩
 rw [<- hX1,<- hX2];have HO:=zH hout;have HG:=zH hgr;clear hN1 hN2 hout hgr hX1 hX2 hX hl1 hl2 hR hR1 hR2 hR3 hlR1 hlR2 hg1 hg2 hg3 hy2 hx2c hT hcap hx hx1 hy1 hyl hy hg;go_enter Tryz.func88,Tryz.ntmps88
 go_wp2_with (first | simp only [hov] | fail)
 go_region_law_o (refine zf5 rfl _ _ 23 23 rfl (.slice (some ⟨g,(i+1) * 7,none⟩) (n - i) (cap - (i+1))) (.slice (some ⟨g,i * 7,none⟩) (n+1 - i) (cap - i)) (by simp [Act.eval,Act.put]) (by simp [Act.eval,Act.put]) (hcpA w.drew rfl _ _ _) ?_)
 have hB:=hcpB (w.drew.setRow g N1) (by rw [hW2];rfl) 3 (cap - i) 1;go_wp2_with fail;go_ret;subst hW3;subst hW2;exact⟨_,rfl,HO.out.keep (fun b _ _=>rfl),⟨HG.out.os,HG.out.tape,HG.out.output,HG.out.size,HG.out.same,HG.out.blk⟩⟩
theorem zs2 {base g cap:Nat} {n i vb:Nat} {xs tail ys:List Value} {w:World} (hg:RowIs w g 46 xs tail) (hb:base<=w.heap.size) (hx:xs.length=n * 7) (hnc:n<=cap) (hroom:cap < n+1) (hn:n<=549755813888)
  (hy:RowIs w vb 46 ys []) (hyl:ys.length=7) (hy1:∀ u ∈ ys,u.oneCell'=true) (hx1:∀ u ∈ xs,u.oneCell'=true) (hi:i < n) (v:Value) :
  Calls Tryz.prog 88 #[.slice (some ⟨g,0,none⟩) n cap,I i,.slice (some ⟨vb,0,none⟩) 1 1] w fun r w'=>∃ v',r=.returned v'/\Own w' base 46 7 v' (n+1) (xs.take (i * 7)++ys++xs.drop (i * 7))/\Grew w w' v v':=by
 obtain⟨i0,hi0,hz0,hzs,hzb⟩:=info_parts zc0;have hsl:(xs.take (i * 7)).length=i * 7:=by rw [List.length_take,hx];omega
 have hold:(Builtin.firstCells i0.size i (.slice (some ⟨g,0,none⟩) i cap)).run Tryz.prog w.drew=.ok (xs.take (i * 7)).toArray w.drew:=by
  rw [hzs]
  exact run_firstCells_some w.drew 7 i ⟨g,0,none⟩ i cap (xs.take (i * 7)) hsl (fun j u hj=>by
   rw [zdg,Nat.zero_add];rw [List.getElem?_take] at hj
   split at hj
   ·exact hg.cell hj
   ·cases hj)
 obtain⟨G,hG⟩:∃ G,G=grownCap w (n+1) cap 46:=⟨_,rfl⟩
 have hGn:n+1<=G:=by rw [hG];exact grownCap_ge w _ _ _
 have hG63:G<=9223372036854775807:=by have:=grownCap_le_maxLen w (n+1) cap 46 (by unfold maxLen;omega);rw [<- hG] at this;unfold maxLen at this;omega
 obtain⟨Z,hZ⟩:∃ Z:List Value,Z=(Builtin.zeroCells zeroEnt.cells (n+1 - i)++Builtin.zeroCells zeroEnt.cells (G - (n+1))).toList:=⟨_,rfl⟩
 have hZl:Z.length=(G - i) * 7:=by rw [hZ];have:zeroEnt.cells.size=7:=rfl;simp only [Array.length_toList,Array.size_append,size_zeroCells,this];omega
 have hrz:∀ ty,(Builtin.append_ #[23,3] ty #[.slice (some ⟨g,0,none⟩) i cap,.int .i64 ((n:Int)+1 - (i:Int))]).run Tryz.prog w =
   .ok (.slice (some ⟨w.heap.size,0,none⟩) (n+1) G) (w.drew.alloc (.cells (xs.take (i * 7)++Z).toArray 46)):=fun ty=>by
  have hik:i+(n+1 - i)=n+1:=by omega
  have h:=Lib.run_append_grow_zeros w 23 3 ty 46 i0 _ .i64 .i64 Tryz.underlying23 Tryz.underlying3 hi0 hz0 (some ⟨g,0,none⟩) i cap (xs.take (i * 7)) hold (n+1 - i) (by omega) (by omega) (by omega) (by omega) (by rw [hzb];omega) (by rw [hzb,hik];exact growslice_fits hroom (by omega));rw [hik,<- hG] at h;rw [show ((n:Int)+1 - (i:Int))=((n+1 - i:Nat):Int) by omega,h]
  congr 4
  rw [hZ]
  apply Array.ext'
  simp
 obtain⟨X1,hX1⟩:∃ X1,X1=xs.take (i * 7):=⟨_,rfl⟩
 obtain⟨X2,hX2⟩:∃ X2,X2=xs.drop (i * 7):=⟨_,rfl⟩
 have hX:xs=X1++X2:=by rw [hX1,hX2,zcq]
 rw [<- hX1] at hsl hrz;have hl2:X2.length=(n - i) * 7:=by rw [hX2,List.length_drop,hx];omega
 obtain⟨R1,hR1⟩:∃ R1,R1=Z.take 7:=⟨_,rfl⟩
 obtain⟨R2,hR2⟩:∃ R2,R2=(Z.drop 7).take ((n - i) * 7):=⟨_,rfl⟩
 obtain⟨R3,hR3⟩:∃ R3,R3=(Z.drop 7).drop ((n - i) * 7):=⟨_,rfl⟩
 have hR:Z=R1++(R2++R3):=by rw [hR1,hR2,hR3,zcq,zcq]
 have hlR1:R1.length=7:=by rw [hR1,List.length_take];omega
 have hlR2:R2.length=(n - i) * 7:=by rw [hR2,List.length_take,List.length_drop];omega
 obtain⟨N0,hN0⟩:∃ N0,N0=(X1++Z).toArray:=⟨_,rfl⟩
 obtain⟨N1,hN1⟩:∃ N1,N1=(X1++(ys++(R2++R3))).toArray:=⟨_,rfl⟩
 obtain⟨N2,hN2⟩:∃ N2,N2=((X1++ys)++(X2++R3)).toArray:=⟨_,rfl⟩
 rw [<- hN0] at hrz;obtain⟨W1,hW1⟩:∃ W1,W1=w.drew.alloc (.cells N0 46):=⟨_,rfl⟩
 have hg1:RowIs W1 w.heap.size 46 (X1++(R1++(R2++R3))) []:=by unfold RowIs;rw [List.append_nil,hW1,hN0,hR];exact Go.heap_alloc_new w.drew _
 have hx1':Ext w W1:=by rw [hW1];exact (Ext.refl w).drew.alloc _
 have hy1':=hy.ext hx1';have hgo:=hg.ext hx1';have hgl:=hg.lt;have hyl2:=hy.lt;obtain⟨W2,hW2⟩:∃ W2,W2=W1.setRow w.heap.size N1:=⟨_,rfl⟩
 have hg2:RowIs W2 w.heap.size 46 ((X1++ys)++(R2++R3)) []:=by have:=hg1.setRow (X1++(ys++(R2++R3)));rw [List.append_nil] at this;rw [hW2,hN1,show (X1++ys)++(R2++R3)=X1++(ys++(R2++R3)) from List.append_assoc _ _ _];exact this
 have hgo2:RowIs W2 g 46 xs tail:=hgo.keep (by rw [hW2];exact setRow_other W1 _ g _ (by omega));obtain⟨W3,hW3⟩:∃ W3,W3=W2.setRow w.heap.size N2:=⟨_,rfl⟩
 have hg3:RowIs W3 w.heap.size 46 ((X1++ys)++(X2++R3)) []:=by have:=hg2.setRow ((X1++ys)++(X2++R3));rw [List.append_nil] at this;rw [hW3,hN2];exact this
 have hx2c:∀ u ∈ X2,u.oneCell'=true:=fun u hu=>hx1 u (by rw [hX];simp [hu])
 have hcpA:∀ (W:World),W.heap=W1.heap->∀ ty dc sc,(Builtin.copy_ #[23,23] ty #[.slice (some ⟨w.heap.size,i * 7,none⟩) (n+1 - i) dc,.slice (some ⟨vb,0,none⟩) 1 sc]).run Tryz.prog W=.ok (goInt 1) (W.setRow w.heap.size N1):=fun W hW ty dc sc=>hN1 ▸
  zct (sT:=23) (m:=1) (o:=i * 7) (dLen:=n+1 - i) (dCap:=dc) (sLen:=1) (sCap:=sc) (s:=⟨vb,0,none⟩) (cs:=ys) (c:=R2++R3) (k:=7) Tryz.underlying23 ziq (show RowIs W w.heap.size 46 (X1++(R1++(R2++R3))) [] by unfold RowIs at hg1 ⊢;rw [hW];exact hg1) hsl
   (by simp only [Nat.min_def];split <;> omega) (by omega) (by omega) (fun j u hj=>by rw [zdg,Nat.zero_add];have hy2':RowIs W vb 46 ys []:=(by unfold RowIs at hy1' ⊢;rw [hW];exact hy1');exact hy2'.cell hj) hy1 ty
 have hcpB:∀ (W:World),W.heap=W2.heap->∀ ty dc sc,(Builtin.copy_ #[23,23] ty #[.slice (some ⟨w.heap.size,(i+1) * 7,none⟩) (n - i) dc,.slice (some ⟨g,i * 7,none⟩) (n - i) sc]).run Tryz.prog W=.ok (goInt ((n - i:Nat):Int)) (W.setRow w.heap.size N2):=fun W hW ty dc sc=>hN2 ▸
  zct (sT:=23) (m:=n - i) (o:=(i+1) * 7) (dLen:=n - i) (dCap:=dc) (sLen:=n - i) (sCap:=sc) (s:=⟨g,i * 7,none⟩) (cs:=X2) (c:=R3) (k:=7) Tryz.underlying23 ziq (show RowIs W w.heap.size 46 ((X1++ys)++(R2++R3)) [] by unfold RowIs at hg2 ⊢;rw [hW];exact hg2) (by rw [List.length_append,hsl,hyl,Nat.add_mul])
   (by simp only [Nat.min_def];split <;> omega) hl2 (by rw [hlR2,hl2]) (fun j u hj=>by
    rw [zdg];have hg1':RowIs W g 46 xs tail:=(by unfold RowIs at hgo2 ⊢;rw [hW];exact hgo2);refine hg1'.cell ?_;rw [hX,List.getElem?_append_right (by omega),hsl]
    rwa [show i * 7+j - i * 7=j by omega]) hx2c ty
 have mixed:Tryz.prog.follows .mixedOrders=true:=rfl;have hz1:¬ ((i:Int)=(n:Int)):=by omega
 have hz2:(cap:Int) < (n:Int)+1:=by omega
 have hw1:IntKind.i64.wrap ((i:Int)+1)=(i:Int)+1:=by rw [IntKind.wrap_i64];omega
 have hw2:IntKind.i64.wrap ((n:Int)+1)=(n:Int)+1:=by rw [IntKind.wrap_i64];omega
 have hw3:IntKind.i64.wrap ((n:Int)+1 - (i:Int))=(n:Int)+1 - (i:Int):=by rw [IntKind.wrap_i64];omega
 have hb1:(i:Int)<=(n:Int)+1:=by omega
 have hin:i<=n:=by omega
 have hci:¬ (cap=i):=by omega
 have hc1:¬ (G=i):=by omega
 have hc2:¬ (G=i+1):=by omega
 have hb5:(n:Int)+1<=(G:Int):=by omega
 have htn:((i:Int)+1).toNat=i+1:=by omega
 have hb6:(0:Int)<=(i:Int)+1:=by omega
 have hb7:(i:Int)<=(cap:Int):=by omega
 have hout:Own W3 base 46 7 (.slice (some ⟨w.heap.size,0,none⟩) (n+1) G) (n+1) (X1++ys++X2) :=
  hg3.own hb hGn hG63 (by
   have h0:=congrArg List.length hR;simp only [List.length_append,List.length_nil] at h0 ⊢
   omega) (by
   rw [<- List.append_assoc];have:(X1++ys++X2).length=(n+1) * 7:=by simp only [List.length_append];omega
   rw [<- this,List.take_left]) (by simp only [List.length_append];omega)
 have hgr:Grew w W3 v (.slice (some ⟨w.heap.size,0,none⟩) (n+1) G):=by
  rw [hW3,hW2];refine ⟨?_,?_,?_,?_,?_,fun b ⟨g',n',c',e,hc,e2⟩=>by cases e;exact .inr e2⟩
  ·exact hx1'.os
  ·exact hx1'.tape
  ·exact hx1'.output
  ·have:=hx1'.size
   simpa [World.setRow] using this
  ·intro b hb' _;exact ((setRow_other _ _ b _ (by omega)).trans (setRow_other W1 _ b _ (by omega))).trans (hx1'.block b hb')
 rw [<- hX1,<- hX2];have HO:=zH hout;have HG:=zH hgr;have hA:=hcpA (w.alloc (.cells N0 46)).drew (by rw [hW1];rfl) 3 (G - i) 1;have hA2:=hcpA (w.drew.alloc (.cells N0 46)) (by rw [hW1]) 3 (G - i) 1;clear hN1 hN2 hN0 hout hgr hX1 hX2 hX hsl hl2 hR hR1 hR2 hR3 hlR1 hlR2 hg1 hg2 hg3 hgo hgo2 hx1' hy1' hx2c hx hx1 hy1 hyl hy hg hZ hZl hG hold hi0 hz0 hzs hzb hcpA;go_enter Tryz.func88,Tryz.ntmps88
 go_wp2_with (at_builtin;refine zfw _ rfl _ _ 23 3 rfl _ _ rfl rfl (hrz _) ?_;clear hrz)
 go_region_law_o (refine zf5 rfl _ _ 23 23 rfl (.slice (some ⟨w.heap.size,(i+1) * 7,none⟩) (n - i) (G - (i+1))) (.slice (some ⟨g,i * 7,none⟩) (n - i) (cap - i)) (by simp [Act.eval,Act.put]) (by simp [Act.eval,Act.put]) (hcpB ((w.alloc (.cells N0 46)).drew.setRow w.heap.size N1).drew (by rw [hW2,hW1];rfl) _ _ _) ?_)
 go_wp2_with fail;go_ret;subst hW3;subst hW2;subst hW1;exact⟨_,rfl,HO.out.keep (fun b _ _=>rfl),⟨HG.out.os,HG.out.tape,HG.out.output,HG.out.size,HG.out.same,HG.out.blk⟩⟩
theorem zs3 {base:Nat} {v:Value} {n i vb:Nat} {xs ys:List Value} {w:World} (ho:Own w base 46 7 v n xs) (hy:RowIs w vb 46 ys []) (hyl:ys.length=7) (hy1:∀ u ∈ ys,u.oneCell'=true) (hx1:∀ u ∈ xs,u.oneCell'=true) (hi:i<=n) (hn:n<=549755813888) (hb:base<=w.heap.size) (hne:¬ zad v vb) :
  Calls Tryz.prog 88 #[v,I i,.slice (some ⟨vb,0,none⟩) 1 1] w fun r w'=>∃ v',r=.returned v'/\Own w' base 46 7 v' (n+1) (xs.take (i * 7)++ys++xs.drop (i * 7))/\Grew w w' v v':=by
 rcases Nat.eq_or_lt_of_le hi with rfl | hi'
 ·have:=zu0 ho hy hyl hy1 hn hb;rw [<- ho.1,List.take_length,List.drop_length,List.append_nil];exact this
 ·obtain⟨g,cap,tail,rfl,hbg,hg,hc,hm,hl⟩:=ho.row (by omega)
  by_cases hroom:n+1<=cap
  ·exact zri hg hbg ho.1 hl hroom hm hy hyl hy1 hx1 hi' (fun e=>hne ⟨g,n,cap,rfl,by omega,e⟩)
  ·exact zs2 hg hb ho.1 hc (by omega) hn hy hyl hy1 hx1 hi' _
theorem zla:(Tryz.prog.info? 9).map (·.size)=some 1:=by
 have:=zd7
 cases h:Tryz.prog.info? 9 with
 | none=>rw [h] at this;simp at this
 | some i=>rw [h] at this;simp at this;simp [this.2.1]
theorem ztj {base:Nat} {v:Value} {n vb:Nat} {xs ys:List Value} {w:World} (ho:Own w base 9 1 v n xs) (hy:RowIs w vb 9 ys []) (hyl:ys.length=1) (hy1:∀ u ∈ ys,u.oneCell'=true) (hn:n<=549755813888) (hb:base<=w.heap.size) :
  Calls Tryz.prog 43 #[v,I n,.slice (some ⟨vb,0,none⟩) 1 1] w fun r w'=>∃ v',r=.returned v'/\Own w' base 9 1 v' (n+1) (xs++ys)/\Grew w w' v v':=by
 have HS:Src w 1 (some ⟨vb,0,none⟩) 1 ys:=⟨by omega,hy1,fun _=>⟨vb,0,rfl,fun j u hj=>by rw [Nat.zero_add];exact hy.cell hj⟩⟩
 have HO:=zH ho;obtain⟨A,c,rfl,h1,h2⟩:=ho.form;clear ho
 cases A with
 | none =>
  go_enter Tryz.func43,Tryz.ntmps43
  go_wp2_with (at_builtin;refine zal rfl (.tmp 23) (.tmp 24) 24 rfl base 9 1 16 (St []) Tryz.underlying24 zd7 rfl (by omega) (.slice none n c) n xs rfl HO.out (some ⟨vb,0,none⟩) 1 1 ys rfl HS (by omega) (by omega) hb ?_;intro v' w' hown hgr)
  go_ret;exact⟨_,rfl,hown,hgr⟩
 | some A =>
  rcases Nat.eq_or_lt_of_le h1 with h3 | h3
  ·subst h3;go_enter Tryz.func43,Tryz.ntmps43
   go_wp2_with (at_builtin;refine zal rfl (.tmp 23) (.tmp 24) 24 rfl base 9 1 16 (St []) Tryz.underlying24 zd7 rfl (by omega) (.slice (some A) n n) n xs rfl HO.out (some ⟨vb,0,none⟩) 1 1 ys rfl HS (by omega) (by omega) hb ?_;intro v' w' hown hgr)
   go_ret;exact⟨_,rfl,hown,hgr⟩
  ·have h4:¬ (c=n):=(by omega);go_enter Tryz.func43,Tryz.ntmps43
   go_wp2_with (at_builtin;refine zal rfl (.tmp 23) (.tmp 24) 24 rfl base 9 1 16 (St []) Tryz.underlying24 zd7 rfl (by omega) (.slice (some A) n c) n xs rfl HO.out (some ⟨vb,0,none⟩) 1 1 ys rfl HS (by omega) (by omega) hb ?_;intro v' w' hown hgr)
   go_ret;exact⟨_,rfl,hown,hgr⟩
theorem zqs {base g cap:Nat} {n i vb:Nat} {xs tail ys:List Value} {w:World} (hg:RowIs w g 9 xs tail) (hbg:base<=g) (hx:xs.length=n) (hcap:(xs++tail).length=cap) (hroom:n+1<=cap) (hm:cap<=9223372036854775807)
  (hy:RowIs w vb 9 ys []) (hyl:ys.length=1) (hy1:∀ u ∈ ys,u.oneCell'=true) (hx1:∀ u ∈ xs,u.oneCell'=true) (hi:i < n) (hne:vb ≠ g) :
  Calls Tryz.prog 43 #[.slice (some ⟨g,0,none⟩) n cap,I i,.slice (some ⟨vb,0,none⟩) 1 1] w fun r w'=>∃ v',r=.returned v'/\Own w' base 9 1 v' (n+1) (xs.take (i)++ys++xs.drop (i))/\Grew w w' (.slice (some ⟨g,0,none⟩) n cap) v':=by
 have hT:tail.length=(cap - n):=by rw [List.length_append,hx] at hcap;omega
 obtain⟨X1,hX1⟩:∃ X1,X1=xs.take (i):=⟨_,rfl⟩
 obtain⟨X2,hX2⟩:∃ X2,X2=xs.drop (i):=⟨_,rfl⟩
 have hX:xs=X1++X2:=by rw [hX1,hX2,zcq]
 have hl1:X1.length=i:=by rw [hX1,List.length_take,hx];omega
 have hl2:X2.length=(n - i):=by rw [hX2,List.length_drop,hx]
 obtain⟨R1,hR1⟩:∃ R1,R1=(X2++tail).take 1:=⟨_,rfl⟩
 obtain⟨R2,hR2⟩:∃ R2,R2=((X2++tail).drop 1).take ((n - i)):=⟨_,rfl⟩
 obtain⟨R3,hR3⟩:∃ R3,R3=((X2++tail).drop 1).drop ((n - i)):=⟨_,rfl⟩
 have hR:xs++tail=(X1++R1)++(R2++R3):=by rw [hX,hR1,hR2,hR3,zcq,List.append_assoc,List.append_assoc,zcq]
 have hlR1:R1.length=1:=by rw [hR1,List.length_take,List.length_append,hl2,hT];omega
 have hlR2:R2.length=(n - i):=by rw [hR2,List.length_take,List.length_drop,List.length_append,hl2,hT];omega
 have hg1:RowIs w g 9 ((X1++R1)++(R2++R3)) []:=by unfold RowIs at hg ⊢;rw [List.append_nil,<- hR];exact hg
 obtain⟨N1,hN1⟩:∃ N1,N1=((X1++R1)++(X2++R3)).toArray:=⟨_,rfl⟩
 obtain⟨N2,hN2⟩:∃ N2,N2=(X1++(ys++(X2++R3))).toArray:=⟨_,rfl⟩
 obtain⟨W2,hW2⟩:∃ W2,W2=w.setRow g N1:=⟨_,rfl⟩
 have hg2:RowIs W2 g 9 (X1++(R1++(X2++R3))) []:=by have:=hg1.setRow ((X1++R1)++(X2++R3));rw [List.append_nil] at this;rw [hW2,hN1,show X1++(R1++(X2++R3))=(X1++R1)++(X2++R3) from (List.append_assoc _ _ _).symm];exact this
 have hy2:RowIs W2 vb 9 ys []:=hy.keep (by rw [hW2];exact setRow_other w g vb _ hne);obtain⟨W3,hW3⟩:∃ W3,W3=W2.setRow g N2:=⟨_,rfl⟩
 have hg3:RowIs W3 g 9 (X1++(ys++(X2++R3))) []:=by have:=hg2.setRow (X1++(ys++(X2++R3)));rw [List.append_nil] at this;rw [hW3,hN2];exact this
 have hx2c:∀ u ∈ X2,u.oneCell'=true:=fun u hu=>hx1 u (by rw [hX];simp [hu])
 have hcpA:∀ (W:World),W.heap=w.heap->∀ ty dc sc,(Builtin.copy_ #[24,24] ty #[.slice (some ⟨g,(i+1),none⟩) (n - i) dc,.slice (some ⟨g,i,none⟩) (n+1 - i) sc]).run Tryz.prog W=.ok (goInt ((n - i:Nat):Int)) (W.setRow g N1):=fun W hW ty dc sc=>hN1 ▸
  zct (sT:=24) (m:=n - i) (o:=(i+1)) (dLen:=n - i) (dCap:=dc) (sLen:=n+1 - i) (sCap:=sc) (s:=⟨g,i,none⟩) (cs:=X2) (c:=R3) (k:=1) Tryz.underlying24 zla (show RowIs W g 9 ((X1++R1)++(R2++R3)) [] by unfold RowIs at hg1 ⊢;rw [hW];exact hg1) (by rw [List.length_append,hl1,hlR1])
   (by simp only [Nat.min_def];split <;> omega) (by omega) (by rw [hlR2,hl2]) (fun j u hj=>by
    rw [zdg];have hg1':RowIs W g 9 xs tail:=(by unfold RowIs at hg ⊢;rw [hW];exact hg);refine hg1'.cell ?_;rw [hX,List.getElem?_append_right (by omega),hl1]
    rwa [show i+j - i=j by omega]) hx2c ty
 have hcpB:∀ (W:World),W.heap=W2.heap->∀ ty dc sc,(Builtin.copy_ #[24,24] ty #[.slice (some ⟨g,i,none⟩) (n+1 - i) dc,.slice (some ⟨vb,0,none⟩) 1 sc]).run Tryz.prog W=.ok (goInt 1) (W.setRow g N2):=fun W hW ty dc sc=>hN2 ▸
  zct (sT:=24) (m:=1) (o:=i) (dLen:=n+1 - i) (dCap:=dc) (sLen:=1) (sCap:=sc) (s:=⟨vb,0,none⟩) (cs:=ys) (c:=X2++R3) (k:=1) Tryz.underlying24 zla (show RowIs W g 9 (X1++(R1++(X2++R3))) [] by unfold RowIs at hg2 ⊢;rw [hW];exact hg2) hl1
   (by simp only [Nat.min_def];split <;> omega) (by omega) (by omega) (fun j u hj=>by rw [zdg,Nat.zero_add];have hy2':RowIs W vb 9 ys []:=(by unfold RowIs at hy2 ⊢;rw [hW];exact hy2);exact hy2'.cell hj) hy1 ty
 have hov:∀ (W:World) lb cb,W.heap=w.heap->(callFunc 96 #[.slice (some ⟨vb,0,none⟩) 1 1,.slice (some ⟨g,(i+1),none⟩) lb cb]).run Tryz.prog W=.ok (.value (.bool false)) W:=fun W lb cb hW=>by
  have s1:W.heap[vb]? = some (.cells (ys++[]).toArray 9 (0,0)):=by rw [hW];exact hy
  have s2:W.heap[g]? = some (.cells (xs++tail).toArray 9 (0,0)):=by rw [hW];exact hg
  rw [run_callFunc_extern Tryz.func96 (by kernel_rfl) (by kernel_rfl) (by kernel_rfl) (e:=Extern.SlicesOverlaps.overlaps #[24,24] #[4]) (by kernel_rfl),
   Lib.run_overlaps_apart W 24 4 9 Tryz.underlying24 1 (fun w=>Tryz.sizeOf9 w) ⟨vb,0,none⟩ ⟨g,(i+1),none⟩ 1 1 lb cb hne 9 9 1 cap (by simp [World.shape?,s1,hyl]) (by simp [World.shape?,s2,<- hcap]) (by omega) (by simp [World.frozen?,s1]) (by simp [World.frozen?,s1])]
  rfl
 have mixed:Tryz.prog.follows .mixedOrders=true:=rfl;have hz1:¬ ((i:Int)=(n:Int)):=by omega
 have hz2:¬ ((n:Int)+1 > (cap:Int)):=by omega
 have hw1:IntKind.i64.wrap ((i:Int)+1)=(i:Int)+1:=by rw [IntKind.wrap_i64];omega
 have hw2:IntKind.i64.wrap ((n:Int)+1)=(n:Int)+1:=by rw [IntKind.wrap_i64];omega
 have hb1:(i:Int)<=(n:Int)+1:=by omega
 have hc1:¬ (cap=i):=by omega
 have hc2:¬ (cap=i+1):=by omega
 have hb5:(n:Int)+1<=(cap:Int):=by omega
 have htn:((i:Int)+1).toNat=i+1:=by omega
 have hb6:(0:Int)<=(i:Int)+1:=by omega
 have hin:i<=n:=by omega
 have hout:Own W3 base 9 1 (.slice (some ⟨g,0,none⟩) (n+1) cap) (n+1) (X1++ys++X2) :=
  hg3.own hbg hroom hm (by
   have h0:=congrArg List.length hR;simp only [List.length_append,List.length_nil] at h0 hcap ⊢
   omega) (by
   rw [<- List.append_assoc,<- List.append_assoc];have:(X1++ys++X2).length=(n+1):=by simp only [List.length_append];omega
   rw [Nat.mul_one,<- this,List.take_left]) (by simp only [List.length_append];omega)
 have hgr:Grew w W3 (.slice (some ⟨g,0,none⟩) n cap) (.slice (some ⟨g,0,none⟩) (n+1) cap):=by
  have hb:zad (.slice (some ⟨g,0,none⟩) n cap) g:=⟨g,n,cap,rfl,by omega,rfl⟩
  rw [hW3,hW2];exact⟨rfl,rfl,rfl,by simp [World.setRow],fun b hb' hn=>((setRow_other _ g b _ (fun e=>hn (by subst e;exact hb))).trans (setRow_other w g b _ (fun e=>hn (by subst e;exact hb)))),fun b ⟨g',n',c',e,hc,e2⟩=>by cases e;exact .inl ⟨_,_,_,rfl,hc,e2⟩⟩
 rw [<- hX1,<- hX2];have HO:=zH hout;have HG:=zH hgr;clear hN1 hN2 hout hgr hX1 hX2 hX hl1 hl2 hR hR1 hR2 hR3 hlR1 hlR2 hg1 hg2 hg3 hy2 hx2c hT hcap hx hx1 hy1 hyl hy hg;go_enter Tryz.func43,Tryz.ntmps43
 go_wp2_with (first | simp only [hov] | fail)
 go_region_law_o (refine zf5 rfl _ _ 24 24 rfl (.slice (some ⟨g,(i+1),none⟩) (n - i) (cap - (i+1))) (.slice (some ⟨g,i,none⟩) (n+1 - i) (cap - i)) (by simp [Act.eval,Act.put]) (by simp [Act.eval,Act.put]) (hcpA w.drew rfl _ _ _) ?_)
 have hB:=hcpB (w.drew.setRow g N1) (by rw [hW2];rfl) 3 (cap - i) 1;go_wp2_with fail;go_ret;subst hW3;subst hW2;exact⟨_,rfl,HO.out.keep (fun b _ _=>rfl),⟨HG.out.os,HG.out.tape,HG.out.output,HG.out.size,HG.out.same,HG.out.blk⟩⟩
theorem zr8 {base g cap:Nat} {n i vb:Nat} {xs tail ys:List Value} {w:World} (hg:RowIs w g 9 xs tail) (hb:base<=w.heap.size) (hx:xs.length=n) (hnc:n<=cap) (hroom:cap < n+1) (hn:n<=549755813888)
  (hy:RowIs w vb 9 ys []) (hyl:ys.length=1) (hy1:∀ u ∈ ys,u.oneCell'=true) (hx1:∀ u ∈ xs,u.oneCell'=true) (hi:i < n) (v:Value) :
  Calls Tryz.prog 43 #[.slice (some ⟨g,0,none⟩) n cap,I i,.slice (some ⟨vb,0,none⟩) 1 1] w fun r w'=>∃ v',r=.returned v'/\Own w' base 9 1 v' (n+1) (xs.take (i)++ys++xs.drop (i))/\Grew w w' v v':=by
 obtain⟨i0,hi0,hz0,hzs,hzb⟩:=info_parts zd7;have hsl:(xs.take (i)).length=i:=by rw [List.length_take,hx];omega
 have hold:(Builtin.firstCells i0.size i (.slice (some ⟨g,0,none⟩) i cap)).run Tryz.prog w.drew=.ok (xs.take (i)).toArray w.drew:=by
  rw [hzs]
  exact run_firstCells_some w.drew 1 i ⟨g,0,none⟩ i cap (xs.take (i)) (by omega) (fun j u hj=>by
   rw [zdg,Nat.zero_add];rw [List.getElem?_take] at hj
   split at hj
   ·exact hg.cell hj
   ·cases hj)
 obtain⟨G,hG⟩:∃ G,G=grownCap w (n+1) cap 9:=⟨_,rfl⟩
 have hGn:n+1<=G:=by rw [hG];exact grownCap_ge w _ _ _
 have hG63:G<=9223372036854775807:=by have:=grownCap_le_maxLen w (n+1) cap 9 (by unfold maxLen;omega);rw [<- hG] at this;unfold maxLen at this;omega
 obtain⟨Z,hZ⟩:∃ Z:List Value,Z=(Builtin.zeroCells (St []).cells (n+1 - i)++Builtin.zeroCells (St []).cells (G - (n+1))).toList:=⟨_,rfl⟩
 have hZl:Z.length=(G - i):=by rw [hZ];have:(St []).cells.size=1:=rfl;simp only [Array.length_toList,Array.size_append,size_zeroCells,this];omega
 have hrz:∀ ty,(Builtin.append_ #[24,3] ty #[.slice (some ⟨g,0,none⟩) i cap,.int .i64 ((n:Int)+1 - (i:Int))]).run Tryz.prog w =
   .ok (.slice (some ⟨w.heap.size,0,none⟩) (n+1) G) (w.drew.alloc (.cells (xs.take (i)++Z).toArray 9)):=fun ty=>by
  have hik:i+(n+1 - i)=n+1:=by omega
  have h:=Lib.run_append_grow_zeros w 24 3 ty 9 i0 _ .i64 .i64 Tryz.underlying24 Tryz.underlying3 hi0 hz0 (some ⟨g,0,none⟩) i cap (xs.take (i)) hold (n+1 - i) (by omega) (by omega) (by omega) (by omega) (by rw [hzb];omega) (by rw [hzb,hik];exact growslice_fits hroom (by omega));rw [hik,<- hG] at h;rw [show ((n:Int)+1 - (i:Int))=((n+1 - i:Nat):Int) by omega,h]
  congr 4
  rw [hZ]
  apply Array.ext'
  simp
 obtain⟨X1,hX1⟩:∃ X1,X1=xs.take (i):=⟨_,rfl⟩
 obtain⟨X2,hX2⟩:∃ X2,X2=xs.drop (i):=⟨_,rfl⟩
 have hX:xs=X1++X2:=by rw [hX1,hX2,zcq]
 rw [<- hX1] at hsl hrz;have hl2:X2.length=(n - i):=by rw [hX2,List.length_drop,hx]
 obtain⟨R1,hR1⟩:∃ R1,R1=Z.take 1:=⟨_,rfl⟩
 obtain⟨R2,hR2⟩:∃ R2,R2=(Z.drop 1).take ((n - i)):=⟨_,rfl⟩
 obtain⟨R3,hR3⟩:∃ R3,R3=(Z.drop 1).drop ((n - i)):=⟨_,rfl⟩
 have hR:Z=R1++(R2++R3):=by rw [hR1,hR2,hR3,zcq,zcq]
 have hlR1:R1.length=1:=by rw [hR1,List.length_take];omega
 have hlR2:R2.length=(n - i):=by rw [hR2,List.length_take,List.length_drop];omega
 obtain⟨N0,hN0⟩:∃ N0,N0=(X1++Z).toArray:=⟨_,rfl⟩
 obtain⟨N1,hN1⟩:∃ N1,N1=(X1++(ys++(R2++R3))).toArray:=⟨_,rfl⟩
 obtain⟨N2,hN2⟩:∃ N2,N2=((X1++ys)++(X2++R3)).toArray:=⟨_,rfl⟩
 rw [<- hN0] at hrz;obtain⟨W1,hW1⟩:∃ W1,W1=w.drew.alloc (.cells N0 9):=⟨_,rfl⟩
 have hg1:RowIs W1 w.heap.size 9 (X1++(R1++(R2++R3))) []:=by unfold RowIs;rw [List.append_nil,hW1,hN0,hR];exact Go.heap_alloc_new w.drew _
 have hx1':Ext w W1:=by rw [hW1];exact (Ext.refl w).drew.alloc _
 have hy1':=hy.ext hx1';have hgo:=hg.ext hx1';have hgl:=hg.lt;have hyl2:=hy.lt;obtain⟨W2,hW2⟩:∃ W2,W2=W1.setRow w.heap.size N1:=⟨_,rfl⟩
 have hg2:RowIs W2 w.heap.size 9 ((X1++ys)++(R2++R3)) []:=by have:=hg1.setRow (X1++(ys++(R2++R3)));rw [List.append_nil] at this;rw [hW2,hN1,show (X1++ys)++(R2++R3)=X1++(ys++(R2++R3)) from List.append_assoc _ _ _];exact this
 have hgo2:RowIs W2 g 9 xs tail:=hgo.keep (by rw [hW2];exact setRow_other W1 _ g _ (by omega));obtain⟨W3,hW3⟩:∃ W3,W3=W2.setRow w.heap.size N2:=⟨_,rfl⟩
 have hg3:RowIs W3 w.heap.size 9 ((X1++ys)++(X2++R3)) []:=by have:=hg2.setRow ((X1++ys)++(X2++R3));rw [List.append_nil] at this;rw [hW3,hN2];exact this
 have hx2c:∀ u ∈ X2,u.oneCell'=true:=fun u hu=>hx1 u (by rw [hX];simp [hu])
 have hcpA:∀ (W:World),W.heap=W1.heap->∀ ty dc sc,(Builtin.copy_ #[24,24] ty #[.slice (some ⟨w.heap.size,i,none⟩) (n+1 - i) dc,.slice (some ⟨vb,0,none⟩) 1 sc]).run Tryz.prog W=.ok (goInt 1) (W.setRow w.heap.size N1):=fun W hW ty dc sc=>hN1 ▸
  zct (sT:=24) (m:=1) (o:=i) (dLen:=n+1 - i) (dCap:=dc) (sLen:=1) (sCap:=sc) (s:=⟨vb,0,none⟩) (cs:=ys) (c:=R2++R3) (k:=1) Tryz.underlying24 zla (show RowIs W w.heap.size 9 (X1++(R1++(R2++R3))) [] by unfold RowIs at hg1 ⊢;rw [hW];exact hg1) hsl
   (by simp only [Nat.min_def];split <;> omega) (by omega) (by omega) (fun j u hj=>by rw [zdg,Nat.zero_add];have hy2':RowIs W vb 9 ys []:=(by unfold RowIs at hy1' ⊢;rw [hW];exact hy1');exact hy2'.cell hj) hy1 ty
 have hcpB:∀ (W:World),W.heap=W2.heap->∀ ty dc sc,(Builtin.copy_ #[24,24] ty #[.slice (some ⟨w.heap.size,(i+1),none⟩) (n - i) dc,.slice (some ⟨g,i,none⟩) (n - i) sc]).run Tryz.prog W=.ok (goInt ((n - i:Nat):Int)) (W.setRow w.heap.size N2):=fun W hW ty dc sc=>hN2 ▸
  zct (sT:=24) (m:=n - i) (o:=(i+1)) (dLen:=n - i) (dCap:=dc) (sLen:=n - i) (sCap:=sc) (s:=⟨g,i,none⟩) (cs:=X2) (c:=R3) (k:=1) Tryz.underlying24 zla (show RowIs W w.heap.size 9 ((X1++ys)++(R2++R3)) [] by unfold RowIs at hg2 ⊢;rw [hW];exact hg2) (by rw [List.length_append,hsl,hyl])
   (by simp only [Nat.min_def];split <;> omega) (by omega) (by rw [hlR2,hl2]) (fun j u hj=>by
    rw [zdg];have hg1':RowIs W g 9 xs tail:=(by unfold RowIs at hgo2 ⊢;rw [hW];exact hgo2);refine hg1'.cell ?_;rw [hX,List.getElem?_append_right (by omega),hsl]
    rwa [show i+j - i=j by omega]) hx2c ty
 have mixed:Tryz.prog.follows .mixedOrders=true:=rfl;have hz1:¬ ((i:Int)=(n:Int)):=by omega
 have hz2:(cap:Int) < (n:Int)+1:=by omega
 have hw1:IntKind.i64.wrap ((i:Int)+1)=(i:Int)+1:=by rw [IntKind.wrap_i64];omega
 have hw2:IntKind.i64.wrap ((n:Int)+1)=(n:Int)+1:=by rw [IntKind.wrap_i64];omega
 have hw3:IntKind.i64.wrap ((n:Int)+1 - (i:Int))=(n:Int)+1 - (i:Int):=by rw [IntKind.wrap_i64];omega
 have hb1:(i:Int)<=(n:Int)+1:=by omega
 have hin:i<=n:=by omega
 have hci:¬ (cap=i):=by omega
 have hc1:¬ (G=i):=by omega
 have hc2:¬ (G=i+1):=by omega
 have hb5:(n:Int)+1<=(G:Int):=by omega
 have htn:((i:Int)+1).toNat=i+1:=by omega
 have hb6:(0:Int)<=(i:Int)+1:=by omega
 have hb7:(i:Int)<=(cap:Int):=by omega
 have hout:Own W3 base 9 1 (.slice (some ⟨w.heap.size,0,none⟩) (n+1) G) (n+1) (X1++ys++X2) :=
  hg3.own hb hGn hG63 (by
   have h0:=congrArg List.length hR;simp only [List.length_append,List.length_nil] at h0 ⊢
   omega) (by
   rw [<- List.append_assoc];have:(X1++ys++X2).length=(n+1):=by simp only [List.length_append];omega
   rw [Nat.mul_one,<- this,List.take_left]) (by simp only [List.length_append];omega)
 have hgr:Grew w W3 v (.slice (some ⟨w.heap.size,0,none⟩) (n+1) G):=by
  rw [hW3,hW2];refine ⟨?_,?_,?_,?_,?_,fun b ⟨g',n',c',e,hc,e2⟩=>by cases e;exact .inr e2⟩
  ·exact hx1'.os
  ·exact hx1'.tape
  ·exact hx1'.output
  ·have:=hx1'.size
   simpa [World.setRow] using this
  ·intro b hb' _;exact ((setRow_other _ _ b _ (by omega)).trans (setRow_other W1 _ b _ (by omega))).trans (hx1'.block b hb')
 rw [<- hX1,<- hX2];have HO:=zH hout;have HG:=zH hgr;have hA:=hcpA (w.alloc (.cells N0 9)).drew (by rw [hW1];rfl) 3 (G - i) 1;have hA2:=hcpA (w.drew.alloc (.cells N0 9)) (by rw [hW1]) 3 (G - i) 1;clear hN1 hN2 hN0 hout hgr hX1 hX2 hX hsl hl2 hR hR1 hR2 hR3 hlR1 hlR2 hg1 hg2 hg3 hgo hgo2 hx1' hy1' hx2c hx hx1 hy1 hyl hy hg hZ hZl hG hold hi0 hz0 hzs hzb hcpA;go_enter Tryz.func43,Tryz.ntmps43
 go_wp2_with (at_builtin;refine zfw _ rfl _ _ 24 3 rfl _ _ rfl rfl (hrz _) ?_;clear hrz)
 go_region_law_o (refine zf5 rfl _ _ 24 24 rfl (.slice (some ⟨w.heap.size,(i+1),none⟩) (n - i) (G - (i+1))) (.slice (some ⟨g,i,none⟩) (n - i) (cap - i)) (by simp [Act.eval,Act.put]) (by simp [Act.eval,Act.put]) (hcpB ((w.alloc (.cells N0 9)).drew.setRow w.heap.size N1).drew (by rw [hW2,hW1];rfl) _ _ _) ?_)
 go_wp2_with fail;go_ret;subst hW3;subst hW2;subst hW1;exact⟨_,rfl,HO.out.keep (fun b _ _=>rfl),⟨HG.out.os,HG.out.tape,HG.out.output,HG.out.size,HG.out.same,HG.out.blk⟩⟩
theorem ztk {base:Nat} {v:Value} {n i vb:Nat} {xs ys:List Value} {w:World} (ho:Own w base 9 1 v n xs) (hy:RowIs w vb 9 ys []) (hyl:ys.length=1) (hy1:∀ u ∈ ys,u.oneCell'=true) (hx1:∀ u ∈ xs,u.oneCell'=true) (hi:i<=n) (hn:n<=549755813888) (hb:base<=w.heap.size) (hne:¬ zad v vb) :
  Calls Tryz.prog 43 #[v,I i,.slice (some ⟨vb,0,none⟩) 1 1] w fun r w'=>∃ v',r=.returned v'/\Own w' base 9 1 v' (n+1) (xs.take (i)++ys++xs.drop (i))/\Grew w w' v v':=by
 rcases Nat.eq_or_lt_of_le hi with rfl | hi'
 ·have:=ztj ho hy hyl hy1 hn hb;have e:xs.length=i:=by have:=ho.1;omega
  subst e;rw [List.take_length,List.drop_length,List.append_nil];exact this
 ·obtain⟨g,cap,tail,rfl,hbg,hg,hc,hm,hl⟩:=ho.row (by omega)
  by_cases hroom:n+1<=cap
  ·exact zqs hg hbg (by have:=ho.1;omega) (by omega) hroom hm hy hyl hy1 hx1 hi' (fun e=>hne ⟨g,n,cap,rfl,by omega,e⟩)
  ·exact zr8 hg hb (by have:=ho.1;omega) hc (by omega) hn hy hyl hy1 hx1 hi' _
end
end Go.Proofs.YtaabaflgeljbjaaGreat
