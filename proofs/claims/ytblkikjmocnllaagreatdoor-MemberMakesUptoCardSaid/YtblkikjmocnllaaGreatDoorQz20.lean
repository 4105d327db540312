/- Laws. -/
import Derived.Test.YtblkikjmocnllaaGreatDoorQz18
import Derived.Test.YtblkikjmocnllaaGreatDoorQz02
import Derived.Test.YtblkikjmocnllaaGreatDoorQz19
import Derived.Lib.Overlaps
import Derived.Lib.AppendZerosOnto
import Derived.Laws.Externs
import Derived.Shelf.RegionOpenPlain
import Derived.Test.YtblkikjmocnllaaGreatDoorQz15
set_option linter.unusedVariables false
set_option linter.unusedSimpArgs false
set_option maxRecDepth 100000
set_option maxHeartbeats 40000000
namespace Go.Proofs.YtblkikjmocnllaaGreatDoor
section
open Go.RowKit Go.Shelf
theorem run_copy_split {P:Program} {w:World} {dT sT elem T g o dLen dCap sLen sCap k m:Nat} {s:Addr} {a b c cs:List Value} (hu:P.underlying dT=some (.slice elem)) (hs:(P.info? elem).map (·.size)=some k)
  (h:RowIs w g T (a++(b++c)) []) (ho:a.length=o) (hm:m=Nat.min sLen dLen) (hl:cs.length=m * k) (hb:b.length=cs.length) (hsrc:∀ j v,cs[j]? = some v->w.cell? (s.add j)=some v) (h1:∀ v ∈ cs,v.oneCell'=true) (ty:TypeId) :
  (Builtin.copy_ #[dT,sT] ty #[.slice (some ⟨g,o,none⟩) dLen dCap,.slice (some s) sLen sCap]).run P w=.ok (goInt m) (w.setRow g (a++(cs++c)).toArray):=by
 have hl2:=run_loadCells_list (P:=P) w s cs hsrc
 unfold RowIs at h
 rw [List.append_nil] at h
 have hst:=run_storeCells_at P g o T cs 0 _ w h (by simp;omega) h1
 have e:((a++(b++c)).toArray.toList.take (o+0)++cs++(a++(b++c)).toArray.toList.drop (o+0+cs.length))=a++(cs++c):=by
  subst ho
  simp only [Nat.add_zero,List.take_left,List.append_assoc]
  congr 2
  rw [List.drop_append,<- hb]
  simp
 rw [e] at hst
 cases hq:P.info? elem with
 | none=>simp [hq] at hs
 | some i =>
  have hi:i.size=k:=by simpa [hq] using hs
  rw [hl] at hl2
  simp [Builtin.copy_,run_underlying hu,Builtin.lenOf,Builtin.firstCells,sizeOf,typeInfo,hq,hi,<- hm,hl2,hst]
theorem step_copy_runI {P:Program} {ops:Array Oper} {o:Oper} {a:Act} {w:World} {K:Act->World->Prop} {Q:Exit->Act->World->Prop} {E:Prop}
  (hg:o.guard=none) (d x:Operand) (dT sT:TypeId) (hop:o.op=Op.call { callee:=Callee.builtin Builtin.copy,args:=#[d,x],argTypes:=#[dT,sT] })
  (v u:Value) (hd:a.eval d=v) (hx:a.eval x=u) {v':Value} {w':World} (hr:(Builtin.copy_ #[dT,sT] o.type #[v,u]).run P w=.ok v' w') (hK:K (a.put o.dst v') w') :
  if Region.wanted o (yielded ops a.tmps)=true then Oper.wp P o a w K Q else E:=by
 have hw:Region.wanted o (yielded ops a.tmps)=true:=by simp [Region.wanted,hg]
 rw [if_pos hw]
 unfold Oper.wp
 simp [execOp,hop,resolve,invoke,builtin,hd,hx,hr,Result.andThen]
 exact hK
theorem wpList_append_runI {P:Program} (w:World) {ops:Array Oper} {rest:List Oper} {o:Oper} {a:Act} {Q:Exit->Act->World->Prop} (hgd:o.guard=none) (d s:Operand) (t t':TypeId)
  (ho:o.op=.call { callee:=.builtin .append,args:=#[d,s],argTypes:=#[t,t'] }) (v u:Value) (hd:a.eval d=v) (hs:a.eval s=u) {v':Value} {w':World}
  (hr:(Builtin.append_ #[t,t'] o.type #[v,u]).run P w=.ok v' w') (h:wpList P ops Q rest (a.put o.dst v') w'):wpList P ops Q (o :: rest) a w :=
 wpList_plain hgd fun _ hK=>by
  unfold Oper.wp execOp
  simp only [ho,resolve,invoke,builtin,Sem.run_bind,Sem.run_pure,Result.andThen_ok,List.map_toArray,List.map_cons,List.map_nil,hd,hs,hr]
  exact hK _ _ h
abbrev zeroMbr:Value:=mbrV mbr0 (.slice none 0 0) (.slice none 0 0)
theorem size_mbr:(Tryz.prog.info? 48).map (·.size)=some 15:=by
 have:=info_mbr
 cases h:Tryz.prog.info? 48 with
 | none=>rw [h] at this;simp at this
 | some i=>rw [h] at this;simp at this;simp [this.2.1]
theorem insert_end {base:Nat} {v:Value} {n vb:Nat} {xs ys:List Value} {w:World} (ho:Own w base 48 15 v n xs) (hy:RowIs w vb 48 ys []) (hyl:ys.length=15) (hy1:∀ u ∈ ys,u.oneCell'=true) (hn:n<=549755813888) (hb:base<=w.heap.size) :
  Calls Tryz.prog 86 #[v,I n,.slice (some ⟨vb,0,none⟩) 1 1] w fun r w'=>∃ v',r=.returned v'/\Own w' base 48 15 v' (n+1) (xs++ys)/\Grew w w' v v':=by
 have HS:Src w 15 (some ⟨vb,0,none⟩) 1 ys:=⟨by omega,hy1,fun _=>⟨vb,0,rfl,fun j u hj=>by rw [Nat.zero_add];exact hy.cell hj⟩⟩
 have HO:=Lib.hid ho
 obtain⟨A,c,rfl,h1,h2⟩:=ho.form
 clear ho
 cases A with
 | none =>
  go_enter Tryz.func86,Tryz.ntmps86
  go_wp2_with (at_builtin;refine wpList_append_Own rfl (.tmp 23) (.tmp 24) 22 rfl base 48 15 192 zeroMbr Tryz.underlying22 info_mbr rfl (by omega) (.slice none n c) n xs rfl HO.out (some ⟨vb,0,none⟩) 1 1 ys rfl HS (by omega) (by omega) hb ?_;intro v' w' hown hgr)
  go_ret
  exact⟨_,rfl,hown,hgr⟩
 | some A =>
  rcases Nat.eq_or_lt_of_le h1 with h3 | h3
  ·subst h3
   go_enter Tryz.func86,Tryz.ntmps86
   go_wp2_with (at_builtin;refine wpList_append_Own rfl (.tmp 23) (.tmp 24) 22 rfl base 48 15 192 zeroMbr Tryz.underlying22 info_mbr rfl (by omega) (.slice (some A) n n) n xs rfl HO.out (some ⟨vb,0,none⟩) 1 1 ys rfl HS (by omega) (by omega) hb ?_;intro v' w' hown hgr)
   go_ret
   exact⟨_,rfl,hown,hgr⟩
  ·have h4:¬ (c=n):=by omega
   go_enter Tryz.func86,Tryz.ntmps86
   go_wp2_with (at_builtin;refine wpList_append_Own rfl (.tmp 23) (.tmp 24) 22 rfl base 48 15 192 zeroMbr Tryz.underlying22 info_mbr rfl (by omega) (.slice (some A) n c) n xs rfl HO.out (some ⟨vb,0,none⟩) 1 1 ys rfl HS (by omega) (by omega) hb ?_;intro v' w' hown hgr)
   go_ret
   exact⟨_,rfl,hown,hgr⟩
theorem take_dropL {α:Type} (l:List α) (i:Nat):l.take i++l.drop i=l:=List.take_append_drop i l
theorem insert_shift {base g cap:Nat} {n i vb:Nat} {xs tail ys:List Value} {w:World} (hg:RowIs w g 48 xs tail) (hbg:base<=g) (hx:xs.length=n * 15) (hcap:(xs++tail).length=cap * 15) (hroom:n+1<=cap) (hm:cap<=9223372036854775807)
  (hy:RowIs w vb 48 ys []) (hyl:ys.length=15) (hy1:∀ u ∈ ys,u.oneCell'=true) (hx1:∀ u ∈ xs,u.oneCell'=true) (hi:i < n) (hne:vb ≠ g) :
  Calls Tryz.prog 86 #[.slice (some ⟨g,0,none⟩) n cap,I i,.slice (some ⟨vb,0,none⟩) 1 1] w fun r w'=>∃ v',r=.returned v'/\Own w' base 48 15 v' (n+1) (xs.take (i * 15)++ys++xs.drop (i * 15))/\Grew w w' (.slice (some ⟨g,0,none⟩) n cap) v':=by
 have hT:tail.length=(cap - n) * 15:=by rw [List.length_append,hx] at hcap;omega
 obtain⟨X1,hX1⟩:∃ X1,X1=xs.take (i * 15):=⟨_,rfl⟩
 obtain⟨X2,hX2⟩:∃ X2,X2=xs.drop (i * 15):=⟨_,rfl⟩
 have hX:xs=X1++X2:=by rw [hX1,hX2,take_dropL]
 have hl1:X1.length=i * 15:=by rw [hX1,List.length_take,hx];omega
 have hl2:X2.length=(n - i) * 15:=by rw [hX2,List.length_drop,hx];omega
 obtain⟨R1,hR1⟩:∃ R1,R1=(X2++tail).take 15:=⟨_,rfl⟩
 obtain⟨R2,hR2⟩:∃ R2,R2=((X2++tail).drop 15).take ((n - i) * 15):=⟨_,rfl⟩
 obtain⟨R3,hR3⟩:∃ R3,R3=((X2++tail).drop 15).drop ((n - i) * 15):=⟨_,rfl⟩
 have hR:xs++tail=(X1++R1)++(R2++R3):=by rw [hX,hR1,hR2,hR3,take_dropL,List.append_assoc,List.append_assoc,take_dropL]
 have hlR1:R1.length=15:=by rw [hR1,List.length_take,List.length_append,hl2,hT];omega
 have hlR2:R2.length=(n - i) * 15:=by rw [hR2,List.length_take,List.length_drop,List.length_append,hl2,hT];omega
 have hg1:RowIs w g 48 ((X1++R1)++(R2++R3)) []:=by unfold RowIs at hg ⊢;rw [List.append_nil,<- hR];exact hg
 obtain⟨N1,hN1⟩:∃ N1,N1=((X1++R1)++(X2++R3)).toArray:=⟨_,rfl⟩
 obtain⟨N2,hN2⟩:∃ N2,N2=(X1++(ys++(X2++R3))).toArray:=⟨_,rfl⟩
 obtain⟨W2,hW2⟩:∃ W2,W2=w.setRow g N1:=⟨_,rfl⟩
 have hg2:RowIs W2 g 48 (X1++(R1++(X2++R3))) []:=by
  have:=hg1.setRow ((X1++R1)++(X2++R3))
  rw [List.append_nil] at this
  rw [hW2,hN1,show X1++(R1++(X2++R3))=(X1++R1)++(X2++R3) from (List.append_assoc _ _ _).symm]
  exact this
 have hy2:RowIs W2 vb 48 ys []:=hy.keep (by rw [hW2];exact setRow_other w g vb _ hne)
 obtain⟨W3,hW3⟩:∃ W3,W3=W2.setRow g N2:=⟨_,rfl⟩
 have hg3:RowIs W3 g 48 (X1++(ys++(X2++R3))) []:=by
  have:=hg2.setRow (X1++(ys++(X2++R3)))
  rw [List.append_nil] at this
  rw [hW3,hN2]
  exact this
 have hx2c:∀ u ∈ X2,u.oneCell'=true:=fun u hu=>hx1 u (by rw [hX];simp [hu])
 have hcpA:∀ (W:World),W.heap=w.heap->∀ ty dc sc,(Builtin.copy_ #[22,22] ty #[.slice (some ⟨g,(i+1) * 15,none⟩) (n - i) dc,.slice (some ⟨g,i * 15,none⟩) (n+1 - i) sc]).run Tryz.prog W=.ok (goInt ((n - i:Nat):Int)) (W.setRow g N1):=fun W hW ty dc sc=>hN1 ▸
  run_copy_split (sT:=22) (m:=n - i) (o:=(i+1) * 15) (dLen:=n - i) (dCap:=dc) (sLen:=n+1 - i) (sCap:=sc) (s:=⟨g,i * 15,none⟩) (cs:=X2) (c:=R3) (k:=15) Tryz.underlying22 size_mbr (show RowIs W g 48 ((X1++R1)++(R2++R3)) [] by unfold RowIs at hg1 ⊢;rw [hW];exact hg1) (by rw [List.length_append,hl1,hlR1,Nat.add_mul])
   (by simp only [Nat.min_def];split <;> omega) hl2 (by rw [hlR2,hl2]) (fun j u hj=>by
    rw [add_none]
    have hg1':RowIs W g 48 xs tail:=by unfold RowIs at hg ⊢;rw [hW];exact hg
    refine hg1'.cell ?_
    rw [hX,List.getElem?_append_right (by omega),hl1]
    rwa [show i * 15+j - i * 15=j by omega]) hx2c ty
 have hcpB:∀ (W:World),W.heap=W2.heap->∀ ty dc sc,(Builtin.copy_ #[22,22] ty #[.slice (some ⟨g,i * 15,none⟩) (n+1 - i) dc,.slice (some ⟨vb,0,none⟩) 1 sc]).run Tryz.prog W=.ok (goInt 1) (W.setRow g N2):=fun W hW ty dc sc=>hN2 ▸
  run_copy_split (sT:=22) (m:=1) (o:=i * 15) (dLen:=n+1 - i) (dCap:=dc) (sLen:=1) (sCap:=sc) (s:=⟨vb,0,none⟩) (cs:=ys) (c:=X2++R3) (k:=15) Tryz.underlying22 size_mbr (show RowIs W g 48 (X1++(R1++(X2++R3))) [] by unfold RowIs at hg2 ⊢;rw [hW];exact hg2) hl1
   (by simp only [Nat.min_def];split <;> omega) (by omega) (by omega) (fun j u hj=>by
    rw [add_none,Nat.zero_add]
    have hy2':RowIs W vb 48 ys []:=by unfold RowIs at hy2 ⊢;rw [hW];exact hy2
    exact hy2'.cell hj) hy1 ty
 have hov:∀ (W:World) lb cb,W.heap=w.heap->(callFunc 130 #[.slice (some ⟨vb,0,none⟩) 1 1,.slice (some ⟨g,(i+1) * 15,none⟩) lb cb]).run Tryz.prog W=.ok (.value (.bool false)) W:=fun W lb cb hW=>by
  have s1:W.heap[vb]? = some (.cells (ys++[]).toArray 48 (0,0)):=by rw [hW];exact hy
  have s2:W.heap[g]? = some (.cells (xs++tail).toArray 48 (0,0)):=by rw [hW];exact hg
  rw [run_callFunc_extern Tryz.func130 (by kernel_rfl) (by kernel_rfl) (by kernel_rfl) (e:=Extern.SlicesOverlaps.overlaps #[22,22] #[4]) (by kernel_rfl),
   Lib.run_overlaps_apart W 22 4 48 Tryz.underlying22 15 (fun w=>Tryz.sizeOf48 w) ⟨vb,0,none⟩ ⟨g,(i+1) * 15,none⟩ 1 1 lb cb hne 48 48 15 (cap * 15) (by simp [World.shape?,s1,hyl]) (by simp [World.shape?,s2,<- hcap]) (by omega) (by simp [World.frozen?,s1]) (by simp [World.frozen?,s1])]
  rfl
 have mixed:Tryz.prog.follows .mixedOrders=true:=rfl
 have hz1:¬ ((i:Int)=(n:Int)):=by omega
 have hz2:¬ ((n:Int)+1 > (cap:Int)):=by omega
 have hw1:IntKind.i64.wrap ((i:Int)+1)=(i:Int)+1:=by rw [IntKind.wrap_i64];omega
 have hw2:IntKind.i64.wrap ((n:Int)+1)=(n:Int)+1:=by rw [IntKind.wrap_i64];omega
 have hb1:(i:Int)<=(n:Int)+1:=by omega
 have hc1:¬ (cap=i):=by omega
 have hc2:¬ (cap=i+1):=by omega
 have hb5:(n:Int)+1<=(cap:Int):=by omega
 have htn:((i:Int)+1).toNat=i+1:=by omega
 have hb6:(0:Int)<=(i:Int)+1:=by omega
 have hin:i<=n:=by omega
 have hout:Own W3 base 48 15 (.slice (some ⟨g,0,none⟩) (n+1) cap) (n+1) (X1++ys++X2) :=
  hg3.own hbg hroom hm (by
   have h0:=congrArg List.length hR
   simp only [List.length_append,List.length_nil] at h0 hcap ⊢
   omega) (by
   rw [<- List.append_assoc,<- List.append_assoc]
   have:(X1++ys++X2).length=(n+1) * 15:=by simp only [List.length_append];omega
   rw [<- this,List.take_left]) (by simp only [List.length_append];omega)
 have hgr:Grew w W3 (.slice (some ⟨g,0,none⟩) n cap) (.slice (some ⟨g,0,none⟩) (n+1) cap):=by
  have hb:ownBlk (.slice (some ⟨g,0,none⟩) n cap) g:=⟨g,n,cap,rfl,by omega,rfl⟩
  rw [hW3,hW2]
  exact⟨rfl,rfl,rfl,by simp [World.setRow],fun b hb' hn=>((setRow_other _ g b _ (fun e=>hn (by subst e;exact hb))).trans (setRow_other w g b _ (fun e=>hn (by subst e;exact hb)))),fun b ⟨g',n',c',e,hc,e2⟩=>by cases e;exact .inl ⟨_,_,_,rfl,hc,e2⟩⟩
 rw [<- hX1,<- hX2]
 have HO:=Lib.hid hout
 have HG:=Lib.hid hgr
 clear hN1 hN2 hout hgr hX1 hX2 hX hl1 hl2 hR hR1 hR2 hR3 hlR1 hlR2 hg1 hg2 hg3 hy2 hx2c hT hcap hx hx1 hy1 hyl hy hg
 go_enter Tryz.func86,Tryz.ntmps86
 go_wp2_with (first | simp only [hov] | fail)
 go_region_law_o (refine step_copy_runI rfl _ _ 22 22 rfl (.slice (some ⟨g,(i+1) * 15,none⟩) (n - i) (cap - (i+1))) (.slice (some ⟨g,i * 15,none⟩) (n+1 - i) (cap - i)) (by simp [Act.eval,Act.put]) (by simp [Act.eval,Act.put]) (hcpA w.drew rfl _ _ _) ?_)
 have hB:=hcpB (w.drew.setRow g N1) (by rw [hW2];rfl) 3 (cap - i) 1
 go_wp2_with fail
 go_ret
 subst hW3
 subst hW2
 exact⟨_,rfl,HO.out.keep (fun b _ _=>rfl),⟨HG.out.os,HG.out.tape,HG.out.output,HG.out.size,HG.out.same,HG.out.blk⟩⟩
theorem insert_grow {base g cap:Nat} {n i vb:Nat} {xs tail ys:List Value} {w:World} (hg:RowIs w g 48 xs tail) (hb:base<=w.heap.size) (hx:xs.length=n * 15) (hnc:n<=cap) (hroom:cap < n+1) (hn:n<=549755813888)
  (hy:RowIs w vb 48 ys []) (hyl:ys.length=15) (hy1:∀ u ∈ ys,u.oneCell'=true) (hx1:∀ u ∈ xs,u.oneCell'=true) (hi:i < n) (v:Value) :
  Calls Tryz.prog 86 #[.slice (some ⟨g,0,none⟩) n cap,I i,.slice (some ⟨vb,0,none⟩) 1 1] w fun r w'=>∃ v',r=.returned v'/\Own w' base 48 15 v' (n+1) (xs.take (i * 15)++ys++xs.drop (i * 15))/\Grew w w' v v':=by
 obtain⟨i0,hi0,hz0,hzs,hzb⟩:=info_parts info_mbr
 have hsl:(xs.take (i * 15)).length=i * 15:=by rw [List.length_take,hx];omega
 have hold:(Builtin.firstCells i0.size i (.slice (some ⟨g,0,none⟩) i cap)).run Tryz.prog w.drew=.ok (xs.take (i * 15)).toArray w.drew:=by
  rw [hzs]
  exact run_firstCells_some w.drew 15 i ⟨g,0,none⟩ i cap (xs.take (i * 15)) hsl (fun j u hj=>by
   rw [add_none,Nat.zero_add]
   rw [List.getElem?_take] at hj
   split at hj
   ·exact hg.cell hj
   ·cases hj)
 obtain⟨G,hG⟩:∃ G,G=grownCap w (n+1) cap 48:=⟨_,rfl⟩
 have hGn:n+1<=G:=by rw [hG];exact grownCap_ge w _ _ _
 have hG63:G<=9223372036854775807:=by
  have:=grownCap_le_maxLen w (n+1) cap 48 (by unfold maxLen;omega)
  rw [<- hG] at this
  unfold maxLen at this
  omega
 obtain⟨Z,hZ⟩:∃ Z:List Value,Z=(Builtin.zeroCells zeroMbr.cells (n+1 - i)++Builtin.zeroCells zeroMbr.cells (G - (n+1))).toList:=⟨_,rfl⟩
 have hZl:Z.length=(G - i) * 15:=by
  rw [hZ]
  have:zeroMbr.cells.size=15:=rfl
  simp only [Array.length_toList,Array.size_append,size_zeroCells,this]
  omega
 have hrz:∀ ty,(Builtin.append_ #[22,3] ty #[.slice (some ⟨g,0,none⟩) i cap,.int .i64 ((n:Int)+1 - (i:Int))]).run Tryz.prog w =
   .ok (.slice (some ⟨w.heap.size,0,none⟩) (n+1) G) (w.drew.alloc (.cells (xs.take (i * 15)++Z).toArray 48)):=fun ty=>by
  have hik:i+(n+1 - i)=n+1:=by omega
  have h:=Lib.run_append_grow_zeros w 22 3 ty 48 i0 _ .i64 .i64 Tryz.underlying22 Tryz.underlying3 hi0 hz0 (some ⟨g,0,none⟩) i cap (xs.take (i * 15)) hold (n+1 - i) (by omega) (by omega) (by omega) (by omega) (by rw [hzb];omega) (by rw [hzb,hik];exact growslice_fits hroom (by omega))
  rw [hik,<- hG] at h
  rw [show ((n:Int)+1 - (i:Int))=((n+1 - i:Nat):Int) by omega,h]
  congr 4
  rw [hZ]
  apply Array.ext'
  simp
 obtain⟨X1,hX1⟩:∃ X1,X1=xs.take (i * 15):=⟨_,rfl⟩
 obtain⟨X2,hX2⟩:∃ X2,X2=xs.drop (i * 15):=⟨_,rfl⟩
 have hX:xs=X1++X2:=by rw [hX1,hX2,take_dropL]
 rw [<- hX1] at hsl hrz
 have hl2:X2.length=(n - i) * 15:=by rw [hX2,List.length_drop,hx];omega
 obtain⟨R1,hR1⟩:∃ R1,R1=Z.take 15:=⟨_,rfl⟩
 obtain⟨R2,hR2⟩:∃ R2,R2=(Z.drop 15).take ((n - i) * 15):=⟨_,rfl⟩
 obtain⟨R3,hR3⟩:∃ R3,R3=(Z.drop 15).drop ((n - i) * 15):=⟨_,rfl⟩
 have hR:Z=R1++(R2++R3):=by rw [hR1,hR2,hR3,take_dropL,take_dropL]
 have hlR1:R1.length=15:=by rw [hR1,List.length_take];omega
 have hlR2:R2.length=(n - i) * 15:=by rw [hR2,List.length_take,List.length_drop];omega
 obtain⟨N0,hN0⟩:∃ N0,N0=(X1++Z).toArray:=⟨_,rfl⟩
 obtain⟨N1,hN1⟩:∃ N1,N1=(X1++(ys++(R2++R3))).toArray:=⟨_,rfl⟩
 obtain⟨N2,hN2⟩:∃ N2,N2=((X1++ys)++(X2++R3)).toArray:=⟨_,rfl⟩
 rw [<- hN0] at hrz
 obtain⟨W1,hW1⟩:∃ W1,W1=w.drew.alloc (.cells N0 48):=⟨_,rfl⟩
 have hg1:RowIs W1 w.heap.size 48 (X1++(R1++(R2++R3))) []:=by
  unfold RowIs
  rw [List.append_nil,hW1,hN0,hR]
  exact Go.heap_alloc_new w.drew _
 have hx1':Ext w W1:=by rw [hW1];exact (Ext.refl w).drew.alloc _
 have hy1':=hy.ext hx1'
 have hgo:=hg.ext hx1'
 have hgl:=hg.lt
 have hyl2:=hy.lt
 obtain⟨W2,hW2⟩:∃ W2,W2=W1.setRow w.heap.size N1:=⟨_,rfl⟩
 have hg2:RowIs W2 w.heap.size 48 ((X1++ys)++(R2++R3)) []:=by
  have:=hg1.setRow (X1++(ys++(R2++R3)))
  rw [List.append_nil] at this
  rw [hW2,hN1,show (X1++ys)++(R2++R3)=X1++(ys++(R2++R3)) from List.append_assoc _ _ _]
  exact this
 have hgo2:RowIs W2 g 48 xs tail:=hgo.keep (by rw [hW2];exact setRow_other W1 _ g _ (by omega))
 obtain⟨W3,hW3⟩:∃ W3,W3=W2.setRow w.heap.size N2:=⟨_,rfl⟩
 have hg3:RowIs W3 w.heap.size 48 ((X1++ys)++(X2++R3)) []:=by
  have:=hg2.setRow ((X1++ys)++(X2++R3))
  rw [List.append_nil] at this
  rw [hW3,hN2]
  exact this
 have hx2c:∀ u ∈ X2,u.oneCell'=true:=fun u hu=>hx1 u (by rw [hX];simp [hu])
 have hcpA:∀ (W:World),W.heap=W1.heap->∀ ty dc sc,(Builtin.copy_ #[22,22] ty #[.slice (some ⟨w.heap.size,i * 15,none⟩) (n+1 - i) dc,.slice (some ⟨vb,0,none⟩) 1 sc]).run Tryz.prog W=.ok (goInt 1) (W.setRow w.heap.size N1):=fun W hW ty dc sc=>hN1 ▸
  run_copy_split (sT:=22) (m:=1) (o:=i * 15) (dLen:=n+1 - i) (dCap:=dc) (sLen:=1) (sCap:=sc) (s:=⟨vb,0,none⟩) (cs:=ys) (c:=R2++R3) (k:=15) Tryz.underlying22 size_mbr (show RowIs W w.heap.size 48 (X1++(R1++(R2++R3))) [] by unfold RowIs at hg1 ⊢;rw [hW];exact hg1) hsl
   (by simp only [Nat.min_def];split <;> omega) (by omega) (by omega) (fun j u hj=>by
    rw [add_none,Nat.zero_add]
    have hy2':RowIs W vb 48 ys []:=by unfold RowIs at hy1' ⊢;rw [hW];exact hy1'
    exact hy2'.cell hj) hy1 ty
 have hcpB:∀ (W:World),W.heap=W2.heap->∀ ty dc sc,(Builtin.copy_ #[22,22] ty #[.slice (some ⟨w.heap.size,(i+1) * 15,none⟩) (n - i) dc,.slice (some ⟨g,i * 15,none⟩) (n - i) sc]).run Tryz.prog W=.ok (goInt ((n - i:Nat):Int)) (W.setRow w.heap.size N2):=fun W hW ty dc sc=>hN2 ▸
  run_copy_split (sT:=22) (m:=n - i) (o:=(i+1) * 15) (dLen:=n - i) (dCap:=dc) (sLen:=n - i) (sCap:=sc) (s:=⟨g,i * 15,none⟩) (cs:=X2) (c:=R3) (k:=15) Tryz.underlying22 size_mbr (show RowIs W w.heap.size 48 ((X1++ys)++(R2++R3)) [] by unfold RowIs at hg2 ⊢;rw [hW];exact hg2) (by rw [List.length_append,hsl,hyl,Nat.add_mul])
   (by simp only [Nat.min_def];split <;> omega) hl2 (by rw [hlR2,hl2]) (fun j u hj=>by
    rw [add_none]
    have hg1':RowIs W g 48 xs tail:=by unfold RowIs at hgo2 ⊢;rw [hW];exact hgo2
    refine hg1'.cell ?_
    rw [hX,List.getElem?_append_right (by omega),hsl]
    rwa [show i * 15+j - i * 15=j by omega]) hx2c ty
 have mixed:Tryz.prog.follows .mixedOrders=true:=rfl
 have hz1:¬ ((i:Int)=(n:Int)):=by omega
 have hz2:(cap:Int) < (n:Int)+1:=by omega
 have hw1:IntKind.i64.wrap ((i:Int)+1)=(i:Int)+1:=by rw [IntKind.wrap_i64];omega
 have hw2:IntKind.i64.wrap ((n:Int)+1)=(n:Int)+1:=by rw [IntKind.wrap_i64];omega
 have hw3:IntKind.i64.wrap ((n:Int)+1 - (i:Int))=(n:Int)+1 - (i:Int):=by rw [IntKind.wrap_i64];omega
 have hb1:(i:Int)<=(n:Int)+1:=by omega
 have hin:i<=n:=by omega
 have hci:¬ (cap=i):=by omega
 have hc1:¬ (G=i):=by omega
 have hc2:¬ (G=i+1):=by omega
 have hb5:(n:Int)+1<=(G:Int):=by omega
 have htn:((i:Int)+1).toNat=i+1:=by omega
 have hb6:(0:Int)<=(i:Int)+1:=by omega
 have hb7:(i:Int)<=(cap:Int):=by omega
 have hout:Own W3 base 48 15 (.slice (some ⟨w.heap.size,0,none⟩) (n+1) G) (n+1) (X1++ys++X2) :=
  hg3.own hb hGn hG63 (by
   have h0:=congrArg List.length hR
   simp only [List.length_append,List.length_nil] at h0 ⊢
   omega) (by
   rw [<- List.append_assoc]
   have:(X1++ys++X2).length=(n+1) * 15:=by simp only [List.length_append];omega
   rw [<- this,List.take_left]) (by simp only [List.length_append];omega)
 have hgr:Grew w W3 v (.slice (some ⟨w.heap.size,0,none⟩) (n+1) G):=by
  rw [hW3,hW2]
  refine ⟨?_,?_,?_,?_,?_,fun b ⟨g',n',c',e,hc,e2⟩=>by cases e;exact .inr e2⟩
  ·exact hx1'.os
  ·exact hx1'.tape
  ·exact hx1'.output
  ·have:=hx1'.size
   simpa [World.setRow] using this
  ·intro b hb' _
   exact ((setRow_other _ _ b _ (by omega)).trans (setRow_other W1 _ b _ (by omega))).trans (hx1'.block b hb')
 rw [<- hX1,<- hX2]
 have HO:=Lib.hid hout
 have HG:=Lib.hid hgr
 have hA:=hcpA (w.alloc (.cells N0 48)).drew (by rw [hW1];rfl) 3 (G - i) 1
 have hA2:=hcpA (w.drew.alloc (.cells N0 48)) (by rw [hW1]) 3 (G - i) 1
 clear hN1 hN2 hN0 hout hgr hX1 hX2 hX hsl hl2 hR hR1 hR2 hR3 hlR1 hlR2 hg1 hg2 hg3 hgo hgo2 hx1' hy1' hx2c hx hx1 hy1 hyl hy hg hZ hZl hG hold hi0 hz0 hzs hzb hcpA
 go_enter Tryz.func86,Tryz.ntmps86
 go_wp2_with (at_builtin;refine wpList_append_runI _ rfl _ _ 22 3 rfl _ _ rfl rfl (hrz _) ?_;clear hrz)
 go_region_law_o (refine step_copy_runI rfl _ _ 22 22 rfl (.slice (some ⟨w.heap.size,(i+1) * 15,none⟩) (n - i) (G - (i+1))) (.slice (some ⟨g,i * 15,none⟩) (n - i) (cap - i)) (by simp [Act.eval,Act.put]) (by simp [Act.eval,Act.put]) (hcpB ((w.alloc (.cells N0 48)).drew.setRow w.heap.size N1).drew (by rw [hW2,hW1];rfl) _ _ _) ?_)
 go_wp2_with fail
 go_ret
 subst hW3
 subst hW2
 subst hW1
 exact⟨_,rfl,HO.out.keep (fun b _ _=>rfl),⟨HG.out.os,HG.out.tape,HG.out.output,HG.out.size,HG.out.same,HG.out.blk⟩⟩
theorem insertC_any {base:Nat} {v:Value} {n i vb:Nat} {xs ys:List Value} {w:World} (ho:Own w base 48 15 v n xs) (hy:RowIs w vb 48 ys []) (hyl:ys.length=15) (hy1:∀ u ∈ ys,u.oneCell'=true) (hx1:∀ u ∈ xs,u.oneCell'=true) (hi:i<=n) (hn:n<=549755813888) (hb:base<=w.heap.size) (hne:¬ ownBlk v vb) :
  Calls Tryz.prog 86 #[v,I i,.slice (some ⟨vb,0,none⟩) 1 1] w fun r w'=>∃ v',r=.returned v'/\Own w' base 48 15 v' (n+1) (xs.take (i * 15)++ys++xs.drop (i * 15))/\Grew w w' v v':=by
 rcases Nat.eq_or_lt_of_le hi with rfl | hi'
 ·have:=insert_end ho hy hyl hy1 hn hb
  rw [<- ho.1,List.take_length,List.drop_length,List.append_nil]
  exact this
 ·obtain⟨g,cap,tail,rfl,hbg,hg,hc,hm,hl⟩:=ho.row (by omega)
  by_cases hroom:n+1<=cap
  ·exact insert_shift hg hbg ho.1 hl hroom hm hy hyl hy1 hx1 hi' (fun e=>hne ⟨g,n,cap,rfl,by omega,e⟩)
  ·exact insert_grow hg hb ho.1 hc (by omega) hn hy hyl hy1 hx1 hi' _
def inS (n:Int) (s:Span):Bool:=decide (s.1<=n) && decide (n < s.2)
def withinL (l:List Span) (n:Int):Bool:=l.any (inS n)
theorem within1_any (s:Span) (n:Int) {B:Nat} {W:World} (hB:W.cell? ⟨B,0,none⟩=some (I n)):Calls Tryz.prog 159 #[.agg #[I s.1,I s.2],.pointer (some ⟨B,0,none⟩)] W fun e w'=>e=.returned (.bool (inS n s))/\Ext W w':=by
 have hx:=(Ext.refl W).alloc (.cells #[I s.1,I s.2] 76)
 have hc:=hx.cell hB
 have hb0:=(rowNew W 76 [I s.1,I s.2]).cell (j:=0) rfl
 have hb1:=(rowNew W 76 [I s.1,I s.2]).cell (j:=1) rfl
 by_cases h1:s.1<=n
 ·have HF:=Lib.hid (show inS n s=decide (n < s.2) by unfold inS;rw [decide_eq_true h1];rfl)
  go_enter Tryz.func159,Tryz.ntmps159
  go_wp2
  go_ret
  exact⟨by rw [HF.out];rfl,hx⟩
 ·have HF:=Lib.hid (show inS n s=false by unfold inS;rw [decide_eq_false h1];rfl)
  go_enter Tryz.func159,Tryz.ntmps159
  go_wp2
  go_ret
  exact⟨by rw [HF.out];rfl,hx⟩
theorem idxS_any (p:Span->Bool) (l:List Span):decide (idxS p l ≥ 0)=l.any p:=by
 unfold idxS
 cases h:l.findIdx? p with
 | none =>
  have:l.any p=false:=by rw [List.any_eq_false];intro x hx;have:=List.findIdx?_eq_none_iff.1 h x hx;simp [this]
  rw [this];rfl
 | some i =>
  have hi:=List.findIdx?_eq_some_iff_getElem.1 h
  have:l.any p=true:=List.any_eq_true.2 ⟨l[i]'hi.1,List.getElem_mem _,hi.2.1⟩
  rw [this];simp
theorem within_any {S:Nat->Prop} {v:Value} {l:List Span} {w:World} (hv:Sl spanT w S v l) (n:Int):Calls Tryz.prog 120 #[v,I n] w fun e w'=>e=.returned (.bool (withinL l n))/\Ext w w':=by
 have hx:=(Ext.refl w).alloc (.cells #[I n] 3)
 have hp:PredS Tryz.prog 159 #[.pointer (some ⟨w.heap.size,0,none⟩)] (w.heap.size+1) (fun W=>W.cell? ⟨w.heap.size,0,none⟩=some (I n)) (inS n) :=
  ⟨enters_of Tryz.func159 (by kernel_rfl) rfl,fun W W' h hb=>by
   have:=Below.cell hb (p:=⟨w.heap.size,0,none⟩) (by simp)
   exact this.trans h,fun m W h=>within1_any m n h⟩
 have HI:=Lib.hid (index_span (hv.ext (by decide) hx) hp (by simp [go_sem]) (by simp))
 have HA:=Lib.hid (idxS_any (inS n) l)
 obtain⟨A,c,rfl,-,-⟩:=hv.form
 clear hv hp
 unfold withinL
 generalize l.any (inS n)=r at *
 generalize idxS (inS n) l=k at *
 have HC:Calls Tryz.prog 158 #[.slice A l.length c,.func (.func 159) #[] #[.pointer (some ⟨w.heap.size,0,none⟩)]] (w.alloc (.cells #[I n] 3)) fun e w'=>e=.returned (.bool r)/\Ext w w':=by
  go_enter Tryz.func158,Tryz.ntmps158
  go_wp2_with fail
  refine HI.out.mono ?_
  rintro e w' ⟨rfl,hx2⟩
  go_wp2
  go_ret
  exact⟨by rw [<- HA.out];rfl,hx.trans hx2⟩
 have HC:=Lib.hid HC
 clear HI HA
 go_enter Tryz.func120,Tryz.ntmps120
 go_wp2_with fail
 refine HC.out.mono ?_
 rintro e w' ⟨rfl,hx2⟩
 go_wp2
 go_ret
 exact⟨rfl,hx2⟩
def cutsM (x:Mbr) (p:Str):Bool:=decide (x.status=4) && decide (0 < x.cut) && decide (x.cut<=numP p)
theorem cuts_any (x:Mbr) {A1 A2:Option Addr} {n1 c1 n2 c2:Nat} (p:Str) (hp:p.length < 4611686018427387904) (w:World) :
  Calls Tryz.prog 58 #[mbrV x (.slice A1 n1 c1) (.slice A2 n2 c2),St p] w fun e w'=>e=.returned (.bool (cutsM x p))/\Ext w w':=by
 have r1:=rowNew w 48 (mbrC x (.slice A1 n1 c1) (.slice A2 n2 c2))
 have hx:=(Ext.refl w).alloc (.cells (mbrC x (.slice A1 n1 c1) (.slice A2 n2 c2)).toArray 48)
 have HN:=Lib.hid (number1_any p hp)
 have k1:=r1.cell (j:=1) rfl
 have k3:=r1.cell (j:=3) rfl
 unfold mbrV
 unfold mbrC at r1 hx k1 k3
 clear r1
 by_cases h1:x.status=4
 ·have e1:((x.status:Int) == 4)=true:=by rw [beq_iff_eq];omega
  by_cases h2:0 < x.cut
  ·have HF:=Lib.hid (show cutsM x p=decide (x.cut<=numP p) by unfold cutsM;rw [decide_eq_true h1,decide_eq_true h2];rfl)
   have e2:x.cut > 0:=h2
   clear h1
   generalize (numP p:Int)=np at *
   go_enter Tryz.func58,Tryz.ntmps58
   go_wp2_with fail
   generalize w.alloc (.cells #[St x.path,U8 x.status,I x.kids,I x.cut,U x.last,.slice A1 n1 c1,St x.plan.keeper,U x.plan.round,St x.plan.live,St x.plan.by_,U x.plan.cap,St x.plan.owner,U x.plan.base,.bool x.plan.done,.slice A2 n2 c2] 48)=W0 at *
   go_region_held3 (fun W=>W.cell? ⟨w.heap.size,1,none⟩=some (U8 x.status)/\W.cell? ⟨w.heap.size,3,none⟩=some (I x.cut)/\Ext W0 W) (first | exact⟨k1,k3,(Ext.refl _).drew⟩ | exact⟨hb1.cell ‹_/\_/\Ext W0 _›.1,hb1.cell ‹_/\_/\Ext W0 _›.2.1,‹_/\_/\Ext W0 _›.2.2.trans hb1⟩) (first | (go_at_call 50;refine (HN.out _).mono ?_;rintro e w1 ⟨rfl,hb1⟩))
   have hX:=hx.trans (‹_/\_/\Ext W0 _›.2.2)
   go_wp2
   go_ret
   exact⟨by rw [HF.out];rfl,hX⟩
  ·have e2:decide (x.cut > 0)=false:=by simp;omega
   have e3:decide (0 < x.cut)=false:=by simp;omega
   have HF:=Lib.hid (show cutsM x p=false by unfold cutsM;rw [decide_eq_false h2];simp)
   clear h1 h2
   go_enter Tryz.func58,Tryz.ntmps58
   go_wp2_with fail
   generalize w.alloc (.cells #[St x.path,U8 x.status,I x.kids,I x.cut,U x.last,.slice A1 n1 c1,St x.plan.keeper,U x.plan.round,St x.plan.live,St x.plan.by_,U x.plan.cap,St x.plan.owner,U x.plan.base,.bool x.plan.done,.slice A2 n2 c2] 48)=W0 at *
   go_quiet (fail)
   go_wp2
   go_ret
   exact⟨by rw [HF.out];rfl,hx.drewN _⟩
 ·have e1:((x.status:Int) == 4)=false:=by rw [beq_eq_false_iff_ne];omega
  have HF:=Lib.hid (show cutsM x p=false by unfold cutsM;rw [decide_eq_false h1];simp)
  clear h1
  go_enter Tryz.func58,Tryz.ntmps58
  go_wp2_with fail
  generalize w.alloc (.cells #[St x.path,U8 x.status,I x.kids,I x.cut,U x.last,.slice A1 n1 c1,St x.plan.keeper,U x.plan.round,St x.plan.live,St x.plan.by_,U x.plan.cap,St x.plan.owner,U x.plan.base,.bool x.plan.done,.slice A2 n2 c2] 48)=W0 at *
  go_quiet (fail)
  go_wp2
  go_ret
  exact⟨by rw [HF.out];rfl,hx.drewN _⟩
def voidM (l:List Mbr) (p:Str):Bool:=match (idxP l (parP p)).bind (l[·]?) with | some x=>cutsM x p | none=>false
theorem void_any {S:Nat->Prop} {v:Value} {l:List Mbr} {w:World} {q:Nat} (hv:Sl mbrT w S v l) (hm:MapIs St (fun n:Nat=>I n) w q (placesL l)) (p:Str) (hp:p.length < 4611686018427387904) :
  Calls Tryz.prog 52 #[v,.map (some q),St p] w fun e w'=>e=.returned (.bool (voidM l p))/\Ext w w':=by
 have hv':=hv
 obtain⟨A,c,rfl,hc1,hc2⟩:=hv.form
 have HP:=Lib.hid (parent_any p hp)
 have hz:∀ w,(zeroValue 3).run Tryz.prog w=.ok (I (0:Nat)) w:=Tryz.zeroValue3
 have HM:=Lib.hid (fun w1 (hx:Ext w w1)=>places_run (hm.ext hx) hz (parP p))
 clear hv hm
 cases hi:idxP l (parP p) with
 | none =>
  rw [hi] at HM
  have HF:=Lib.hid (show voidM l p=false by unfold voidM;rw [hi];rfl)
  clear hi hv'
  generalize parP p=pp at *
  go_enter Tryz.func52,Tryz.ntmps52
  go_wp2_with fail
  refine (HP.out _).mono ?_
  rintro e w1 ⟨rfl,hx⟩
  have hlk:=HM.out w1 hx
  simp only [Option.getD_none,Option.isSome_none] at hlk
  go_wp2_with fail
  go_ret
  exact⟨by rw [HF.out];rfl,hx⟩
 | some i =>
  rw [hi] at HM
  have hil:=List.findIdx?_eq_some_iff_getElem.1 hi
  have hl:l=l.take i++l[i]'hil.1 :: l.drop (i+1):=by rw [List.getElem_cons_drop,List.take_append_drop]
  have HF:=Lib.hid (show voidM l p=cutsM (l[i]'hil.1) p by unfold voidM;rw [hi];simp [List.getElem?_eq_getElem hil.1])
  have hti:(l.take i).length=i:=by rw [List.length_take];have:=hil.1;omega
  have hlt:(i:Int) < l.length:=by have:=hil.1;omega
  have hlt':i < l.length:=hil.1
  generalize l[i]'hil.1=x at *
  have HAT:=Lib.hid (fun w1 (hx:Ext w w1)=>mbr_at (wr:=w1) hv' (fun b _ hb=>hx.block b hb) hl)
  have HC:=Lib.hid (fun (A1 A2:Option Addr) (n1 c1 n2 c2:Nat) w=>cuts_any x (A1:=A1) (A2:=A2) (n1:=n1) (c1:=c1) (n2:=n2) (c2:=c2) p hp w)
  unfold mbrV at HC
  rw [hti] at HAT
  clear hi hv' hil hl hti
  generalize parP p=pp at *
  go_enter Tryz.func52,Tryz.ntmps52
  go_wp2_with fail
  refine (HP.out _).mono ?_
  rintro e w1 ⟨rfl,hx⟩
  have hlk:=HM.out w1 hx
  simp only [Option.getD_some,Option.isSome_some] at hlk
  obtain⟨b,o,B1,d1,B2,d2,rfl,-,-,-,hc⟩:=HAT.out w1 hx
  obtain⟨k0,k1,k2,k3,k4,k5,k6,k7,k8,k9,k10,k11,k12,k13,k14⟩:=mbr_c15 hc
  clear hc
  go_wp2_with fail
  refine (HC.out _ _ _ _ _ _ _).mono ?_
  rintro e w2 ⟨rfl,hx2⟩
  go_wp2
  go_ret
  exact⟨by rw [HF.out];rfl,hx.trans hx2⟩
theorem Own.srcO {w:World} {base T k n c:Nat} {A:Option Addr} {xs:List Value} (h:Own w base T k (.slice A n c) n xs) (h1:∀ u ∈ xs,u.oneCell'=true):Src w k A n xs :=
 ⟨h.1,h1,fun hn=>by
  obtain⟨g,cap,cur,hv,-⟩:=h.pos hn
  have hv':=hv
  cases hv
  exact⟨g,0,rfl,fun j u hj=>by rw [Nat.zero_add];exact h.cell rfl hj⟩⟩
def goneAt (l:List Mbr) (q:Str):Bool:=match (idxP l (parP q)).bind (l[·]?) with | some x=>withinL x.gone (numP q) | none=>false
def forgottenM (l:List Mbr) (p:Str):Bool:=mayP p && (p :: chainP p).any (goneAt l)
theorem chainF_short:∀ (n:Nat) (p q:Str),q ∈ chainF n p->q.length<=p.length
 | 0,p,q,h=>by simp [chainF] at h
 | n+1,p,q,h=>by
  unfold chainF at h
  split at h
  ·cases h
  ·rcases List.mem_cons.1 h with rfl | h
   ·exact parP_len p
   ·exact Nat.le_trans (chainF_short n _ q h) (parP_len p)
theorem chainP_short {p q:Str} (h:q ∈ p :: chainP p):q.length<=p.length:=by
 rcases List.mem_cons.1 h with rfl | h
 ·exact Nat.le_refl _
 ·exact chainF_short _ _ _ h
theorem forgotten_any {S:Nat->Prop} {v:Value} {l:List Mbr} {w:World} {q0:Nat} (hv:Sl mbrT w S v l) (hm:MapIs St (fun n:Nat=>I n) w q0 (placesL l)) (p:Str) (hp:p.length < 4294967296) :
  Calls Tryz.prog 51 #[v,.map (some q0),St p] w fun e w'=>e=.returned (.bool (forgottenM l p))/\Ext w w':=by
 have hv':=hv
 obtain⟨A,c,rfl,hc1,hc2⟩:=hv.form
 have HM:=Lib.hid (may_any p (by omega))
 obtain⟨K,hK⟩:∃ K,forgottenM l p=K:=⟨_,rfl⟩
 rw [hK]
 have HK:=Lib.hid hK
 clear hv hK
 unfold forgottenM at HK
 cases hmay:mayP p with
 | false =>
  rw [hmay] at HK HM
  have HF:=Lib.hid (show false=K from HK.out)
  clear HK hv' hm
  go_enter Tryz.func51,Tryz.ntmps51
  go_wp2_with fail
  refine (HM.out _).mono ?_
  rintro e w1 ⟨rfl,hx⟩
  go_wp2
  go_ret
  exact⟨by rw [<- HF.out];rfl,hx⟩
 | true =>
  rw [hmay,Bool.true_and] at HK
  rw [hmay] at HM
  have hz:∀ w,(zeroValue 3).run Tryz.prog w=.ok (I (0:Nat)) w:=Tryz.zeroValue3
  have HLK:=Lib.hid (fun w1 (hx:Ext w w1) (k:Str)=>places_run (hm.ext hx) hz k)
  have HAT:=Lib.hid (fun (pre post:List Mbr) (x:Mbr) w1 (hx:Ext w w1) (hl:l=pre++x :: post)=>mbr_at (wr:=w1) hv' (fun b _ hb=>hx.block b hb) hl)
  have HCH:=Lib.hid (chain_any p hp)
  have hcl:=chainP_len p
  have HSH:=Lib.hid (fun q (h:q ∈ p :: chainP p)=>chainP_short h)
  have HPA:=Lib.hid parent_any
  have HNU:=Lib.hid number1_any
  have HWI:=Lib.hid (fun (S:Nat->Prop) (v:Value) (l:List Span) (w:World) (h:Sl spanT w S v l) (n:Int)=>within_any h n)
  clear hv' hm hmay
  go_enter Tryz.func51,Tryz.ntmps51
  go_wp2_with fail
  refine (HM.out _).mono ?_
  rintro e w1 ⟨rfl,hx1⟩
  go_wp2_with fail
  refine (HCH.out _).mono ?_
  rintro e w2 ⟨v2,rfl,ho2,hx2⟩
  obtain⟨A2,c2,rfl,-,-⟩:=ho2.form
  have r1:=(rowNew w1 9 [St p]).ext hx2
  have hx12:=((Ext.refl w1).alloc (.cells #[St p] 9)).trans hx2
  have o1:Own w2 w1.heap.size 9 1 (.slice (some ⟨w1.heap.size,0,none⟩) 1 1) 1 [St p]:=⟨rfl,.inr ⟨w1.heap.size,1,#[St p],rfl,Nat.le_refl _,by unfold RowIs at r1;simpa using r1,Nat.le_refl _,by omega,rfl,rfl⟩⟩
  have hz12:=hx12.size
  go_wp2_with (at_builtin;refine wpList_append_Own rfl (.tmp 15) (.tmp 17) 56 rfl w1.heap.size 9 1 16 (St []) Tryz.underlying56 info_str rfl (by omega) _ 1 [St p] rfl o1 _ (chainP p).length c2 ((chainP p).map St) rfl (ho2.srcO (by intro u hu;obtain⟨s,-,rfl⟩:=List.mem_map.1 hu;rfl)) (by omega) (by omega) (by omega) ?_;intro v3 w3 hown hgr;obtain⟨g,cap,cur,hv3,-,-⟩:=hown.pos (by omega);subst hv3)
  have HCE:=Lib.hid (fun (i:Nat) (s:Str) (hs:(p :: chainP p)[i]? = some s)=>hown.cell (j:=i) (u:=St s) rfl (by
   have:([St p]++(chainP p).map St)=(p :: chainP p).map St:=rfl
   rw [this,List.getElem?_map,hs];rfl))
  have HX3:=Lib.hid (((hx1.trans hx12).grew hgr (fun b hb=>Nat.le_trans hx1.size (o1.base_le hb).1)))
  have hll:(((1+(chainP p).length:Nat):Int))=(p :: chainP p).length:=by simp;omega
  clear hown hgr hx1 hx12 hx2 o1 r1 ho2
  generalize hL:p :: chainP p=L at *
  have hlen:(chainP p).length+1=L.length:=by rw [<- hL];simp
  obtain⟨n3,hn3⟩:∃ n3,1+(chainP p).length=n3:=⟨_,rfl⟩
  rw [hn3] at hll ⊢
  have hn3':n3=L.length:=by omega
  have hLb:L.length < 4294967297:=by omega
  subst hn3'
  go_loopw [20] (fun i wr=>∃ pre post,L=pre++post/\i=I pre.length/\(∀ s ∈ pre,goneAt l s=false)/\Ext w3 wr) (fun i _=>L.length - (intOf i).toNat)
  case atStart=>exact⟨[],L,rfl,rfl,by simp,Ext.refl _⟩
  case round =>
   obtain⟨pre,post,hl,rfl,hpre,hx⟩:=hrel
   cases post with
   | nil =>
    rw [List.append_nil] at hl
    subst hl
    have HF:=Lib.hid (show false=K by rw [<- HK.out];symm;rw [List.any_eq_false];intro s hs;rw [hpre s hs];simp)
    clear hpre
    go_wp2_with fail
    go_ret
    exact⟨by rw [<- HF.out];rfl,HX3.out.trans hx⟩
   | cons s post =>
    have hlt:pre.length < L.length:=by rw [hl];simp
    have hce:=hx.cell (HCE.out pre.length s (by rw [hl];simp))
    have hsl:s.length < 4611686018427387904:=by have:=HSH.out s (by rw [hl];simp);omega
    have HPs:=Lib.hid (HPA.out s hsl)
    have HNs:=Lib.hid (HNU.out s hsl)
    have HL:=Lib.hid hl
    have HPR:=Lib.hid hpre
    have HXR:=Lib.hid (HX3.out.trans hx)
    have HXX:=Lib.hid hx
    cases hi:idxP l (parP s) with
    | none =>
     have hg0:goneAt l s=false:=by unfold goneAt;rw [hi];rfl
     clear hl hpre hx
     go_wp2_with fail
     refine (HPs.out _).mono ?_
     rintro e w5 ⟨rfl,hx5⟩
     have hlk:=HLK.out w5 (HXR.out.trans hx5) (parP s)
     rw [hi] at hlk
     simp only [Option.getD_none,Option.isSome_none] at hlk
     clear hi
     go_wp2_with fail
     go_quiet (fail)
     go_wp2_with fail
     go_roundw
     case rel=>exact⟨pre++[s],post,by rw [HL.out];simp,by simp,fun u hu=>by
      rcases List.mem_append.1 hu with h | h
      ·exact HPR.out u h
      ·rw [List.mem_singleton.1 h];exact hg0,(HXX.out.trans hx5).drewN _⟩
     case measure=>simp [intOf];omega
    | some k =>
     have hil:=List.findIdx?_eq_some_iff_getElem.1 hi
     have hl2:l=l.take k++l[k]'hil.1 :: l.drop (k+1):=by rw [List.getElem_cons_drop,List.take_append_drop]
     have hti:(l.take k).length=k:=by rw [List.length_take];have:=hil.1;omega
     have hlt2:(k:Int) < l.length:=by have:=hil.1;omega
     have hlt3:k < l.length:=hil.1
     have hg0:goneAt l s=withinL (l[k]'hil.1).gone (numP s):=by unfold goneAt;rw [hi];simp [List.getElem?_eq_getElem hil.1]
     generalize l[k]'hil.1=x at *
     have hAT:=Lib.hid (fun w1 (h:Ext w w1)=>HAT.out (l.take k) (l.drop (k+1)) x w1 h hl2)
     have HTI:=Lib.hid hti
     clear hl2 hti HAT
     clear hl hpre hx hil
     go_wp2_with fail
     refine (HPs.out _).mono ?_
     rintro e w5 ⟨rfl,hx5⟩
     have hlk:=HLK.out w5 (HXR.out.trans hx5) (parP s)
     rw [hi] at hlk
     simp only [Option.getD_some,Option.isSome_some] at hlk
     obtain⟨b,o,B1,d1,B2,d2,rfl,-,hsp,-,hc⟩:=hAT.out w5 (HXR.out.trans hx5)
     rw [HTI.out] at hc
     have k5:=hc 5 _ rfl
     have HSP:=Lib.hid hsp
     have HX5:=Lib.hid (HXX.out.trans hx5)
     clear hi hAT hc hsp hx5
     cases hr:withinL x.gone (numP s) with
     | false =>
      have HWN:=Lib.hid (fun W (h:Ext w5 W)=>(HWI.out S _ _ W (HSP.out.ext (by decide) h) (numP s)))
      rw [hr] at HWN hg0
      clear hr HWI
      generalize (numP s:Int)=ns at *
      go_wp2_with fail
      go_region_held3 (fun W=>W.cell? ⟨b,o+k * 15+5,none⟩=some (.slice B1 x.gone.length d1)/\Ext w5 W) (first | exact⟨k5,(Ext.refl _).drew⟩ | exact⟨hb1.cell ‹_/\Ext w5 _›.1,‹_/\Ext w5 _›.2.trans hb1⟩) (first | (go_at_call 50;refine (HNs.out _).mono ?_;rintro e w6 ⟨rfl,hb1⟩) | (go_at_call 120;refine (HWN.out _ ‹_/\Ext w5 _›.2).mono ?_;rintro e w6 ⟨rfl,hb1⟩))
      have hX6:=‹_/\Ext w5 _›.2
      go_wp2_with fail
      go_roundw
      case rel=>exact⟨pre++[s],post,by rw [HL.out];simp,by simp,fun u hu=>by
       rcases List.mem_append.1 hu with h | h
       ·exact HPR.out u h
       ·rw [List.mem_singleton.1 h];exact hg0,HX5.out.trans hX6⟩
      case measure=>simp [intOf];omega
     | true =>
      have HWN:=Lib.hid (fun W (h:Ext w5 W)=>(HWI.out S _ _ W (HSP.out.ext (by decide) h) (numP s)))
      rw [hr] at HWN hg0
      have HF:=Lib.hid (show true=K by rw [<- HK.out];symm;rw [List.any_eq_true];exact⟨s,by rw [HL.out];simp,hg0⟩)
      clear hr HWI
      generalize (numP s:Int)=ns at *
      go_wp2_with fail
      go_region_held3 (fun W=>W.cell? ⟨b,o+k * 15+5,none⟩=some (.slice B1 x.gone.length d1)/\Ext w5 W) (first | exact⟨k5,(Ext.refl _).drew⟩ | exact⟨hb1.cell ‹_/\Ext w5 _›.1,‹_/\Ext w5 _›.2.trans hb1⟩) (first | (go_at_call 50;refine (HNs.out _).mono ?_;rintro e w6 ⟨rfl,hb1⟩) | (go_at_call 120;refine (HWN.out _ ‹_/\Ext w5 _›.2).mono ?_;rintro e w6 ⟨rfl,hb1⟩))
      have hX6:=‹_/\Ext w5 _›.2
      go_wp2_with fail
      go_ret
      exact⟨by rw [<- HF.out];rfl,HX3.out.trans (HX5.out.trans hX6)⟩
def atP (l:List Mbr) (p:Str):Option Mbr:=(idxP l p).bind (l[·]?)
theorem idx_some {l:List Mbr} {k:Str} {i:Nat} (hi:idxP l k=some i):∃ x,atP l k=some x/\x.path=k/\i < l.length/\l=l.take i++x :: l.drop (i+1)/\(l.take i).length=i:=by
 have hil:=List.findIdx?_eq_some_iff_getElem.1 hi
 refine ⟨l[i]'hil.1,?_,by simpa using hil.2.1,hil.1,by rw [List.getElem_cons_drop,List.take_append_drop],by rw [List.length_take];have:=hil.1;omega⟩
 unfold atP
 rw [hi]
 exact List.getElem?_eq_getElem hil.1
def voidChain (l:List Mbr):Str->List Str->Nat
 | _,[]=>0
 | below,a :: r=>match atP l a with
  | some x=>if cutsM x below then 4 else 0
  | none=>voidChain l a r
def knownM (l:List Mbr) (p:Str):Nat:=match atP l p with
 | some x=>x.status
 | none=>if forgottenM l p then 4 else voidChain l p (chainP p)
theorem at_none {l:List Mbr} {k:Str} (h:idxP l k=none):atP l k=none:=by unfold atP;rw [h];rfl
theorem known_any {S:Nat->Prop} {v:Value} {l:List Mbr} {w:World} (hv:Sl mbrT w S v l) (p:Str) (hp:p.length < 4294967296) :
  Calls Tryz.prog 21 #[v,St p] w fun e w'=>e=.returned (U8 (knownM l p))/\Ext w w':=by
 have hv':=hv
 obtain⟨A,c,rfl,hc1,hc2⟩:=hv.form
 have hz:∀ w,(zeroValue 3).run Tryz.prog w=.ok (I (0:Nat)) w:=Tryz.zeroValue3
 have HAT:=Lib.hid (fun (pre post:List Mbr) (x:Mbr) w1 (hx:Ext w w1) (hl:l=pre++x :: post)=>mbr_at (wr:=w1) hv' (fun b _ hb=>hx.block b hb) hl)
 have HPL:=Lib.hid (places_any hv')
 have HFG:=Lib.hid (fun w1 (q:Nat) (hx:Ext w w1) hm=>forgotten_any (q0:=q) (hv'.ext (by decide) hx) hm p hp)
 have HCH:=Lib.hid (chain_any p hp)
 have hcl:=chainP_len p
 have HCU:=Lib.hid (fun (x:Mbr) (s:Str) (hs:s.length < 4611686018427387904) (A1 A2:Option Addr) (n1 c1 n2 c2:Nat) w=>cuts_any x (A1:=A1) (A2:=A2) (n1:=n1) (c1:=c1) (n2:=n2) (c2:=c2) s hs w)
 obtain⟨K,hK⟩:∃ K,knownM l p=K:=⟨_,rfl⟩
 rw [hK]
 have HK:=Lib.hid hK
 clear hv hv' hK
 unfold knownM at HK
 go_enter Tryz.func21,Tryz.ntmps21
 go_wp2_with fail
 refine HPL.out.mono ?_
 rintro e w1 ⟨q,rfl,hq,hm,hx1⟩
 have HLK:=Lib.hid (fun w2 (hx:Ext w1 w2) (k:Str)=>places_run (hm.ext hx) hz k)
 have HFG:=Lib.hid (HFG.out w1 q hx1 hm)
 have hlk:=HLK.out w1 (Ext.refl _) p
 clear hm HPL
 cases hi:idxP l p with
 | some i =>
  rw [hi] at hlk
  simp only [Option.getD_some,Option.isSome_some] at hlk
  obtain⟨x,h1,-,h2,h3,h4⟩:=idx_some hi
  obtain⟨b,o,B1,d1,B2,d2,rfl,-,-,-,hc⟩:=HAT.out _ _ x w1 hx1 h3
  rw [h4] at hc
  have k1:=hc 1 _ rfl
  have HF:=Lib.hid (show x.status=K by rw [<- HK.out,h1])
  have h2':(i:Int) < l.length:=by omega
  clear hi h1 h3 h4 hc HAT
  go_wp2_with fail
  go_ret
  exact⟨by rw [<- HF.out];rfl,hx1⟩
 | none =>
  rw [hi] at hlk
  simp only [Option.getD_none,Option.isSome_none] at hlk
  have HK:=Lib.hid (show (if forgottenM l p then 4 else voidChain l p (chainP p))=K by rw [<- HK.out,at_none hi])
  clear hi
  cases hf:forgottenM l p with
  | true =>
   rw [hf] at HFG HK
   have HF:=Lib.hid (show 4=K from HK.out)
   clear hf HK
   go_wp2_with fail
   refine HFG.out.mono ?_
   rintro e w2 ⟨rfl,hx2⟩
   go_wp2_with fail
   go_ret
   exact⟨by rw [<- HF.out];rfl,hx1.trans hx2⟩
  | false =>
   rw [hf] at HFG HK
   have HK:=Lib.hid (show voidChain l p (chainP p)=K from HK.out)
   clear hf
   go_wp2_with fail
   refine HFG.out.mono ?_
   rintro e w2 ⟨rfl,hx2⟩
   go_wp2_with fail
   refine (HCH.out _).mono ?_
   rintro e w3 ⟨v3,rfl,ho3,hx3⟩
   obtain⟨A3,c3,rfl,-,-⟩:=ho3.form
   have HCE:=Lib.hid (fun (wr:World) (h:Ext w3 wr) (i:Nat) (s:Str) (hs:(chainP p)[i]? = some s)=>show ∃ g,A3=some ⟨g,0,none⟩/\wr.cell? ⟨g,i,none⟩=some (St s) from by
    have hl:=(List.getElem?_eq_some_iff.1 hs).1
    obtain⟨g,cap,cur,hv3,-⟩:=ho3.pos (by omega)
    injection hv3 with e1 e2 e3
    subst e1
    exact⟨g,rfl,h.cell (ho3.cell (j:=i) (u:=St s) (g:=g) (c:=c3) rfl (by rw [List.getElem?_map,hs];rfl))⟩)
   have HX3:=Lib.hid ((hx1.trans hx2).trans hx3)
   have HX13:=Lib.hid (hx2.trans hx3)
   have HSH:=Lib.hid (fun q (h:q ∈ chainP p)=>chainP_short (p:=p) (List.mem_cons_of_mem _ h))
   clear ho3 hx1 hx2 hx3 hlk
   obtain⟨L,hL⟩:∃ L,chainP p=L:=⟨_,rfl⟩
   rw [hL] at HK HCE HSH hcl ⊢
   clear hL
   go_wp2_with fail
   go_loopw [8,35] (fun bl i wr=>∃ pre post below,L=pre++post/\bl=St below/\below.length<=p.length/\i=I pre.length/\voidChain l below post=K/\Ext w3 wr) (fun _ i _=>L.length - (intOf i).toNat)
   case atStart=>exact⟨[],L,p,rfl,rfl,Nat.le_refl _,rfl,HK.out,Ext.refl _⟩
   case round =>
    obtain⟨pre,post,below,hl,rfl,hbl,rfl,hvc,hx⟩:=hrel
    cases post with
    | nil =>
     rw [List.append_nil] at hl
     subst hl
     have HF:=Lib.hid (show 0=K from hvc)
     clear hvc
     go_wp2_with fail
     go_ret
     exact⟨by rw [<- HF.out];rfl,HX3.out.trans hx⟩
    | cons a post =>
     have hlt:pre.length < L.length:=by rw [hl];simp
     obtain⟨g,rfl,hce⟩:=HCE.out wr hx pre.length a (by rw [hl];simp)
     have hal:=HSH.out a (by rw [hl];simp)
     have hlk:=HLK.out wr (HX13.out.trans hx) a
     have HL:=Lib.hid hl
     have HXX:=Lib.hid hx
     rw [voidChain] at hvc
     cases hi:idxP l a with
     | none =>
      rw [hi] at hlk
      simp only [Option.getD_none,Option.isSome_none] at hlk
      rw [at_none hi] at hvc
      have HV:=Lib.hid (show voidChain l a post=K from hvc)
      clear hi hvc hl hx
      go_wp2_with fail
      go_roundw
      case rel=>exact⟨pre++[a],post,a,by rw [HL.out];simp,rfl,hal,by simp,HV.out,HXX.out⟩
      case measure=>simp [intOf];omega
     | some i =>
      rw [hi] at hlk
      simp only [Option.getD_some,Option.isSome_some] at hlk
      obtain⟨x,h1,-,h2,h3,h4⟩:=idx_some hi
      obtain⟨b,o,B1,d1,B2,d2,rfl,-,-,-,hc⟩:=HAT.out _ _ x wr (HX3.out.trans hx) h3
      rw [h4] at hc
      obtain⟨k0,k1,k2,k3,k4,k5,k6,k7,k8,k9,k10,k11,k12,k13,k14⟩:=mbr_c15 hc
      have h2':(i:Int) < l.length:=by omega
      rw [h1] at hvc
      replace hvc:(if cutsM x below=true then 4 else 0)=K:=hvc
      have HC:=Lib.hid (HCU.out x below (by omega))
      unfold mbrV at HC
      cases hcut:cutsM x below with
      | true =>
       rw [hcut] at HC hvc
       have HF:=Lib.hid (show 4=K from hvc)
       clear hi h1 h3 h4 hc hvc hl hx hcut HAT
       go_wp2_with fail
       refine (HC.out _ _ _ _ _ _ _).mono ?_
       rintro e w5 ⟨rfl,hx5⟩
       go_wp2_with fail
       go_ret
       exact⟨by rw [<- HF.out];rfl,(HX3.out.trans HXX.out).trans hx5⟩
      | false =>
       rw [hcut] at HC hvc
       have HF:=Lib.hid (show 0=K from hvc)
       clear hi h1 h3 h4 hc hvc hl hx hcut HAT
       go_wp2_with fail
       refine (HC.out _ _ _ _ _ _ _).mono ?_
       rintro e w5 ⟨rfl,hx5⟩
       go_wp2_with fail
       go_ret
       exact⟨by rw [<- HF.out];rfl,(HX3.out.trans HXX.out).trans hx5⟩
theorem bare1_any {g n c tb i j:Nat} {p q:Str} {W:World} (hT:W.cell? ⟨tb,0,none⟩=some (.slice (some ⟨g,0,none⟩) n c)) (hx:W.cell? ⟨g,i * 15,none⟩=some (St p)) (hy:W.cell? ⟨g,j * 15,none⟩=some (St q)) (hi:i < n) (hj:j < n)
  (hp:p.length < 4611686018427387904) (hq:q.length < 4611686018427387904) :
  Calls Tryz.prog 88 #[I i,I j,.pointer (some ⟨tb,0,none⟩)] W fun e w'=>e=.returned (I (cmpI (deepP p:Int) (deepP q:Int)))/\Ext W w':=by
 obtain⟨dk,hdk⟩:∃ dk:Str->Nat,∀ s,deepP s=dk s:=⟨deepP,fun _=>rfl⟩
 have HD:=Lib.hid (fun (s:Str) (hs:s=p ∨ s=q) W=>(show Calls Tryz.prog 89 #[St s] W fun e w'=>e=.returned (I (dk s))/\Ext W w' from by
  rw [<- hdk]
  exact deep_any s (by rcases hs with rfl | rfl <;> assumption) W))
 rw [hdk p,hdk q]
 have HC:=Lib.hid (fun W=>(icmp_any (dk p:Int) (dk q) W).mono (R':=fun e w'=>e=.returned (I (cmpI (dk p:Int) (dk q)))/\Ext W w') (by rintro e w' ⟨rfl,rfl⟩;exact⟨rfl,Ext.refl _⟩))
 generalize cmpI (dk p:Int) (dk q)=K at *
 clear hdk hp hq
 have hi':(i:Int) < n:=by omega
 have hj':(j:Int) < n:=by omega
 go_enter Tryz.func88,Tryz.ntmps88
 go_wp2_with fail
 go_region_held3 (fun V=>V.cell? ⟨tb,0,none⟩=some (.slice (some ⟨g,0,none⟩) n c)/\V.cell? ⟨g,i * 15,none⟩=some (St p)/\V.cell? ⟨g,j * 15,none⟩=some (St q)/\Ext W V) (first | exact⟨hT,hx,hy,(Ext.refl _).drew⟩ | exact⟨hb1.cell ‹_/\_/\_/\Ext W _›.1,hb1.cell ‹_/\_/\_/\Ext W _›.2.1,hb1.cell ‹_/\_/\_/\Ext W _›.2.2.1,‹_/\_/\_/\Ext W _›.2.2.2.trans hb1⟩) (first | (go_at_call 89;refine (HD.out _ (by first | exact .inl rfl | exact .inr rfl) _).mono ?_;rintro e w1 ⟨rfl,hb1⟩) | (go_at_call 62;refine (HC.out _).mono ?_;rintro e w1 ⟨rfl,hb1⟩))
 have hX6:=‹_/\_/\_/\Ext W _›.2.2.2
 go_wp2
 go_ret
 exact⟨rfl,hX6⟩
def keepB (l:List Mbr) (s:Str):Bool:=match idxP l s with
 | some j=>match l[j]? with
  | some x=>decide (x.status=4)
  | none=>false
 | none=>false
theorem bare2_any {K:List Mbr} {gn c nb mb q:Nat} {x:Word} {W:World} (hN:W.cell? ⟨nb,0,none⟩=some (.slice (some ⟨gn,0,none⟩) K.length c)) (hM:W.cell? ⟨mb,0,none⟩=some (.map (some q))) (hm:MapIs St (fun n:Nat=>I n) W q (placesL K))
  (hst:∀ (j:Nat) y,K[j]? = some y->W.cell? ⟨gn,j * 15+1,none⟩=some (U8 y.status)) :
  Calls Tryz.prog 91 (#[.agg #[St x.of,U x.has,St x.keeper,U x.round,.bool x.agreed,U x.cap,.bool x.pruned]]++#[.pointer (some ⟨mb,0,none⟩),.pointer (some ⟨nb,0,none⟩)]) W fun e w'=>e=.returned (.bool (!keepB K x.of))/\Ext W w':=by
 have hz:∀ w,(zeroValue 3).run Tryz.prog w=.ok (I (0:Nat)) w:=Tryz.zeroValue3
 have hx:=(Ext.refl W).alloc (.cells #[St x.of,U x.has,St x.keeper,U x.round,.bool x.agreed,U x.cap,.bool x.pruned] 71)
 have hb:=(rowNew W 71 [St x.of,U x.has,St x.keeper,U x.round,.bool x.agreed,U x.cap,.bool x.pruned]).cell (j:=0) rfl
 have hN':=hx.cell hN
 have hM':=hx.cell hM
 have hlk:=places_run (hm.ext hx) hz x.of
 have HX:=Lib.hid hx
 cases hi:idxP K x.of with
 | none =>
  rw [hi] at hlk
  simp only [Option.getD_none,Option.isSome_none] at hlk
  have HF:=Lib.hid (show keepB K x.of=false by unfold keepB;rw [hi])
  clear hN hM hm hst hx hi hz
  simp only [List.append_toArray,List.cons_append,List.nil_append]
  go_enter Tryz.func91,Tryz.ntmps91
  go_wp2
  go_ret
  exact⟨by rw [HF.out];rfl,HX.out⟩
 | some j =>
  rw [hi] at hlk
  simp only [Option.getD_some,Option.isSome_some] at hlk
  obtain⟨y,h1,h2,h3,-,-⟩:=idx_some hi
  have hy:K[j]? = some y:=by unfold atP at h1;rw [hi] at h1;exact h1
  have hs:=hx.cell (hst j y hy)
  have HF:=Lib.hid (show keepB K x.of=decide (y.status=4) by unfold keepB;rw [hi];simp only [hy])
  have hj:(j:Int) < K.length:=by omega
  by_cases h4:y.status=4
  ·have e1:((y.status:Int) != 4)=false:=by rw [h4];rfl
   have HF:=Lib.hid (HF.out.trans (decide_eq_true h4))
   clear hN hM hm hst hx hi hz h1 h2 hy h4
   simp only [List.append_toArray,List.cons_append,List.nil_append]
   go_enter Tryz.func91,Tryz.ntmps91
   go_wp2
   go_ret
   exact⟨by rw [HF.out];rfl,HX.out⟩
  ·have e1:((y.status:Int) != 4)=true:=by rw [bne_iff_ne];omega
   have HF:=Lib.hid (HF.out.trans (decide_eq_false h4))
   clear hN hM hm hst hx hi hz h1 h2 hy h4
   simp only [List.append_toArray,List.cons_append,List.nil_append]
   go_enter Tryz.func91,Tryz.ntmps91
   go_wp2
   go_ret
   exact⟨by rw [HF.out];rfl,HX.out⟩
def findP (l:List Mbr) (p:Str):Option Mbr:=l.find? fun m=>decide (m.path=p)
theorem Own2.zero (w:World) (base:Nat):Own2 w base mbr0 (.slice none 0 0) (.slice none 0 0):=⟨Own.nil _ _ _ _ _,Own.nil _ _ _ _ _,fun b h=>by obtain⟨g,n,c,h,hc,rfl⟩:=h;cases h⟩
theorem of_any {S:Nat->Prop} {v:Value} {l:List Mbr} {w:World} (hv:Sl mbrT w S v l) (sm:SmallL l) (p:Str) :
  Calls Tryz.prog 22 #[v,St p] w fun e w'=>∃ u1 u2,e=.returned (.tuple #[mbrV ((findP l p).getD mbr0) u1 u2,.bool (findP l p).isSome])/\Own2 w' w.heap.size ((findP l p).getD mbr0) u1 u2/\Ext w w':=by
 have hv':=hv
 obtain⟨A,c,rfl,hc1,hc2⟩:=hv.form
 have r0:=rowNew w 48 [St [],.int .u8 0,I 0,I 0,.int .u64 0,.slice none 0 0,St [],.int .u64 0,St [],St [],.int .u64 0,St [],.int .u64 0,.bool false,.slice none 0 0]
 have hx0:=(Ext.refl w).alloc (.cells #[St [],.int .u8 0,I 0,I 0,.int .u64 0,.slice none 0 0,St [],.int .u64 0,St [],St [],.int .u64 0,St [],.int .u64 0,.bool false,.slice none 0 0] 48)
 have hz0:w.heap.size < (w.alloc (.cells #[St [],.int .u8 0,I 0,I 0,.int .u64 0,.slice none 0 0,St [],.int .u64 0,St [],St [],.int .u64 0,St [],.int .u64 0,.bool false,.slice none 0 0] 48)).heap.size:=by simp
 have HAT:=Lib.hid (fun (pre post:List Mbr) (x:Mbr) w1 (hx:Ext w w1) (hl:l=pre++x :: post)=>mbr_at (wr:=w1) hv' (fun b _ hb=>hx.block b hb) hl)
 obtain⟨K,hK⟩:∃ K,findP l p=K:=⟨_,rfl⟩
 rw [hK]
 have HK:=Lib.hid hK
 clear hv hv' hK
 go_enter Tryz.func22,Tryz.ntmps22
 go_wp2_with fail
 generalize w.alloc (.cells #[St [],.int .u8 0,I 0,I 0,.int .u64 0,.slice none 0 0,St [],.int .u64 0,St [],St [],.int .u64 0,St [],.int .u64 0,.bool false,.slice none 0 0] 48)=W0 at *
 go_loopw [10] (fun i wr=>∃ pre post,l=pre++post/\i=I pre.length/\(∀ x ∈ pre,x.path ≠ p)/\Ext W0 wr) (fun i _=>l.length - (intOf i).toNat)
 case atStart=>exact⟨[],l,rfl,rfl,by simp,Ext.refl _⟩
 case round =>
  obtain⟨pre,post,hl,rfl,hpre,hx⟩:=hrel
  cases post with
  | nil =>
   rw [List.append_nil] at hl
   subst hl
   have HF:=Lib.hid (show none=K by rw [<- HK.out];unfold findP;symm;rw [List.find?_eq_none];intro x hxm;simpa using hpre x hxm)
   have rr:=r0.ext hx
   obtain⟨k0,k1,k2,k3,k4,k5,k6,k7,k8,k9,k10,k11,k12,k13,k14⟩:=rr.c15
   obtain⟨f0,f1,f2,f3,f4,f5,f6,f7,f8,f9,f10,f11,f12,f13,f14⟩:=rr.f15
   have hxw:=hx0.trans hx
   clear hpre r0 hx0 hx
   go_wp2_with fail
   clear k0 k1 k2 k3 k4 k5 k6 k7 k8 k9 k10 k11 k12 k13 k14 f0 f1 f2 f3 f4 f5 f6 f7 f8 f9 f10 f11 f12 f13 f14
   (try simp only [Exit.inBlock,Exit.then])
   change bodyPost Tryz.prog Tryz.f22 _ Exit.ret _ (put15z wr w.heap.size (St []) (.int .u8 0) (I 0) (I 0) (.int .u64 0) (.slice none 0 0) (St []) (.int .u64 0) (St []) (St []) (.int .u64 0) (St []) (.int .u64 0) (.bool false) (.slice none 0 0))
   rw [put15z_eq]
   have r:=put15_mid (W:=wr) (g:=w.heap.size) [] [] rr (a0:=St []) (a1:=.int .u8 0) (a2:=I 0) (a3:=I 0) (a4:=.int .u64 0) (a5:=.slice none 0 0) (a6:=St []) (a7:=.int .u64 0) (a8:=St []) (a9:=St []) (a10:=.int .u64 0) (a11:=St []) (a12:=.int .u64 0) (a13:=.bool false) (a14:=.slice none 0 0)
   have hb:=put15_below (g:=w.heap.size) (o:=0) (a0:=St []) (a1:=.int .u8 0) (a2:=I 0) (a3:=I 0) (a4:=.int .u64 0) (a5:=.slice none 0 0) (a6:=St []) (a7:=.int .u64 0) (a8:=St []) (a9:=St []) (a10:=.int .u64 0) (a11:=St []) (a12:=.int .u64 0) (a13:=.bool false) (a14:=.slice none 0 0) hxw (Nat.le_refl _)
   simp only [List.nil_append,List.append_nil,List.length_nil] at r
   generalize put15 wr w.heap.size 0 (St []) (.int .u8 0) (I 0) (I 0) (.int .u64 0) (.slice none 0 0) (St []) (.int .u64 0) (St []) (St []) (.int .u64 0) (St []) (.int .u64 0) (.bool false) (.slice none 0 0)=W5 at *
   obtain⟨k0,k1,k2,k3,k4,k5,k6,k7,k8,k9,k10,k11,k12,k13,k14⟩:=r.c15
   refine bodyPost_ret (v:=.tuple #[mbrV mbr0 (.slice none 0 0) (.slice none 0 0),.bool false]) (by simp [results,Tryz.f22,go_sem,k0,k1,k2,k3,k4,k5,k6,k7,k8,k9,k10,k11,k12,k13,k14,mbrV,mbr0,plan0]) rfl ?_
   exact⟨.slice none 0 0,.slice none 0 0,by rw [<- HF.out];rfl,by rw [<- HF.out];exact Own2.zero _ _,hb⟩
  | cons x post =>
   obtain⟨b,o,A1,c1,A2,c2,rfl,-,hs1,hs2,hc⟩:=HAT.out pre post x wr (hx0.trans hx) hl
   obtain⟨k0,k1,k2,k3,k4,k5,k6,k7,k8,k9,k10,k11,k12,k13,k14⟩:=mbr_c15 hc
   have hlt:pre.length < l.length:=by rw [hl];simp
   have HL:=Lib.hid hl
   have hxa:=(Ext.refl wr).alloc (.cells #[St x.path,U8 x.status,I x.kids,I x.cut,U x.last,.slice A1 x.gone.length c1,St x.plan.keeper,U x.plan.round,St x.plan.live,St x.plan.by_,U x.plan.cap,St x.plan.owner,U x.plan.base,.bool x.plan.done,.slice A2 x.words.length c2] 48)
   obtain⟨j0,j1,j2,j3,j4,j5,j6,j7,j8,j9,j10,j11,j12,j13,j14⟩:=(rowNew wr 48 [St x.path,U8 x.status,I x.kids,I x.cut,U x.last,.slice A1 x.gone.length c1,St x.plan.keeper,U x.plan.round,St x.plan.live,St x.plan.by_,U x.plan.cap,St x.plan.owner,U x.plan.base,.bool x.plan.done,.slice A2 x.words.length c2]).c15
   by_cases hp:x.path=p
   ·have HF:=Lib.hid (show some x=K by rw [<- HK.out];unfold findP;rw [hl,List.find?_append,List.find?_eq_none.2 (fun y hy=>by simpa using hpre y hy)];simp [hp])
    have e0:(x.path == p)=true:=by simpa using hp
    have HONE:=Lib.hid (one_any (w:=wr.alloc (.cells #[St x.path,U8 x.status,I x.kids,I x.cut,U x.last,.slice A1 x.gone.length c1,St x.plan.keeper,U x.plan.round,St x.plan.live,St x.plan.by_,U x.plan.cap,St x.plan.owner,U x.plan.base,.bool x.plan.done,.slice A2 x.words.length c2] 48)) (hs1.ext (by decide) hxa) (hs2.ext (by decide) hxa) (sm.each x (by rw [hl];simp)).1 (sm.each x (by rw [hl];simp)).2)
    clear hl hpre hs1 hs2 hc hp
    unfold mbrV at HONE
    go_wp2_with fail
    clear k0 k1 k2 k3 k4 k5 k6 k7 k8 k9 k10 k11 k12 k13 k14 j0 j1 j2 j3 j4 j5 j6 j7 j8 j9 j10 j11 j12 j13 j14
    refine HONE.out.mono ?_
    rintro e W2 ⟨u1,u2,rfl,ho,hx2⟩
    clear HONE
    obtain⟨B1,b1,rfl,-,-⟩:=ho.gone.form
    obtain⟨B2,b2,rfl,-,-⟩:=ho.words.form
    have rr:=((r0.ext hx).ext hxa).ext hx2
    have hxw:=((hx0.trans hx).trans hxa).trans hx2
    have hsz:wr.heap.size < (wr.alloc (.cells #[St x.path,U8 x.status,I x.kids,I x.cut,U x.last,.slice A1 x.gone.length c1,St x.plan.keeper,U x.plan.round,St x.plan.live,St x.plan.by_,U x.plan.cap,St x.plan.owner,U x.plan.base,.bool x.plan.done,.slice A2 x.words.length c2] 48)).heap.size:=by simp
    have hww:=(hx0.trans hx).size
    obtain⟨k0,k1,k2,k3,k4,k5,k6,k7,k8,k9,k10,k11,k12,k13,k14⟩:=rr.c15
    obtain⟨f0,f1,f2,f3,f4,f5,f6,f7,f8,f9,f10,f11,f12,f13,f14⟩:=rr.f15
    have HO:=Lib.hid ho
    clear r0 hx0 hx hxa hx2 ho
    go_wp2_with fail
    clear k0 k1 k2 k3 k4 k5 k6 k7 k8 k9 k10 k11 k12 k13 k14 f0 f1 f2 f3 f4 f5 f6 f7 f8 f9 f10 f11 f12 f13 f14
    (try simp only [Exit.inBlock,Exit.then])
    change bodyPost Tryz.prog Tryz.f22 _ Exit.ret _ (put15z W2 w.heap.size (St x.path) (U8 x.status) (I x.kids) (I x.cut) (U x.last) (.slice B1 x.gone.length b1) (St x.plan.keeper) (U x.plan.round) (St x.plan.live) (St x.plan.by_) (U x.plan.cap) (St x.plan.owner) (U x.plan.base) (.bool x.plan.done) (.slice B2 x.words.length b2))
    rw [put15z_eq]
    have r:=put15_mid (W:=W2) (g:=w.heap.size) [] [] rr (a0:=St x.path) (a1:=U8 x.status) (a2:=I x.kids) (a3:=I x.cut) (a4:=U x.last) (a5:=.slice B1 x.gone.length b1) (a6:=St x.plan.keeper) (a7:=U x.plan.round) (a8:=St x.plan.live) (a9:=St x.plan.by_) (a10:=U x.plan.cap) (a11:=St x.plan.owner) (a12:=U x.plan.base) (a13:=.bool x.plan.done) (a14:=.slice B2 x.words.length b2)
    have hb:=put15_below (g:=w.heap.size) (o:=0) (a0:=St x.path) (a1:=U8 x.status) (a2:=I x.kids) (a3:=I x.cut) (a4:=U x.last) (a5:=.slice B1 x.gone.length b1) (a6:=St x.plan.keeper) (a7:=U x.plan.round) (a8:=St x.plan.live) (a9:=St x.plan.by_) (a10:=U x.plan.cap) (a11:=St x.plan.owner) (a12:=U x.plan.base) (a13:=.bool x.plan.done) (a14:=.slice B2 x.words.length b2) hxw (Nat.le_refl _)
    have hk:=fun b (h:b ≠ w.heap.size)=>put15_heap (W:=W2) (o:=0) (a0:=St x.path) (a1:=U8 x.status) (a2:=I x.kids) (a3:=I x.cut) (a4:=U x.last) (a5:=.slice B1 x.gone.length b1) (a6:=St x.plan.keeper) (a7:=U x.plan.round) (a8:=St x.plan.live) (a9:=St x.plan.by_) (a10:=U x.plan.cap) (a11:=St x.plan.owner) (a12:=U x.plan.base) (a13:=.bool x.plan.done) (a14:=.slice B2 x.words.length b2) h
    simp only [List.nil_append,List.append_nil,List.length_nil] at r
    generalize put15 W2 w.heap.size 0 (St x.path) (U8 x.status) (I x.kids) (I x.cut) (U x.last) (.slice B1 x.gone.length b1) (St x.plan.keeper) (U x.plan.round) (St x.plan.live) (St x.plan.by_) (U x.plan.cap) (St x.plan.owner) (U x.plan.base) (.bool x.plan.done) (.slice B2 x.words.length b2)=W5 at *
    obtain⟨k0,k1,k2,k3,k4,k5,k6,k7,k8,k9,k10,k11,k12,k13,k14⟩:=r.c15
    refine bodyPost_ret (v:=.tuple #[mbrV x (.slice B1 x.gone.length b1) (.slice B2 x.words.length b2),.bool true]) (by simp [results,Tryz.f22,go_sem,k0,k1,k2,k3,k4,k5,k6,k7,k8,k9,k10,k11,k12,k13,k14,mbrV]) rfl ?_
    exact⟨.slice B1 x.gone.length b1,.slice B2 x.words.length b2,by rw [<- HF.out];rfl,by
     rw [<- HF.out]
     exact (HO.out.keep fun b hb' _=>hk b (by have:=(HO.out.base_le hb').1;omega)).lower (by omega),hb⟩
   ·have e0:(x.path == p)=false:=by simpa using hp
    have HPR:=Lib.hid hpre
    have HPN:=Lib.hid hp
    have HX:=Lib.hid (hx.trans hxa)
    clear hl hpre hs1 hs2 hc hp hx hxa
    go_wp2_with fail
    go_roundw
    case rel=>exact⟨pre++[x],post,by rw [HL.out];simp,by simp,fun u hu=>by
     rcases List.mem_append.1 hu with h | h
     ·exact HPR.out u h
     ·rw [List.mem_singleton.1 h];exact HPN.out,HX.out⟩
    case measure=>simp [intOf];omega
theorem CopyM.sl {w:World} {base:Nat} {v:Value} {l:List Mbr} (h:CopyM w base v l):Sl mbrT w (fun b=>base<=b) v l:=by
 rcases h with ⟨rfl,A,c,rfl,hc⟩ | ⟨g,c,us,tail,rfl,hnc,hcm,hg,hrow,ho⟩
 ·exact Sl.nil A c hc
 ·refine ⟨some ⟨g,0,none⟩,c,rfl,by omega,hcm,fun pre x post hl=>?_⟩
  have hi:l[pre.length]? = some x:=by rw [hl];simp
  have hlt:pre.length < us.length:=by rw [ho.len,hl];simp
  obtain⟨u,hu⟩:∃ u,us[pre.length]? = some u:=⟨_,List.getElem?_eq_getElem hlt⟩
  have h2:=ho.each _ x u hi hu
  have hus:us=us.take pre.length++u :: us.drop (pre.length+1):=by
   rw [<- (List.getElem?_eq_some_iff.1 hu).2,List.getElem_cons_drop,List.take_append_drop]
  have hlen:(us.take pre.length).length=pre.length:=by rw [List.length_take];omega
  have hr:RowIs w g 48 (cellsM pre (us.take pre.length)++mbrC x u.1 u.2++cellsM post (us.drop (pre.length+1))) tail:=by
   have e:cellsM l us=cellsM pre (us.take pre.length)++mbrC x u.1 u.2++cellsM post (us.drop (pre.length+1)):=by
    conv=>lhs;rw [hl,hus]
    rw [cellsM_append hlen,cellsM_one,List.append_assoc]
   rw [<- e];exact hrow
  have hcl:=cellsM_len (l:=pre) (us:=us.take pre.length) hlen
  refine ⟨g,0,mbrC x u.1 u.2,rfl,hg,⟨u.1,u.2,rfl,own_slSpan h2.gone,own_slWord h2.words⟩,fun j y hj=>?_⟩
  have hjl:j < (mbrC x u.1 u.2).length:=(List.getElem?_eq_some_iff.1 hj).1
  refine hr.cell ?_
  rw [Nat.zero_add,show pre.length * mbrT.k=(cellsM pre (us.take pre.length)).length from hcl.symm,List.append_assoc,List.getElem?_append_right (Nat.le_add_right _ _),Nat.add_sub_cancel_left,List.getElem?_append_left hjl]
  exact hj
theorem CopyM.upd {w:World} {base g n c i j:Nat} {val:Value} {x x':Mbr} {l:List Mbr} (h:CopyM w base (.slice (some ⟨g,0,none⟩) n c) l) (hx:l[i]? = some x) (hg:x'.gone=x.gone) (hw:x'.words=x.words)
  (hset:∀ u1 u2,mbrC x' u1 u2=(mbrC x u1 u2).set j val) (hj:j < 15):CopyM (w.setCell ⟨g,i * 15+j,none⟩ val) base (.slice (some ⟨g,0,none⟩) n c) (l.set i x')/\base<=g:=by
 have hil:=(List.getElem?_eq_some_iff.1 hx).1
 rcases h with ⟨rfl,A,c',he,hc⟩ | ⟨g',c',us,tail,he,hnc,hcm,hbg,hrow,ho⟩
 ·simp at hil
 ·injection he with e1 e2 e3
  simp only [Option.some.injEq,Addr.mk.injEq,and_true] at e1
  subst e1 e2 e3
  have hlt:i < us.length:=by rw [ho.len];exact hil
  obtain⟨u,hu⟩:∃ u,us[i]? = some u:=⟨_,List.getElem?_eq_getElem hlt⟩
  have hl:l=l.take i++x :: l.drop (i+1):=by rw [<- (List.getElem?_eq_some_iff.1 hx).2,List.getElem_cons_drop,List.take_append_drop]
  have hus:us=us.take i++u :: us.drop (i+1):=by rw [<- (List.getElem?_eq_some_iff.1 hu).2,List.getElem_cons_drop,List.take_append_drop]
  have hlen:(us.take i).length=(l.take i).length:=by rw [List.length_take,List.length_take,ho.len]
  have hti:(l.take i).length=i:=by rw [List.length_take];omega
  have hcl:=cellsM_len (l:=l.take i) (us:=us.take i) hlen
  rw [hti] at hcl
  have e0:cellsM l us=cellsM (l.take i) (us.take i)++(mbrC x u.1 u.2++cellsM (l.drop (i+1)) (us.drop (i+1))):=by
   conv=>lhs;rw [hl,hus]
   rw [cellsM_append hlen,cellsM_one]
  have e1:cellsM (l.set i x') us=cellsM (l.take i) (us.take i)++(mbrC x' u.1 u.2++cellsM (l.drop (i+1)) (us.drop (i+1))):=by
   have:l.set i x'=l.take i++x' :: l.drop (i+1):=by rw [List.set_eq_take_append_cons_drop,if_pos hil]
   conv=>lhs;rw [this,hus]
   rw [cellsM_append hlen,cellsM_one]
  have hrs:(cellsM l us).set (i * 15+j) val=cellsM (l.set i x') us:=by
   rw [e0,e1,hset,<- hcl,List.set_append_right _ _ (Nat.le_add_right _ _),Nat.add_sub_cancel_left,List.set_append_left _ _ (by simp [mbrC];omega)]
  have hlc:=cellsM_len ho.len
  have hr:=hrow.set (j:=i * 15+j) (by omega) val
  rw [hrs] at hr
  refine ⟨.inr ⟨g,c,us,tail,by rw [List.length_set],by rw [List.length_set];exact hnc,hcm,hbg,hr,?_⟩,hbg⟩
  refine ⟨by rw [List.length_set];exact ho.len,fun k y v hy hv=>?_,ho.row,ho.apart⟩
  have hkp:∀ b,ownBlk v.1 b ∨ ownBlk v.2 b->b < w.heap.size->(w.setCell ⟨g,i * 15+j,none⟩ val).heap[b]? = w.heap[b]?:=fun b hb _=>Below.heap_setCell _ _ _ b (by
   rintro rfl
   have:=ho.row v (List.mem_of_getElem? hv)
   rcases hb with hb | hb
   ·exact this.1 hb
   ·exact this.2 hb)
  rw [List.getElem?_set] at hy
  split at hy
  ·rename_i hk
   subst hk
   cases hy
   have h2:=(ho.each i x v hx hv).keep hkp
   exact⟨by rw [hg];exact h2.gone,by rw [hw];exact h2.words,h2.apart⟩
  ·exact (ho.each k y v hy hv).keep hkp
def upM (l:List Mbr) (p:Str):List Mbr × Nat:=match idxP l p with
 | none=>([],200)
 | some i=>match l[i]? with
  | none=>([],200)
  | some x=>if x.status ≠ 1/\x.status ≠ 2 then ([],3) else (l.set i { x with status:=2 },0)
def leaveM (l:List Mbr) (p:Str) (n:Nat):List Mbr × Nat:=match idxP l p with
 | none=>([],200)
 | some i=>match l[i]? with
  | none=>([],200)
  | some x=>if p = [49] ∨ 281474976710656 < n then ([],2) else if x.status ≠ 2 then ([],3) else (l.set i { x with status:=3,last:=n },0)
theorem up_any {S:Nat->Prop} {v:Value} {l:List Mbr} {w:World} (hv:Sl mbrT w S v l) (sm:SmallL l) (p:Str) :
  Calls Tryz.prog 13 #[v,St p] w fun e w'=>∃ v',e=.returned (.tuple #[v',I (upM l p).2])/\Sl mbrT w' (fun b=>w.heap.size<=b) v' (upM l p).1/\Ext w w':=by
 have HC:=Lib.hid (copyM_any hv sm)
 have hz:∀ w,(zeroValue 3).run Tryz.prog w=.ok (I (0:Nat)) w:=Tryz.zeroValue3
 obtain⟨K,hK⟩:∃ K,upM l p=K:=⟨_,rfl⟩
 rw [hK]
 have HK:=Lib.hid hK
 clear hv hK
 unfold upM at HK
 go_enter Tryz.func13,Tryz.ntmps13
 go_wp2_with fail
 refine HC.out.mono ?_
 rintro e w1 ⟨v1,rfl,hcp,hx1⟩
 have HPL:=Lib.hid (places_any hcp.sl)
 go_wp2_with fail
 refine HPL.out.mono ?_
 rintro e w2 ⟨q,rfl,hq,hm,hx2⟩
 have hlk:=places_run hm hz p
 clear hm HPL HC
 cases hi:idxP l p with
 | none =>
  rw [hi] at hlk
  simp only [Option.getD_none,Option.isSome_none] at hlk
  have HF:=Lib.hid (show (([]:List Mbr),200)=K by rw [<- HK.out,hi])
  clear hi hcp
  go_wp2_with fail
  refine bodyPost_ret (results_tmp2 rfl _ _ _) rfl ?_
  exact⟨.slice none 0 0,by rw [<- HF.out];rfl,by rw [<- HF.out];exact Sl.nil _ _ (by omega),hx1.trans hx2⟩
 | some i =>
  rw [hi] at hlk
  simp only [Option.getD_some,Option.isSome_some] at hlk
  obtain⟨x,h1,-,h2,h3,h4⟩:=idx_some hi
  have hxi:l[i]? = some x:=by unfold atP at h1;rw [hi] at h1;exact h1
  have hsl:=hcp.sl
  obtain⟨A,c,rfl,-,-⟩:=hsl.form
  have hxx:=hx1.trans hx2
  have hcp2:CopyM w2 w.heap.size (.slice A l.length c) l:=by
   rcases hcp with ⟨e,a,b,e2,e3⟩ | ⟨g,c',us,tail,he,q1,q2,q3,q4,q5⟩
   ·exact .inl ⟨e,a,b,e2,e3⟩
   ·exact .inr ⟨g,c',us,tail,he,q1,q2,q3,q4.ext hx2,q5.ext hx2⟩
  obtain⟨b,o,B1,d1,B2,d2,rfl,-,-,-,hc⟩:=mbr_at (wr:=w2) hcp2.sl (fun _ _ _=>rfl) h3
  rw [h4] at hc
  have hob:o=0:=by
   rcases hcp2 with ⟨e,-⟩ | ⟨g,c',us,tail,he,-⟩
   ·rw [e] at h2;simp at h2
   ·injection he with e1 e2 e3;simp only [Option.some.injEq,Addr.mk.injEq] at e1;exact e1.2.1
  subst hob
  have k1:=hc 1 _ rfl
  rw [Nat.zero_add] at k1
  have hf1:w2.frozen? ⟨b,i * 15+1,none⟩=false:=by
   rcases hcp2 with ⟨e,-⟩ | ⟨g,c',us,tail,he,q1,q2,q3,q4,q5⟩
   ·rw [e] at h2;simp at h2
   ·injection he with e1 e2 e3
    simp only [Option.some.injEq,Addr.mk.injEq,and_true] at e1
    subst e1
    exact q4.frozen _
  have h2':(i:Int) < l.length:=by omega
  obtain⟨hupd,hbg⟩:=hcp2.upd (x':={ x with status:=2 }) (j:=1) (val:=U8 2) hxi rfl rfl (fun _ _=>rfl) (by omega)
  have HU:=Lib.hid hupd
  have HK:=Lib.hid (show (if x.status ≠ 1/\x.status ≠ 2 then ([],3) else (l.set i { x with status:=2 },0))=K by rw [<- HK.out,hi];simp only [hxi])
  clear hi hcp hcp2 hc hsl h1 hxi h3 h4 hupd
  by_cases s1:x.status=1
  ·have e1:((x.status:Int) != 1)=false:=by rw [s1];rfl
   have HF:=Lib.hid (show (l.set i { x with status:=2 },0)=K by rw [<- HK.out,if_neg (by omega)])
   clear s1 HK
   go_wp2_with fail
   refine bodyPost_ret (results_tmp2 rfl _ _ _) rfl ?_
   exact⟨.slice (some ⟨b,0,none⟩) l.length c,by rw [<- HF.out];rfl,by rw [<- HF.out];exact HU.out.sl,Below.setCell hxx hbg _⟩
  ·have e1:((x.status:Int) != 1)=true:=by rw [bne_iff_ne];omega
   by_cases s2:x.status=2
   ·have e2:((x.status:Int) != 2)=false:=by rw [s2];rfl
    have HF:=Lib.hid (show (l.set i { x with status:=2 },0)=K by rw [<- HK.out,if_neg (by omega)])
    clear s1 s2 HK
    go_wp2_with fail
    refine bodyPost_ret (results_tmp2 rfl _ _ _) rfl ?_
    exact⟨.slice (some ⟨b,0,none⟩) l.length c,by rw [<- HF.out];rfl,by rw [<- HF.out];exact HU.out.sl,Below.setCell hxx hbg _⟩
   ·have e2:((x.status:Int) != 2)=true:=by rw [bne_iff_ne];omega
    have HF:=Lib.hid (show (([]:List Mbr),3)=K by rw [<- HK.out,if_pos ⟨s1,s2⟩])
    clear s1 s2 HK
    go_wp2_with fail
    refine bodyPost_ret (results_tmp2 rfl _ _ _) rfl ?_
    exact⟨.slice none 0 0,by rw [<- HF.out];rfl,by rw [<- HF.out];exact Sl.nil _ _ (by omega),hxx⟩
def mbrB:Mbr:=⟨[49],2,0,0,0,[],plan0,[]⟩
theorem no_own_none {b:Nat}:¬ ownBlk (.slice none 0 0) b:=fun ⟨_,_,_,h,_,_⟩=>by cases h
theorem begin_any (w:World):Calls Tryz.prog 24 #[] w fun e w'=>∃ v',e=.returned v'/\Sl mbrT w' (fun b=>w.heap.size<=b) v' [mbrB]/\Ext w w':=by
 have hr:=rowNew w 48 (mbrC mbrB (.slice none 0 0) (.slice none 0 0))
 have hx:=(Ext.refl w).alloc (.cells (mbrC mbrB (.slice none 0 0) (.slice none 0 0)).toArray 48)
 have hs:CopyM (w.alloc (.cells (mbrC mbrB (.slice none 0 0) (.slice none 0 0)).toArray 48)) w.heap.size (.slice (some ⟨w.heap.size,0,none⟩) 1 1) [mbrB] :=
  .inr ⟨w.heap.size,1,[(.slice none 0 0,.slice none 0 0)],[],rfl,by simp,by omega,Nat.le_refl _,hr,⟨rfl,fun i x u hx hu=>by
   cases i with
   | zero =>
    simp at hx hu
    subst hx;subst hu
    exact⟨Own.nil _ _ _ _ _,Own.nil _ _ _ _ _,fun b h=>absurd h no_own_none⟩
   | succ i=>simp at hx,fun u hu=>by
    rw [List.mem_singleton.1 hu]
    exact⟨no_own_none,no_own_none⟩,List.pairwise_singleton _ _⟩⟩
 have HS:=Lib.hid hs.sl
 unfold mbrC mbrB plan0 at hx HS
 clear hs hr
 go_enter Tryz.func24,Tryz.ntmps24
 go_wp2
 go_ret
 exact⟨_,rfl,HS.out,hx⟩
theorem leave_any {S:Nat->Prop} {v:Value} {l:List Mbr} {w:World} (hv:Sl mbrT w S v l) (sm:SmallL l) (p:Str) (n:Nat) :
  Calls Tryz.prog 15 #[v,St p,U n] w fun e w'=>∃ v',e=.returned (.tuple #[v',I (leaveM l p n).2])/\Sl mbrT w' (fun b=>w.heap.size<=b) v' (leaveM l p n).1/\Ext w w':=by
 have HC:=Lib.hid (copyM_any hv sm)
 have hz:∀ w,(zeroValue 3).run Tryz.prog w=.ok (I (0:Nat)) w:=Tryz.zeroValue3
 obtain⟨K,hK⟩:∃ K,leaveM l p n=K:=⟨_,rfl⟩
 rw [hK]
 have HK:=Lib.hid hK
 clear hv hK
 unfold leaveM at HK
 go_enter Tryz.func15,Tryz.ntmps15
 go_wp2_with fail
 refine HC.out.mono ?_
 rintro e w1 ⟨v1,rfl,hcp,hx1⟩
 have HPL:=Lib.hid (places_any hcp.sl)
 go_wp2_with fail
 refine HPL.out.mono ?_
 rintro e w2 ⟨q,rfl,hq,hm,hx2⟩
 have hlk:=places_run hm hz p
 clear hm HPL HC
 cases hi:idxP l p with
 | none =>
  rw [hi] at hlk
  simp only [Option.getD_none,Option.isSome_none] at hlk
  have HF:=Lib.hid (show (([]:List Mbr),200)=K by rw [<- HK.out,hi])
  clear hi hcp
  go_wp2_with fail
  refine bodyPost_ret (results_tmp2 rfl _ _ _) rfl ?_
  exact⟨.slice none 0 0,by rw [<- HF.out];rfl,by rw [<- HF.out];exact Sl.nil _ _ (by omega),hx1.trans hx2⟩
 | some i =>
  rw [hi] at hlk
  simp only [Option.getD_some,Option.isSome_some] at hlk
  obtain⟨x,h1,-,h2,h3,h4⟩:=idx_some hi
  have hxi:l[i]? = some x:=by unfold atP at h1;rw [hi] at h1;exact h1
  have hsl:=hcp.sl
  obtain⟨A,c,rfl,-,-⟩:=hsl.form
  have hxx:=hx1.trans hx2
  have hcp2:CopyM w2 w.heap.size (.slice A l.length c) l:=by
   rcases hcp with ⟨e,a,b,e2,e3⟩ | ⟨g,c',us,tail,he,q1,q2,q3,q4,q5⟩
   ·exact .inl ⟨e,a,b,e2,e3⟩
   ·exact .inr ⟨g,c',us,tail,he,q1,q2,q3,q4.ext hx2,q5.ext hx2⟩
  obtain⟨b,o,B1,d1,B2,d2,rfl,-,-,-,hc⟩:=mbr_at (wr:=w2) hcp2.sl (fun _ _ _=>rfl) h3
  rw [h4] at hc
  have hob:o=0:=by
   rcases hcp2 with ⟨e,-⟩ | ⟨g,c',us,tail,he,-⟩
   ·rw [e] at h2;simp at h2
   ·injection he with e1 e2 e3;simp only [Option.some.injEq,Addr.mk.injEq] at e1;exact e1.2.1
  subst hob
  have k1:=hc 1 _ rfl
  rw [Nat.zero_add] at k1
  have hf1:w2.frozen? ⟨b,i * 15+1,none⟩=false:=by
   rcases hcp2 with ⟨e,-⟩ | ⟨g,c',us,tail,he,q1,q2,q3,q4,q5⟩
   ·rw [e] at h2;simp at h2
   ·injection he with e1 e2 e3
    simp only [Option.some.injEq,Addr.mk.injEq,and_true] at e1
    subst e1
    exact q4.frozen _
  have h2':(i:Int) < l.length:=by omega
  have k4:=hc 4 _ rfl
  rw [Nat.zero_add] at k4
  have hf4:w2.frozen? ⟨b,i * 15+4,none⟩=false:=by
   rcases hcp2 with ⟨e,-⟩ | ⟨g,c',us,tail,he,q1,q2,q3,q4,q5⟩
   ·rw [e] at h2;simp at h2
   ·injection he with e1 e2 e3
    simp only [Option.some.injEq,Addr.mk.injEq,and_true] at e1
    subst e1
    exact q4.frozen _
  obtain⟨hupd,hbg⟩:=hcp2.upd (x':={ x with status:=3 }) (j:=1) (val:=U8 3) hxi rfl rfl (fun _ _=>rfl) (by omega)
  obtain⟨hupd2,-⟩:=hupd.upd (i:=i) (x:={ x with status:=3 }) (x':={ x with status:=3,last:=n }) (j:=4) (val:=U n) (by rw [List.getElem?_set_self h2]) rfl rfl (fun _ _=>rfl) (by omega)
  rw [List.set_set] at hupd2
  have HU:=Lib.hid hupd2
  have HK:=Lib.hid (show (if p = [49] ∨ 281474976710656 < n then ([],2) else if x.status ≠ 2 then ([],3) else (l.set i { x with status:=3,last:=n },0))=K by rw [<- HK.out,hi];simp only [hxi])
  clear hi hcp hcp2 hc hsl h1 hxi h3 h4 hupd hupd2
  by_cases s1:p = [49]
  ·have e1:(p == [49])=true:=by simpa using s1
   have HF:=Lib.hid (show (([]:List Mbr),2)=K by rw [<- HK.out,if_pos (.inl s1)])
   subst s1
   clear HK
   go_wp2_with fail
   refine bodyPost_ret (results_tmp2 rfl _ _ _) rfl ?_
   exact⟨.slice none 0 0,by rw [<- HF.out];rfl,by rw [<- HF.out];exact Sl.nil _ _ (by omega),hxx⟩
  ·have e1:(p == [49])=false:=by simpa using s1
   by_cases s2:281474976710656 < n
   ·have e2:(n:Int) > 281474976710656:=by omega
    have HF:=Lib.hid (show (([]:List Mbr),2)=K by rw [<- HK.out,if_pos (.inr s2)])
    clear s1 s2 HK
    go_wp2_with fail
    refine bodyPost_ret (results_tmp2 rfl _ _ _) rfl ?_
    exact⟨.slice none 0 0,by rw [<- HF.out];rfl,by rw [<- HF.out];exact Sl.nil _ _ (by omega),hxx⟩
   ·have e2:¬ (n:Int) > 281474976710656:=by omega
    have hn:¬ (p = [49] ∨ 281474976710656 < n):=fun h=>by rcases h with h | h;exact s1 h;exact s2 h
    have HK:=Lib.hid (show (if x.status ≠ 2 then ([],3) else (l.set i { x with status:=3,last:=n },0))=K by rw [<- HK.out,if_neg hn])
    by_cases s3:x.status=2
    ·have e3:((x.status:Int) != 2)=false:=by rw [s3];rfl
     have HF:=Lib.hid (show (l.set i { x with status:=3,last:=n },0)=K by rw [<- HK.out,if_neg (by omega)])
     clear s1 s2 s3 HK
     go_wp2_with fail
     refine bodyPost_ret (results_tmp2 rfl _ _ _) rfl ?_
     exact⟨.slice (some ⟨b,0,none⟩) l.length c,by rw [<- HF.out];rfl,by rw [<- HF.out];exact HU.out.sl,Below.setCell (Below.setCell hxx hbg _) hbg _⟩
    ·have e3:((x.status:Int) != 2)=true:=by rw [bne_iff_ne];omega
     have HF:=Lib.hid (show (([]:List Mbr),3)=K by rw [<- HK.out,if_pos s3])
     clear s1 s2 s3 HK
     go_wp2_with fail
     refine bodyPost_ret (results_tmp2 rfl _ _ _) rfl ?_
     exact⟨.slice none 0 0,by rw [<- HF.out];rfl,by rw [<- HF.out];exact Sl.nil _ _ (by omega),hxx⟩
def posM (k:List Mbr) (p:Str):Nat:=(k.findIdx? fun x=>decide (0 < cmpPath x.path p)).getD k.length
def dropP (l:List Mbr) (p:Str):List Mbr:=l.filter fun x=>!decide (x.path=p)
def putM (l:List Mbr) (m:Mbr):List Mbr:=(dropP l m.path).take (posM (dropP l m.path) m.path)++m :: (dropP l m.path).drop (posM (dropP l m.path) m.path)
def RdMP (w:World) (S:Nat->Prop) (e:MP):Prop:=Sl spanT w S e.2.1 e.1.gone/\Sl wordT w S e.2.2 e.1.words
theorem ownL_mp {w:World} {base:Nat} {S:Nat->Prop} {v:Value} {L:List MP} (h:Own w base 48 15 v L.length (L.flatMap mpC)) (hr:∀ e ∈ L,RdMP w S e):OwnL mbrT 48 w base S v (L.map (·.1)):=by
 refine ⟨L.map mpC,by simp,fun i x vs hi hv=>?_,?_⟩
 ·rw [List.getElem?_map] at hi hv
  cases he:L[i]? with
  | none=>rw [he] at hi;cases hi
  | some e =>
   rw [he] at hi hv
   cases hi
   cases hv
   exact⟨e.2.1,e.2.2,rfl,(hr e (List.mem_of_getElem? he)).1,(hr e (List.mem_of_getElem? he)).2⟩
 ·rw [List.length_map,<- List.flatMap_def]
  exact h
theorem idxB_pos (p:Mbr->Bool) (L:List MP):idxB p L=match (L.map (·.1)).findIdx? p with | some i=>(i:Int) | none=>-1:=by
 unfold idxB
 rw [List.findIdx?_map]
 rfl
theorem mpC_cut (K:List MP) (e:MP) {i:Nat} (hi:i<=K.length):(K.flatMap mpC).take (i * 15)++mpC e++(K.flatMap mpC).drop (i * 15)=(K.take i++e :: K.drop i).flatMap mpC:=by
 have h1:((K.take i).flatMap mpC).length=i * 15:=by rw [mpC_len,List.length_take,Nat.min_eq_left hi]
 have h2:K.flatMap mpC=(K.take i).flatMap mpC++(K.drop i).flatMap mpC:=by rw [<- List.flatMap_append,List.take_append_drop]
 rw [h2,List.take_left' h1,List.drop_left' h1,List.flatMap_append,List.flatMap_cons,List.append_assoc]
theorem put1_any (x:Mbr) {A1 A2:Option Addr} {n1 c1 n2 c2:Nat} {mb:Nat} {W:World} {s:Str} (hB:W.cell? ⟨mb,0,none⟩=some (St s)) :
  Calls Tryz.prog 83 #[mbrV x (.slice A1 n1 c1) (.slice A2 n2 c2),.pointer (some ⟨mb,0,none⟩)] W fun e w'=>e=.returned (.bool (decide (x.path=s)))/\Ext W w':=by
 have hx:=(Ext.refl W).alloc (.cells (mbrC x (.slice A1 n1 c1) (.slice A2 n2 c2)).toArray 48)
 have hc:=hx.cell hB
 have k0:=(rowNew W 48 (mbrC x (.slice A1 n1 c1) (.slice A2 n2 c2))).cell (j:=0) rfl
 have HF:=Lib.hid (show decide (x.path=s)=(x.path == s) by rw [Bool.eq_iff_iff];simp)
 unfold mbrV
 unfold mbrC at hx hc k0
 go_enter Tryz.func83,Tryz.ntmps83
 go_wp2
 go_ret
 exact⟨by rw [HF.out];rfl,hx⟩
theorem put2_any (x:Mbr) {A1 A2:Option Addr} {n1 c1 n2 c2:Nat} {mb:Nat} {W:World} {s:Str} (hB:W.cell? ⟨mb,0,none⟩=some (St s)) (h1:x.path.length < 4294967296) (h2:s.length < 4294967296) :
  Calls Tryz.prog 85 #[mbrV x (.slice A1 n1 c1) (.slice A2 n2 c2),.pointer (some ⟨mb,0,none⟩)] W fun e w'=>e=.returned (.bool (decide (0 < cmpPath x.path s)))/\Ext W w':=by
 have hx:=(Ext.refl W).alloc (.cells (mbrC x (.slice A1 n1 c1) (.slice A2 n2 c2)).toArray 48)
 have hc:=hx.cell hB
 have k0:=(rowNew W 48 (mbrC x (.slice A1 n1 c1) (.slice A2 n2 c2))).cell (j:=0) rfl
 have HC:=Lib.hid (pcmp_any x.path s (by omega) (by omega))
 unfold mbrV
 unfold mbrC at hx hc k0
 generalize cmpPath x.path s=z at *
 go_enter Tryz.func85,Tryz.ntmps85
 go_wp2_with fail
 refine (HC.out _).mono ?_
 rintro e w2 ⟨rfl,hx2⟩
 go_wp2
 go_ret
 exact⟨rfl,hx.trans hx2⟩
theorem put_any {S S':Nat->Prop} {v v1 v2:Value} {l:List Mbr} {m:Mbr} {w:World} (hv:Sl mbrT w S v l) (sm:SmallL l) (h0:0 < l.length) (hp:∀ x ∈ l,x.path.length < 4294967296) (hm1:Sl spanT w S' v1 m.gone) (hm2:Sl wordT w S' v2 m.words)
  (hmp:m.path.length < 4294967296) (hmg:m.gone.length<=4294967296) (hmw:m.words.length<=4294967296) :
  Calls Tryz.prog 31 #[v,mbrV m v1 v2] w fun e w'=>∃ v',e=.returned v'/\Sl mbrT w' (fun b=>w.heap.size<=b) v' (putM l m)/\Ext w w':=by
 obtain⟨A1,c1,rfl,-,-⟩:=hm1.form
 obtain⟨A2,c2,rfl,-,-⟩:=hm2.form
 have hrm:=rowNew w 48 (mbrC m (.slice A1 m.gone.length c1) (.slice A2 m.words.length c2))
 have hx0:=(Ext.refl w).alloc (.cells (mbrC m (.slice A1 m.gone.length c1) (.slice A2 m.words.length c2)).toArray 48)
 have hz0:w.heap.size < (w.alloc (.cells (mbrC m (.slice A1 m.gone.length c1) (.slice A2 m.words.length c2)).toArray 48)).heap.size:=by simp
 have HCP:=Lib.hid (copyM_any (hv.ext (by decide) hx0) sm)
 have HM1:=Lib.hid (hm1.ext (by decide) hx0)
 have HM2:=Lib.hid (hm2.ext (by decide) hx0)
 clear hv hm1 hm2
 unfold mbrV
 unfold mbrC at hrm hx0 hz0 HCP HM1 HM2
 go_enter Tryz.func31,Tryz.ntmps31
 go_wp2_with fail
 generalize w.alloc (.cells #[St m.path,U8 m.status,I m.kids,I m.cut,U m.last,.slice A1 m.gone.length c1,St m.plan.keeper,U m.plan.round,St m.plan.live,St m.plan.by_,U m.plan.cap,St m.plan.owner,U m.plan.base,.bool m.plan.done,.slice A2 m.words.length c2] 48)=W0 at *
 refine HCP.out.mono ?_
 rintro e w1 ⟨v',rfl,hcp,hx1⟩
 clear HCP
 rcases hcp with ⟨e,-⟩ | ⟨g,c,us,tail,rfl,hnc,hcm,hg,hrow,ho⟩
 ·rw [e] at h0;simp at h0
 have hmb:w.heap.size ≠ g:=by omega
 obtain⟨L,hL⟩:∃ L,l.zip us=L:=⟨_,rfl⟩
 have hLl:L.map (·.1)=l:=by rw [<- hL];exact List.map_fst_zip (by rw [ho.len];exact Nat.le_refl _)
 have hLn:L.length=l.length:=by rw [<- hLl,List.length_map]
 have hEach:∀ e ∈ L,Own2 w1 W0.heap.size e.1 e.2.1 e.2.2/\(¬ ownBlk e.2.1 g/\¬ ownBlk e.2.2 g)/\e.1 ∈ l:=fun e he=>by
  obtain⟨i,hi⟩:=List.getElem?_of_mem he
  rw [<- hL,List.getElem?_zip_eq_some] at hi
  exact⟨ho.each i _ _ hi.1 hi.2,ho.row _ (List.mem_of_getElem? hi.2),List.mem_of_getElem? hi.1⟩
 have hForm:∀ e ∈ L,FormMP e:=fun e he=>by
  obtain⟨h2,-,-⟩:=hEach e he
  obtain⟨x,u1,u2⟩:=e
  obtain⟨B1,b1,e1,-,-⟩:=h2.gone.form
  obtain⟨B2,b2,e2,-,-⟩:=h2.words.form
  exact⟨x,B1,_,b1,B2,_,b2,by simp only at e1 e2;rw [e1,e2]⟩
 have hrowL:RowIs w1 g 48 (L.flatMap mpC) tail:=by rw [<- hL,<- cellsM_mp];exact hrow
 rw [<- hLn] at hnc
 have hnc0:=hnc
 replace hnc:L.length<=c:=by omega
 have hC:∀ W,Ext W0 W->W.cell? ⟨w.heap.size,0,none⟩=some (St m.path):=fun W h=>(hrm.ext h).cell (j:=0) rfl
 have hq1:PredP Tryz.prog 83 #[.pointer (some ⟨w.heap.size,0,none⟩)] (.slice (some ⟨g,0,none⟩) L.length c) (fun W=>W.cell? ⟨w.heap.size,0,none⟩=some (St m.path)) (fun x=>x.path.length < 4294967296) (fun x=>decide (x.path=m.path)) :=
  ⟨enters_of Tryz.func83 (by kernel_rfl) rfl,fun W W' h hb=>(World.cell?_of_block (a:=⟨w.heap.size,0,none⟩) (hb.same _ (blk_of_cell h) (fun ho=>by obtain⟨g',n',c',e,hc,e2⟩:=ho;cases e;exact hmb e2))).trans h,fun x B1 n1 c1 B2 n2 c2 W _ h=>put1_any x h⟩
 have hq2:∀ n,PredP Tryz.prog 85 #[.pointer (some ⟨w.heap.size,0,none⟩)] (.slice (some ⟨g,0,none⟩) n c) (fun W=>W.cell? ⟨w.heap.size,0,none⟩=some (St m.path)) (fun x=>x.path.length < 4294967296) (fun x=>decide (0 < cmpPath x.path m.path)) :=
  fun n=>⟨enters_of Tryz.func85 (by kernel_rfl) rfl,fun W W' h hb=>(World.cell?_of_block (a:=⟨w.heap.size,0,none⟩) (hb.same _ (blk_of_cell h) (fun ho=>by obtain⟨g',n',c',e,hc,e2⟩:=ho;cases e;exact hmb e2))).trans h,fun x B1 n1 c1 B2 n2 c2 W hl h=>put2_any x h hl hmp⟩
 have HDL:=Lib.hid (delete_mbr hrowL (fun e he=>⟨hForm e he,hp e.1 (hEach e he).2.2⟩) (by omega) hnc hcm hq1 (hC w1 hx1))
 rw [hLn] at HDL
 clear hrow hrowL hq1
 go_wp2_with fail
 refine HDL.out.mono ?_
 rintro e w2 ⟨tail2,rfl,hrow2,hbv,htl⟩
 clear HDL
 obtain⟨K,hK⟩:∃ K,(L.filter fun e=>!decide (e.1.path=m.path))=K:=⟨_,rfl⟩
 rw [hK] at hrow2 htl ⊢
 have hKsub:∀ e ∈ K,e ∈ L:=fun e he=>by rw [<- hK] at he;exact (List.mem_filter.1 he).1
 have hKl:K.map (·.1)=dropP l m.path:=by
  rw [<- hK,<- hLl]
  unfold dropP
  rw [List.filter_map]
  rfl
 have hKn:K.length<=L.length:=by rw [<- hK];exact List.length_filter_le _ _
 have hC2:w2.cell? ⟨w.heap.size,0,none⟩=some (St m.path):=(World.cell?_of_block (a:=⟨w.heap.size,0,none⟩) (hbv.same _ (show w.heap.size < w1.heap.size by have:=hx1.size;omega) (fun ho=>by obtain⟨g',n',c',e,hc,e2⟩:=ho;cases e;exact hmb e2))).trans (hC w1 hx1)
 have HIX:=Lib.hid (index_mbr (cap:=c) hrow2 (fun e he=>⟨hForm e (hKsub e he),hp e.1 (hEach e (hKsub e he)).2.2⟩) (by omega) (hq2 K.length) hC2)
 have hrm2:RowIs w2 w.heap.size 48 [St m.path,U8 m.status,I m.kids,I m.cut,U m.last,.slice A1 m.gone.length c1,St m.plan.keeper,U m.plan.round,St m.plan.live,St m.plan.by_,U m.plan.cap,St m.plan.owner,U m.plan.base,.bool m.plan.done,.slice A2 m.words.length c2] []:=(hbv.same _ (show w.heap.size < w1.heap.size by have:=hx1.size;omega) (fun ho=>by obtain⟨g',n',c',e,hc,e2⟩:=ho;cases e;exact hmb e2)).trans (hrm.ext hx1)
 obtain⟨z,hz⟩:∃ z,idxB (fun x=>decide (0 < cmpPath x.path m.path)) K=z:=⟨_,rfl⟩
 obtain⟨i,hpi,hil,hzi⟩:∃ i,posM (dropP l m.path) m.path=i/\i<=K.length/\((z=(i:Int)) ∨ (z = -1/\i=K.length)):=by
  refine ⟨_,rfl,?_,?_⟩
  ·unfold posM
   rw [<- hKl]
   cases h:(K.map (·.1)).findIdx? fun x=>decide (0 < cmpPath x.path m.path) with
   | none=>simp
   | some i=>have:=(List.findIdx?_eq_some_iff_findIdx_eq.1 h).1;simp at this;simp;omega
  ·rw [<- hz,idxB_pos,hKl]
   unfold posM
   cases (dropP l m.path).findIdx? fun x=>decide (0 < cmpPath x.path m.path) with
   | none=>right;simp [<- hKl]
   | some i=>left;rfl
 rw [hz] at HIX
 have hE02:Ext W0 w2:=⟨hbv.os.trans hx1.os,hbv.tape.trans hx1.tape,hbv.output.trans hx1.output,Nat.le_trans hx1.size hbv.size,fun b hb=>(hbv.same b (Nat.lt_of_lt_of_le hb hx1.size) (fun ho=>by obtain⟨g',n',c',e,hc,e2⟩:=ho;cases e;omega)).trans (hx1.block b hb)⟩
 have hO2:∀ e ∈ K,Own2 w2 W0.heap.size e.1 e.2.1 e.2.2/\¬ ownBlk e.2.1 g/\¬ ownBlk e.2.2 g:=fun e he=>by
  obtain⟨h2,⟨n1,n2⟩,-⟩:=hEach e (hKsub e he)
  refine ⟨h2.keep fun b hb hlt=>hbv.same b hlt (fun ho=>?_),n1,n2⟩
  obtain⟨g',n',c',e',hc,e2⟩:=ho
  cases e'
  subst e2
  exact hb.elim n1 n2
 have HINS0:(∀ (W4:World) (u1 u2:Value),Ext w2 W4->Own2 W4 w2.heap.size m u1 u2->(∃ B1 b1,u1=.slice B1 m.gone.length b1)->(∃ B2 b2,u2=.slice B2 m.words.length b2)->Calls Tryz.prog 86 #[.slice (some ⟨g,0,none⟩) K.length c,I i,.slice (some ⟨W4.heap.size,0,none⟩) 1 1] (W4.alloc (.cells (mbrC m u1 u2).toArray 48)) fun e w'=>∃ v',e=.returned v'/\Sl mbrT w' (fun b=>w.heap.size<=b) v' (putM l m)/\Ext W0 w'):=by
  rintro W4 u1 u2 h4 ho2 ⟨B1,b1,rfl⟩ ⟨B2,b2,rfl⟩
  have h4a:=h4.alloc (.cells (mbrC m (.slice B1 m.gone.length b1) (.slice B2 m.words.length b2)).toArray 48)
  have r4:=rowNew W4 48 (mbrC m (.slice B1 m.gone.length b1) (.slice B2 m.words.length b2))
  have ho2a:=ho2.ext ((Ext.refl W4).alloc (.cells (mbrC m (.slice B1 m.gone.length b1) (.slice B2 m.words.length b2)).toArray 48))
  have hsz:w2.heap.size<=W4.heap.size:=h4.size
  have hsz2:W0.heap.size<=w2.heap.size:=hE02.size
  generalize W4.alloc (.cells (mbrC m (.slice B1 m.gone.length b1) (.slice B2 m.words.length b2)).toArray 48)=W5 at *
  have hgw:g < w2.heap.size:=hrow2.lt
  have hown:Own W5 W0.heap.size 48 15 (.slice (some ⟨g,0,none⟩) K.length c) K.length (K.flatMap mpC):=(hrow2.ext h4a).own hg (by omega) hcm (by rw [List.length_append,mpC_len];omega) (List.take_of_length_le (by rw [mpC_len];exact Nat.le_refl _)) (mpC_len K)
  refine (insertC_any hown r4 rfl (fun u hu=>by simp [mbrC] at hu;rcases hu with h | h | h | h | h | h | h | h | h | h | h | h | h | h | h <;> subst h <;> rfl) (fun u hu=>?_) hil (by have:=sm.len;omega) (by have:=h4a.size;omega) (fun ho=>by obtain⟨g',n',c',e,hc,e2⟩:=ho;cases e;omega)).mono ?_
  ·obtain⟨e,he,hu⟩:=List.mem_flatMap.1 hu
   obtain⟨x,A1,n1,c1,A2,n2,c2,rfl⟩:=hForm e (hKsub e he)
   simp [mpC,mbrC] at hu
   rcases hu with h | h | h | h | h | h | h | h | h | h | h | h | h | h | h <;> subst h <;> rfl
  ·rintro e W6 ⟨v',rfl,hv6,hg6⟩
   refine ⟨v',rfl,?_,(hE02.trans h4a).grew hg6 (fun b hb=>(hown.base_le hb).1)⟩
   obtain⟨q,hq⟩:∃ q:MP,q=(m,.slice B1 m.gone.length b1,.slice B2 m.words.length b2):=⟨_,rfl⟩
   have e1:=mpC_cut K q hil
   rw [show mbrC m (.slice B1 m.gone.length b1) (.slice B2 m.words.length b2)=mpC q by rw [hq];rfl,e1] at hv6
   have hn6:K.length+1=(K.take i++q :: K.drop i).length:=by simp;omega
   rw [hn6] at hv6
   have hfst:(K.take i++q :: K.drop i).map (·.1)=putM l m:=by
    unfold putM
    rw [hpi,<- hKl]
    simp [List.map_take,List.map_drop,hq]
   have hin:∀ e ∈ K.take i++q :: K.drop i,e=q ∨ e ∈ K:=fun e he=>by
    rcases List.mem_append.1 he with h | h
    ·exact .inr (List.mem_of_mem_take h)
    ·rcases List.mem_cons.1 h with h | h
     ·exact .inl h
     ·exact .inr (List.mem_of_mem_drop h)
   have hsame:∀ b,b < W5.heap.size->b ≠ g->W6.heap[b]? = W5.heap[b]?:=fun b hb hn=>hg6.same b hb (fun ho=>by
    obtain⟨g',n',c',e,hc,e2⟩:=ho
    cases e
    exact hn e2)
   rw [<- hfst]
   refine (ownL_mp (S:=fun b=>W0.heap.size<=b) hv6 (fun e he=>?_)).sl (by decide) (fun b _ hb=>by omega) (fun b hb _=>by omega)
   have h2:Own2 W6 W0.heap.size e.1 e.2.1 e.2.2:=by
    rcases hin e he with rfl | hk
    ·rw [hq]
     exact (ho2a.keep fun b hb hlt=>hsame b hlt (by have:=(ho2a.base_le hb).1;omega)).lower hsz2
    ·obtain⟨h2,n1,n2⟩:=hO2 e hk
     exact (h2.ext h4a).keep fun b hb hlt=>hsame b hlt (fun e=>by subst e;exact hb.elim n1 n2)
   exact⟨own_slSpan h2.gone,own_slWord h2.words⟩
 have HR2:=Lib.hid hrow2
 have HINS:=Lib.hid HINS0
 clear HINS0
 clear hrow2 hq2 hC2 hrm hForm hEach hbv hO2
 go_wp2_with fail
 refine HIX.out.mono ?_
 rintro e w3 ⟨rfl,hx3⟩
 clear HIX
 have HN1:=Lib.hid ((HM1.out.ext (by decide) hE02).ext (by decide) hx3)
 have HN2:=Lib.hid ((HM2.out.ext (by decide) hE02).ext (by decide) hx3)
 have HX23:=Lib.hid hx3
 have HS:=Lib.hid hx3.size
 have HZ:=Lib.hid hx0
 clear HM1 HM2
 obtain⟨k0,k1,k2,k3,k4,k5,k6,k7,k8,k9,k10,k11,k12,k13,k14⟩:=(hrm2.ext hx3).c15
 clear hx3 hrm2 hx0 hz0 hx1 hE02
 rcases hzi with rfl | ⟨rfl,rfl⟩
 case' inl =>
  have d:decide ((i:Int) < 0)=false:=by simp
  go_wp2_with fail
 case' inr=>go_wp2_with fail
 all_goals
  refine (one_any HN1.out HN2.out hmg hmw).mono ?_
  rintro e W4 ⟨u1,u2,rfl,ho2,hx4⟩
  obtain⟨B1,b1,rfl,-,-⟩:=ho2.gone.form
  obtain⟨B2,b2,rfl,-,-⟩:=ho2.words.form
  have HCALL:=Lib.hid (HINS.out W4 _ _ (HX23.out.trans hx4) ⟨ho2.gone.lower HS.out,ho2.words.lower HS.out,ho2.apart⟩ ⟨_,_,rfl⟩ ⟨_,_,rfl⟩)
  unfold mbrV
  clear hx4 ho2 HINS
  go_wp2_with fail
  refine HCALL.out.mono ?_
  rintro e W6 ⟨v',rfl,hs,hx⟩
  clear HCALL
  go_wp2
  go_ret
  exact⟨v',rfl,hs,HZ.out.trans hx⟩
theorem sl_at {α:Type} {T:Shape α} {hk:0 < T.k} {w wr:World} {S:Nat->Prop} {A:Option Addr} {n c:Nat} {ls pre post:List (List α)} {l:List α} (h:Sl (slT T hk) w S (.slice A n c) ls) (hb:Ext w wr) (hl:ls=pre++l :: post) :
  ∃ b o v,A=some ⟨b,o,none⟩/\wr.cell? ⟨b,o+pre.length,none⟩=some v/\Sl T w S v l:=by
 obtain⟨b,o,vs,c',hv,hS,⟨v,rfl,hv1⟩,hc⟩:=h.at_ hl
 injection hv with e1 e2 e3
 subst e1
 have h0:=hc 0 _ rfl
 simp only [slT,Nat.mul_one,Nat.add_zero] at h0
 exact⟨b,o,v,rfl,hb.cell h0,hv1⟩
theorem growSp_any (n:Nat) (w:World) (hn:n<=1099511627776) :
  Calls Tryz.prog 171 #[.slice none 0 0,I n] w fun r w'=>∃ v,r=.returned v/\Own w' w.heap.size 76 2 v 0 []/\Ext w w':=by
 rcases Nat.eq_zero_or_pos n with rfl | h0
 ·go_enter Tryz.func171,Tryz.ntmps171
  go_wp2
  go_ret
  exact⟨_,rfl,Own.nil _ _ _ _ _,Ext.refl _⟩
 ·obtain⟨i0,hi0,hz0,hzs,hzb⟩:=info_parts info_span
  have hold:(Builtin.firstCells i0.size 0 (.slice none 0 0)).run Tryz.prog w.drew=.ok ([]:List Value).toArray w.drew:=run_firstCells_none w.drew i0.size 0 0 0
  obtain⟨G,hG⟩:∃ G,G=grownCap w n 0 76:=⟨_,rfl⟩
  have hGn:n<=G:=by rw [hG];exact grownCap_ge w _ _ _
  have hG63:G<=9223372036854775807:=by
   have:=grownCap_le_maxLen w n 0 76 (by unfold maxLen;omega)
   rw [<- hG] at this
   unfold maxLen at this
   omega
  obtain⟨Z,hZ⟩:∃ Z:Array Value,Z=(#[]++Builtin.zeroCells (spanV (0,0)).cells n++Builtin.zeroCells (spanV (0,0)).cells (G - n)):=⟨_,rfl⟩
  have hZs:Z.size=G * 2:=by
   rw [hZ]
   have:(spanV (0,0)).cells.size=2:=rfl
   simp only [Array.size_append,size_zeroCells,this]
   simp
   omega
  have hrz:∀ ty,(Builtin.append_ #[41,3] ty #[.slice none 0 0,.int .i64 (n:Int)]).run Tryz.prog w =
    .ok (.slice (some ⟨w.heap.size,0,none⟩) n G) (w.drew.alloc (.cells Z 76)):=fun ty=>by
   have h:=Lib.run_append_grow_zeros w 41 3 ty 76 i0 _ .i64 .i64 Tryz.underlying41 Tryz.underlying3 hi0 hz0 none 0 0 [] hold n h0 (by omega) (by omega) (by omega) (by rw [hzb];omega) (by rw [hzb];exact growslice_fits (by omega) (by omega))
   simp only [Nat.zero_add] at h
   rw [<- hG] at h
   rw [h,hZ]
  have hpos:(n:Int) > 0:=by omega
  have hw1:wrap64 ((n:Int) - 0)=n:=by unfold wrap64;omega
  have hown:Own (w.drew.alloc (.cells Z 76)) w.heap.size 76 2 (.slice (some ⟨w.heap.size,0,none⟩) 0 G) 0 [] :=
   Own.of_ownsRow (World.ownsRow_made (base:=w.heap.size) w.drew Z G (Nat.le_refl _) (by unfold maxLen;omega) hZs)
  have hx:Ext w (w.drew.alloc (.cells Z 76)):=(Ext.refl w).drew.alloc _
  have HOW:=Lib.hid hown
  have HX:=Lib.hid hx
  clear hown hx hold hi0 hz0 hzs hzb hG hZ hZs
  go_enter Tryz.func171,Tryz.ntmps171
  go_wp2_with (at_builtin;refine wpList_append_runI _ rfl _ _ 41 3 rfl _ _ rfl rfl (hrz _) ?_;clear hrz)
  all_goals (go_ret;exact⟨_,rfl,HOW.out,HX.out⟩)
theorem src_span {w:World} {S:Nat->Prop} {A:Option Addr} {n c:Nat} {l:List Span} (h:Sl spanT w S (.slice A n c) l):Src w 2 A l.length (l.flatMap spanC):=by
 obtain⟨vss,h1,h2,h3⟩:=h.src
 have:vss=l.map spanC:=by
  refine List.ext_getElem? fun i=>?_
  rw [List.getElem?_map]
  cases hl:l[i]? with
  | none=>rw [List.getElem?_eq_none_iff] at hl;exact List.getElem?_eq_none_iff.2 (by omega)
  | some x =>
   cases hv:vss[i]? with
   | none=>rw [List.getElem?_eq_none_iff] at hv;have:=(List.getElem?_eq_some_iff.1 hl).1;omega
   | some vs=>simp only [Option.map_some];congr 1;exact h2 i x vs hl hv
 subst this
 rw [List.flatMap_def]
 exact h3
theorem concatSp_any {S:Nat->Prop} {v:Value} {ls:List (List Span)} {w:World} (hv:Sl (slT spanT (by decide)) w S v ls) (hlen:ls.flatten.length<=1099511627776) :
  Calls Tryz.prog 140 #[v] w fun r w'=>∃ v',r=.returned v'/\Own w' w.heap.size 76 2 v' ls.flatten.length (ls.flatten.flatMap spanC)/\Ext w w':=by
 have hv':=hv
 obtain⟨A,c,rfl,hc1,hc2⟩:=hv.form
 have HAT:=Lib.hid (fun (pre post:List (List Span)) (l:List Span) (wr:World) (h:Ext w wr) (hl:ls=pre++l :: post)=>sl_at hv' h hl)
 have HLE:=Lib.hid (fun (pre post:List (List Span)) (l:List Span) (hl:ls=pre++l :: post)=>(show pre.flatten.length+l.length<=1099511627776 from by
  have:=hlen
  rw [hl,List.flatten_append,List.flatten_cons,List.length_append,List.length_append] at this
  omega))
 have HG:=Lib.hid (growSp_any ls.flatten.length w hlen)
 clear hv hv'
 go_enter Tryz.func140,Tryz.ntmps140
 go_wp2_with fail
 go_loopw [3,11] (fun z i wr=>∃ pre post,ls=pre++post/\i=I pre.length/\z=I pre.flatten.length/\wr=w) (fun _ i _=>ls.length - (intOf i).toNat)
 case atStart=>exact⟨[],ls,rfl,rfl,rfl,rfl⟩
 case round =>
  obtain⟨pre,post,hl,rfl,rfl,rfl⟩:=hrel
  cases post with
  | cons l post =>
   obtain⟨b,o,vl,rfl,hd,hsl⟩:=HAT.out pre post l _ (Ext.refl _) hl
   have hlt:pre.length < ls.length:=by rw [hl];simp
   obtain⟨A2,c2,rfl,hc3,hc4⟩:=hsl.form
   have hle:=HLE.out pre post l hl
   have hwz:wrap64 ((pre.flatten.length:Int)+(l.length:Int))=((pre.flatten.length+l.length:Nat):Int):=by unfold wrap64;omega
   have hneg:(((pre.flatten.length+l.length:Nat):Int) < 0)=False:=eq_false (by omega)
   have HL:=Lib.hid hl
   obtain⟨z,hz⟩:∃ z,z=pre.flatten.length:=⟨_,rfl⟩
   have HZ:=Lib.hid hz
   rw [<- hz] at hwz hneg ⊢
   clear hl hsl hle hz
   go_wp2_with fail
   go_roundw
   case rel=>exact⟨pre++[l],post,by rw [HL.out];simp,by simp,by rw [List.flatten_append,List.flatten_cons,List.flatten_nil,List.append_nil,List.length_append,<- HZ.out];first | rfl | rw [hwz] | simp,by first | rfl | trivial⟩
   case measure=>simp [intOf];omega
  | nil =>
   rw [List.append_nil] at hl
   have HL:=Lib.hid hl
   have hlen2:ls.length=pre.length:=by rw [hl]
   have HF:=Lib.hid (show ls.flatten.length=pre.flatten.length by rw [hl])
   have HG2:=HG.out
   rw [HF.out] at HG2
   obtain⟨z,hz⟩:∃ z,z=pre.flatten.length:=⟨_,rfl⟩
   rw [<- hz] at HG2 ⊢
   have HG3:=Lib.hid HG2
   clear hl hz HG2 HG HF HL
   go_wp2_with fail
   refine HG3.out.mono ?_
   rintro r W1 ⟨v1,rfl,hown1,hx1⟩
   obtain⟨A1,c1,rfl,-,-⟩:=hown1.form
   have HO1:=Lib.hid hown1
   have HX1:=Lib.hid hx1
   clear hown1 hx1
   go_wp2_with fail
   go_loopw [6,27] (fun u i wr=>∃ pre post,ls=pre++post/\i=I pre.length/\Own wr _ 76 2 u pre.flatten.length (pre.flatten.flatMap spanC)/\Ext _ wr) (fun _ i _=>ls.length - (intOf i).toNat)
   case atStart=>exact⟨[],ls,rfl,rfl,HO1.out,HX1.out⟩
   case round =>
    obtain⟨pre,post,hl,rfl,hown,hx⟩:=hrel
    cases post with
    | cons l post =>
     obtain⟨b,o,vl,rfl,hd,hsl⟩:=HAT.out pre post l _ hx hl
     have hlt:pre.length < ls.length:=by rw [hl];simp
     obtain⟨A2,c2,rfl,hc3,hc4⟩:=hsl.form
     have hle:=HLE.out pre post l hl
     have hsrc:=src_span (hsl.ext (by decide) hx)
     have HL:=Lib.hid hl
     have HO:=Lib.hid hown
     have HX:=Lib.hid hx
     have hn3:=hx.size
     obtain⟨A4,c4,rfl,-,-⟩:=hown.form
     clear hl hsl hx
     go_wp2_with (at_builtin;refine wpList_append_Own rfl (.tmp 31) (.tmp 32) 41 rfl _ 76 2 16 (spanV (0,0)) Tryz.underlying41 info_span rfl (by omega) _ pre.flatten.length (pre.flatten.flatMap spanC) rfl hown _ l.length _ (l.flatMap spanC) rfl hsrc (by omega) (by omega) hn3 ?_;intro v' w' hown2 hgr;clear hsrc)
     go_roundw
     case rel=>exact⟨pre++[l],post,by rw [HL.out];simp,by simp,by simpa using hown2,Ext.grewOwn HX.out hgr HO.out (Nat.le_refl _)⟩
     case measure=>simp [intOf];omega
    | nil =>
     rw [List.append_nil] at hl
     have HL:=Lib.hid hl
     have hlen2:ls.length=pre.length:=by rw [hl]
     have HO:=Lib.hid hown
     have HX:=Lib.hid hx
     obtain⟨A4,c4,rfl,-,-⟩:=hown.form
     clear hl hx hown
     go_wp2_with fail
     go_ret
     exact⟨_,rfl,by rw [HL.out];exact HO.out,HX.out⟩
end
section
def mrgF:Span->List Span->List Span
 | s,[]=>[s]
 | s,t :: r=>if t.1<=s.2 then mrgF (s.1,max s.2 t.2) r else s :: mrgF t r
def mrg:List Span->List Span
 | []=>[]
 | s :: r=>mrgF s r
def SepF:Int->List Span->Prop
 | _,[]=>True
 | n,s :: r=>n < s.1/\s.1 < s.2/\SepF s.2 r
def Sep:List Span->Prop
 | []=>True
 | s :: r=>s.1 < s.2/\SepF s.2 r
def sp (s:Span):Bool:=decide (s.1 < s.2)
def SrtS (l:List Span):Prop:=l.Pairwise fun s t=>s.1<=t.1
theorem inS_iff {n:Int} {s:Span}:inS n s=true↔s.1<=n/\n < s.2:=by unfold inS;simp
theorem withinL_iff {l:List Span} {n:Int}:withinL l n=true↔∃ s ∈ l,s.1<=n/\n < s.2:=by
 unfold withinL
 rw [List.any_eq_true]
 constructor
 ·rintro⟨s,h1,h2⟩;exact⟨s,h1,inS_iff.1 h2⟩
 ·rintro⟨s,h1,h2⟩;exact⟨s,h1,inS_iff.2 h2⟩
theorem SepF.sep {n:Int}:∀ {l:List Span},SepF n l->Sep l
 | [],_=>trivial
 | _ :: _,h=>h.2
theorem SepF.lt {n:Int}:∀ {l:List Span},SepF n l->∀ s ∈ l,n < s.1
 | [],_,_,h=>by simp at h
 | t :: r,h,s,hs=>by
  rcases List.mem_cons.1 hs with rfl | hs
  ·exact h.1
  ·have:=SepF.lt h.2.2 s hs
   have:=h.1
   have:=h.2.1
   omega
theorem mrgF_sep:∀ (r:List Span) (s:Span),s.1 < s.2->(∀ t ∈ r,s.1<=t.1/\t.1 < t.2)->SrtS r->∀ n,n < s.1->SepF n (mrgF s r)
 | [],s,hs,_,_,n,hn=>⟨hn,hs,trivial⟩
 | t :: r,s,hs,hr,hsr,n,hn=>by
  have ht:=hr t (by simp)
  have hsr':=List.pairwise_cons.1 hsr
  unfold mrgF
  split
  ·exact mrgF_sep r (s.1,max s.2 t.2) (by show s.1 < max s.2 t.2;omega) (fun u hu=>⟨(hr u (by simp [hu])).1,(hr u (by simp [hu])).2⟩) hsr'.2 n hn
  ·rename_i h
   exact⟨hn,hs,mrgF_sep r t ht.2 (fun u hu=>⟨hsr'.1 u hu,(hr u (by simp [hu])).2⟩) hsr'.2 s.2 (by omega)⟩
theorem mrgF_in:∀ (r:List Span) (s:Span),(∀ t ∈ r,s.1<=t.1)->SrtS r->∀ n,withinL (mrgF s r) n=withinL (s :: r) n
 | [],s,_,_,n=>rfl
 | t :: r,s,hr,hsr,n=>by
  have ht:=hr t (by simp)
  have hsr':=List.pairwise_cons.1 hsr
  unfold mrgF
  split
  ·rename_i h
   rw [mrgF_in r (s.1,max s.2 t.2) (fun u hu=>hr u (by simp [hu])) hsr'.2 n,Bool.eq_iff_iff,withinL_iff,withinL_iff]
   constructor
   ·rintro⟨u,hu,h1,h2⟩
    rcases List.mem_cons.1 hu with rfl | hu
    ·by_cases h3:n < s.2
     ·exact⟨s,by simp,h1,h3⟩
     ·exact⟨t,by simp,by omega,by have:n < max s.2 t.2:=h2;omega⟩
    ·exact⟨u,by simp [hu],h1,h2⟩
   ·rintro⟨u,hu,h1,h2⟩
    rcases List.mem_cons.1 hu with rfl | hu
    ·exact⟨(u.1,max u.2 t.2),by simp,h1,by show n < max u.2 t.2;omega⟩
    ·rcases List.mem_cons.1 hu with rfl | hu
     ·exact⟨(s.1,max s.2 u.2),by simp,by show s.1<=n;omega,by show n < max s.2 u.2;omega⟩
     ·exact⟨u,by simp [hu],h1,h2⟩
  ·have ih:=mrgF_in r t (fun u hu=>hsr'.1 u hu) hsr'.2 n
   rw [Bool.eq_iff_iff,withinL_iff,withinL_iff] at ih ⊢
   constructor
   ·rintro⟨u,hu,h1⟩
    rcases List.mem_cons.1 hu with rfl | hu
    ·exact⟨u,by simp,h1⟩
    ·obtain⟨u',hu',h2⟩:=ih.1 ⟨u,hu,h1⟩
     exact⟨u',by simp [hu'],h2⟩
   ·rintro⟨u,hu,h1⟩
    rcases List.mem_cons.1 hu with rfl | hu
    ·exact⟨u,by simp,h1⟩
    ·obtain⟨u',hu',h2⟩:=ih.2 ⟨u,hu,h1⟩
     exact⟨u',by simp [hu'],h2⟩
theorem sep_eq:∀ {a b:List Span},Sep a->Sep b->(∀ n,withinL a n=withinL b n)->a=b
 | [],[],_,_,_=>rfl
 | [],t :: r,_,hb,h=>by
  have:=(withinL_iff.2 ⟨t,by simp,Int.le_refl _,hb.1⟩:withinL (t :: r) t.1=true)
  rw [<- h] at this
  simp [withinL] at this
 | s :: r,[],ha,_,h=>by
  have:=(withinL_iff.2 ⟨s,by simp,Int.le_refl _,ha.1⟩:withinL (s :: r) s.1=true)
  rw [h] at this
  simp [withinL] at this
 | s :: a,t :: b,ha,hb,h=>by
  have first:∀ {s:Span} {a:List Span} {t:Span} {b:List Span},Sep (s :: a)->Sep (t :: b)->(∀ n,withinL (s :: a) n=withinL (t :: b) n)->t.1<=s.1:=fun {s a t b} ha hb h=>by
   have h1:=(withinL_iff.2 ⟨s,by simp,Int.le_refl _,ha.1⟩:withinL (s :: a) s.1=true)
   rw [h] at h1
   obtain⟨u,hu,h2,h3⟩:=withinL_iff.1 h1
   rcases List.mem_cons.1 hu with rfl | hu
   ·exact h2
   ·have:=SepF.lt hb.2 u hu
    have:=hb.1
    omega
  have e1:s.1=t.1:=by
   have h1:=first ha hb h
   have h2:=first hb ha (fun n=>(h n).symm)
   omega
  have last:∀ {s:Span} {a:List Span} {t:Span} {b:List Span},Sep (s :: a)->Sep (t :: b)->(∀ n,withinL (s :: a) n=withinL (t :: b) n)->s.1=t.1->s.2<=t.2:=fun {s a t b} ha hb h e=>by
   by_cases hlt:s.2<=t.2
   ·exact hlt
   ·have h1:=(withinL_iff.2 ⟨s,by simp,by have:=hb.1;omega,by omega⟩:withinL (s :: a) t.2=true)
    rw [h] at h1
    obtain⟨u,hu,h2,h3⟩:=withinL_iff.1 h1
    rcases List.mem_cons.1 hu with rfl | hu
    ·omega
    ·have:=SepF.lt hb.2 u hu
     omega
  have e2:s.2=t.2:=by
   have h1:=last ha hb h e1
   have h2:=last hb ha (fun n=>(h n).symm) e1.symm
   omega
  have e:s=t:=Prod.ext e1 e2
  subst e
  congr 1
  refine sep_eq ha.2.sep hb.2.sep fun n=>?_
  have hn:=h n
  rw [Bool.eq_iff_iff,withinL_iff,withinL_iff] at hn ⊢
  have aux:∀ {a b:List Span},SepF s.2 a->((∃ u ∈ s :: a,u.1<=n/\n < u.2)->∃ u ∈ s :: b,u.1<=n/\n < u.2)->(∃ u ∈ a,u.1<=n/\n < u.2)->∃ u ∈ b,u.1<=n/\n < u.2:=fun {a b} ha hi ⟨u,hu,h1,h2⟩=>by
   obtain⟨u',hu',h3,h4⟩:=hi ⟨u,by simp [hu],h1,h2⟩
   rcases List.mem_cons.1 hu' with rfl | hu'
   ·have:=SepF.lt ha u hu
    omega
   ·exact⟨u',hu',h3,h4⟩
  exact⟨aux ha.2 hn.1,aux hb.2 hn.2⟩
theorem mrg_sep {l:List Span} (hs:SrtS l) (hn:∀ s ∈ l,s.1 < s.2):Sep (mrg l):=by
 cases l with
 | nil=>trivial
 | cons s r=>exact (mrgF_sep r s (hn s (by simp)) (fun t ht=>⟨(List.pairwise_cons.1 hs).1 t ht,hn t (by simp [ht])⟩) (List.pairwise_cons.1 hs).2 (s.1 - 1) (by omega)).sep
theorem mrg_in {l:List Span} (hs:SrtS l) (n:Int):withinL (mrg l) n=withinL l n:=by
 cases l with
 | nil=>rfl
 | cons s r=>exact mrgF_in r s (fun t ht=>(List.pairwise_cons.1 hs).1 t ht) (List.pairwise_cons.1 hs).2 n
def spansM (a b:List Span):List Span:=mrg (((a++b).filter sp).mergeSort fun s t=>decide (s.1<=t.1))
theorem spans_srt (l:List Span):SrtS (l.mergeSort fun s t=>decide (s.1<=t.1)):=by
 have:=List.pairwise_mergeSort (le:=fun (s t:Span)=>decide (s.1<=t.1)) (fun a b c h1 h2=>by simp at h1 h2 ⊢;omega) (fun a b=>by simp;omega) l
 exact this.imp fun h=>by simpa using h
theorem spansM_sep (a b:List Span):Sep (spansM a b):=mrg_sep (spans_srt _) fun s hs=>by
 have:=(List.mem_filter.1 ((List.mergeSort_perm _ _).subset hs)).2
 simpa [sp] using this
theorem withinL_perm {a b:List Span} (h:a.Perm b) (n:Int):withinL a n=withinL b n:=by
 rw [Bool.eq_iff_iff,withinL_iff,withinL_iff]
 exact⟨fun ⟨s,hs,k⟩=>⟨s,h.subset hs,k⟩,fun ⟨s,hs,k⟩=>⟨s,h.symm.subset hs,k⟩⟩
theorem withinL_sp (l:List Span) (n:Int):withinL (l.filter sp) n=withinL l n:=by
 rw [Bool.eq_iff_iff,withinL_iff,withinL_iff]
 constructor
 ·rintro⟨s,hs,k⟩;exact⟨s,(List.mem_filter.1 hs).1,k⟩
 ·rintro⟨s,hs,k⟩;exact⟨s,List.mem_filter.2 ⟨hs,by simp [sp];omega⟩,k⟩
theorem withinL_append (a b:List Span) (n:Int):withinL (a++b) n=(withinL a n || withinL b n):=by unfold withinL;rw [List.any_append]
theorem spansM_in (a b:List Span) (n:Int):withinL (spansM a b) n=(withinL a n || withinL b n):=by
 unfold spansM
 rw [mrg_in (spans_srt _),withinL_perm (List.mergeSort_perm _ _),withinL_sp,withinL_append]
theorem mrg_any {a b d:List Span} (hp:d.Perm ((a++b).filter sp)) (hs:SrtS d):mrg d=spansM a b:=by
 refine sep_eq (mrg_sep hs fun s h=>?_) (spansM_sep a b) fun n=>?_
 ·have:=(List.mem_filter.1 (hp.subset h)).2
  simpa [sp] using this
 ·rw [mrg_in hs,withinL_perm hp,withinL_sp,withinL_append,spansM_in]
end
end Go.Proofs.YtblkikjmocnllaaGreatDoor
