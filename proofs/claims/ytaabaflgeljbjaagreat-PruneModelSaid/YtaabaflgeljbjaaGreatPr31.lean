/- Laws. -/
import Derived.Test.YtaabaflgeljbjaaGreatPr05
import Derived.Test.YtaabaflgeljbjaaGreatPr01
import Derived.Test.YtaabaflgeljbjaaGreatPr21
import Derived.Lib.Overlaps
import Derived.Lib.AppendZerosOnto
import Derived.Laws.Externs
import Derived.Shelf.RegionOpenPlain
set_option linter.unusedVariables false
set_option linter.unusedSimpArgs false
set_option maxRecDepth 100000
set_option maxHeartbeats 40000000
namespace Go.Proofs.YtaabaflgeljbjaaGreat
open Go.Value renaming slice→Xa
open Go.Obj renaming cells→Xb
open Go.Ending renaming returned→Xc
open Go renaming World→Xd,Value→Xe
open List renaming length_append→Qa,append_assoc→Qb,append_nil→Qc,length_take→Qd,length_drop→Qe,getElem?_append_right→Qf,take_left→Qj,length_nil→Qk,length→Ql,getElem?_take→Qm,take_length→Qn,drop_length→Qo
open Nat renaming zero_add→Qg,min_def→Qh,eq_or_lt_of_le→Qi
section
open Go.RowKit Go.Shelf
theorem zct {P:Program}{w:Xd}{l sT d T g o dLen dCap sLen sCap k m:Nat}{s:Addr}{a b c cs:List Xe}(y:P.underlying l=some (.slice d))(p:(P.info? d).map (·.size)=some k)(f:RowIs w g T (a++(b++c)) [])(u:a.length=o)(t:m=Nat.min sLen dLen)(r:cs.length=m * k)(hb:b.length=cs.length)(x:∀j v,cs[j]? = some v->w.cell? (s.add j)=some v)(h1:∀v∈cs,v.oneCell'=true)(z:TypeId) :
  (Builtin.copy_ #[l,sT] z #[Xa (some ⟨g,o,none⟩) dLen dCap,Xa (some s) sLen sCap]).run P w=.ok (goInt m) (w.setRow g (a++(cs++c)).toArray):=by
 have n:=run_loadCells_list (P:=P) w s cs x;unfold RowIs at f;rw[Qc]at f;have q:=run_storeCells_at P g o T cs 0 _ w f (by simp;omega) h1
 have e:((a++(b++c)).toArray.toList.take (o+0)++cs++(a++(b++c)).toArray.toList.drop (o+0+cs.length))=a++(cs++c):=by
  subst u;simp only[Nat.add_zero,Qj,Qb]
  congr 2
  rw[List.drop_append,<- hb];simp
 rw[e]at q
 cases h:P.info? d
 case none=>simp[h]at p
 rename_i i
 have hi:i.size=k:=by simpa[h]using p
 rw[r]at n;simp[Builtin.copy_,run_underlying y,Builtin.lenOf,Builtin.firstCells,sizeOf,typeInfo,h,hi,<- t,n,q]
theorem zf5 {P:Program}{c:Array Oper}{o:Oper}{a:Act}{w:Xd}{K:Act->Xd->Prop}{Q:Exit->Act->Xd->Prop}{E:Prop}(f:o.guard=none)(d x:Operand)(b sT:TypeId)(g:o.op=Op.call { callee:=Callee.builtin Builtin.copy,args:=#[d,x],argTypes:=#[b,sT] })(v u:Xe)(e:a.eval d=v)(j:a.eval x=u){v':Xe}{w':Xd}(h:(Builtin.copy_ #[b,sT] o.type #[v,u]).run P w=.ok v' w')(hK:K (a.put o.dst v') w') :
  if Region.wanted o (yielded c a.tmps)=true then Oper.wp P o a w K Q else E:=by
 have i:Region.wanted o (yielded c a.tmps)=true:=by simp[Region.wanted,f]
 rw[zP i];unfold Oper.wp;simp[execOp,g,resolve,invoke,builtin,e,j,h,Result.andThen];exact hK
theorem zfw {P:Program}(w:Xd){b:Array Oper}{c:List Oper}{o:Oper}{a:Act}{Q:Exit->Act->Xd->Prop}(h:o.guard=none)(d s:Operand)(t e:TypeId)(i:o.op=.call { callee:=.builtin .append,args:=#[d,s],argTypes:=#[t,e] })(v u:Xe)(g:a.eval d=v)(k:a.eval s=u){v':Xe}{w':Xd}(j:(Builtin.append_ #[t,e] o.type #[v,u]).run P w=.ok v' w')(f:wpList P b Q c (a.put o.dst v') w'):wpList P b Q (o::c) a w :=
 wpList_plain h fun _ hK=>by unfold Oper.wp execOp;simp only[i,resolve,invoke,builtin,Sem.run_bind,Sem.run_pure,Result.andThen_ok,List.map_toArray,List.map_cons,List.map_nil,g,k,j];exact hK _ _ f
abbrev zeroEnt:Xe:=.agg #[St [],Xa none 0 0,Xa none 0 0,Xa none 0 0,U 0,St [],.bool false]
theorem ziq:(Tryz.prog.info? 46).map (·.size)=some 7:=by
 have:=zc0
 cases h:Tryz.prog.info? 46 with
 | none=>rw[h]at this;simp at this
 | some i=>rw[h]at this;simp at this;simp[this.2.1]
theorem zu0 {base:Nat}{v:Xe}{n b:Nat}{xs a:List Xe}{w:Xd}(h:Own w base 46 7 v n xs)(k:RowIs w b 46 a [])(q:a.length=7)(l:∀u∈a,u.oneCell'=true)(p:n<=549755813888)(hb:base<=w.heap.size) :
  Calls Tryz.prog 88 #[v,I n,Xa (some ⟨b,0,none⟩) 1 1] w fun r w'=>∃v',r=Xc v'/\Own w' base 46 7 v' (n+1) (xs++a)/\Grew w w' v v':=by
 have g:Src w 7 (some ⟨b,0,none⟩) 1 a:=⟨by omega,l,fun _=>⟨b,0,rfl,fun j u i=>by rw[Qg];exact k.cell i⟩⟩
 have f:=zH h;obtain⟨A,c,rfl,h1,m⟩:=h.form;clear h
 cases A
 case none=>
  go_enter Tryz.func88,Tryz.ntmps88
  go_wp2_with (at_builtin;refine zal rfl (.tmp 23) (.tmp 24) 23 rfl base 46 7 120 zeroEnt Tryz.underlying23 zc0 rfl (by omega) (Xa none n c) n xs rfl f.out (some ⟨b,0,none⟩) 1 1 a rfl g (by omega) (by omega) hb ?_;intro v' w' e d)
  go_ret;exact⟨_,rfl,e,d⟩
 rename_i A
 rcases Qi h1 with h3|h3
 ·subst h3;go_enter Tryz.func88,Tryz.ntmps88
  go_wp2_with (at_builtin;refine zal rfl (.tmp 23) (.tmp 24) 23 rfl base 46 7 120 zeroEnt Tryz.underlying23 zc0 rfl (by omega) (Xa (some A) n n) n xs rfl f.out (some ⟨b,0,none⟩) 1 1 a rfl g (by omega) (by omega) hb ?_;intro v' w' e d)
  go_ret;exact⟨_,rfl,e,d⟩
 have o:¬(c=n):=(by omega);go_enter Tryz.func88,Tryz.ntmps88
 go_wp2_with (at_builtin;refine zal rfl (.tmp 23) (.tmp 24) 23 rfl base 46 7 120 zeroEnt Tryz.underlying23 zc0 rfl (by omega) (Xa (some A) n c) n xs rfl f.out (some ⟨b,0,none⟩) 1 1 a rfl g (by omega) (by omega) hb ?_;intro v' w' e d)
 go_ret;exact⟨_,rfl,e,d⟩
theorem zcq {α:Type}(l:List α)(i:Nat):l.take i++l.drop i=l:=List.take_append_drop i l
theorem zri {base g a:Nat}{n i l:Nat}{xs tail f:List Xe}{w:Xd}(A:RowIs w g 46 xs tail)(ao:base<=g)(O:xs.length=n * 7)(K:(xs++tail).length=a * 7)(ax:n+1<=a)(av:a<=9223372036854775807)(X:RowIs w l 46 f [])(al:f.length=7)(ak:∀u∈f,u.oneCell'=true)(ai:∀u∈xs,u.oneCell'=true)(hi:i<n)(ag:l≠g) :
  Calls Tryz.prog 88 #[Xa (some ⟨g,0,none⟩) n a,I i,Xa (some ⟨l,0,none⟩) 1 1] w fun r w'=>∃v',r=Xc v'/\Own w' base 46 7 v' (n+1) (xs.take (i * 7)++f++xs.drop (i * 7))/\Grew w w' (Xa (some ⟨g,0,none⟩) n a) v':=by
 have U:tail.length=(a-n) * 7:=by rw[Qa,O]at K;omega
 obtain⟨X1,H⟩:∃X1,X1=xs.take (i * 7):=⟨_,rfl⟩
 obtain⟨X2,J⟩:∃X2,X2=xs.drop (i * 7):=⟨_,rfl⟩
 have G:xs=X1++X2:=by rw[H,J,zcq]
 have N:X1.length=i * 7:=by rw[H,Qd,O];omega
 have E:X2.length=(n-i) * 7:=by rw[J,Qe,O];omega
 obtain⟨h,S⟩:∃h,h=(X2++tail).take 7:=⟨_,rfl⟩
 obtain⟨y,T⟩:∃y,y=((X2++tail).drop 7).take ((n-i) * 7):=⟨_,rfl⟩
 obtain⟨d,Z⟩:∃d,d=((X2++tail).drop 7).drop ((n-i) * 7):=⟨_,rfl⟩
 have hR:xs++tail=(X1++h)++(y++d):=by rw[G,S,T,Z,zcq,Qb,Qb,zcq]
 have ad:h.length=7:=by rw[S,Qd,Qa,E,U];omega
 have ae:y.length=(n-i) * 7:=by rw[T,Qd,Qe,Qa,E,U];omega
 have L:RowIs w g 46 ((X1++h)++(y++d)) []:=by unfold RowIs at A ⊢;rw[Qc,<- hR];exact A
 obtain⟨B,Q⟩:∃B,B=((X1++h)++(X2++d)).toArray:=⟨_,rfl⟩
 obtain⟨F,R⟩:∃F,F=(X1++(f++(X2++d))).toArray:=⟨_,rfl⟩
 obtain⟨z,D⟩:∃z,z=w.setRow g B:=⟨_,rfl⟩
 have M:RowIs z g 46 (X1++(h++(X2++d))) []:=by have:=L.setRow ((X1++h)++(X2++d));rw[Qc]at this;rw[D,Q,show X1++(h++(X2++d))=(X1++h)++(X2++d)from(Qb _ _ _).symm];exact this
 have Y:RowIs z l 46 f []:=X.keep (by rw[D];exact setRow_other w g l _ ag);obtain⟨C,V⟩:∃C,C=z.setRow g F:=⟨_,rfl⟩
 have aa:RowIs C g 46 (X1++(f++(X2++d))) []:=by have:=M.setRow (X1++(f++(X2++d)));rw[Qc]at this;rw[V,R];exact this
 have aj:∀u∈X2,u.oneCell'=true:=fun u ay=>ai u (by rw[G];simp[ay])
 have aq:∀(W:Xd),W.heap=w.heap->∀v q t,(Builtin.copy_ #[23,23] v #[Xa (some ⟨g,(i+1) * 7,none⟩) (n-i) q,Xa (some ⟨g,i * 7,none⟩) (n+1-i) t]).run Tryz.prog W=.ok (goInt ((n-i:Nat):Int)) (W.setRow g B):=fun W p v q t=>Q ▸
  zct (sT:=23) (m:=n-i) (o:=(i+1) * 7) (dLen:=n-i) (dCap:=q) (sLen:=n+1-i) (sCap:=t) (s:=⟨g,i * 7,none⟩) (cs:=X2) (c:=d) (k:=7) Tryz.underlying23 ziq (show RowIs W g 46 ((X1++h)++(y++d)) [] by unfold RowIs at L ⊢;rw[p];exact L) (by rw[Qa,N,ad,Nat.add_mul])
   (by simp only[Qh];split<;>omega) E (by rw[ae,E]) (fun j u ac=>by
    rw[zdg];have au:RowIs W g 46 xs tail:=(by unfold RowIs at A ⊢;rw[p];exact A);refine au.cell ?_;rw[G,Qf (by omega),N]
    rwa[show i * 7+j-i * 7=j by omega]) aj v
 have ar:∀(W:Xd),W.heap=z.heap->∀v q t,(Builtin.copy_ #[23,23] v #[Xa (some ⟨g,i * 7,none⟩) (n+1-i) q,Xa (some ⟨l,0,none⟩) 1 t]).run Tryz.prog W=.ok (goInt 1) (W.setRow g F):=fun W p v q t=>R ▸
  zct (sT:=23) (m:=1) (o:=i * 7) (dLen:=n+1-i) (dCap:=q) (sLen:=1) (sCap:=t) (s:=⟨l,0,none⟩) (cs:=f) (c:=X2++d) (k:=7) Tryz.underlying23 ziq (show RowIs W g 46 (X1++(h++(X2++d))) [] by unfold RowIs at M ⊢;rw[p];exact M) N
   (by simp only[Qh];split<;>omega) (by omega) (by omega) (fun j u ac=>by rw[zdg,Qg];have az:RowIs W l 46 f []:=(by unfold RowIs at Y ⊢;rw[p];exact Y);exact az.cell ac) ak v
 have aw:∀(W:Xd) lb P,W.heap=w.heap->(callFunc 137 #[Xa (some ⟨l,0,none⟩) 1 1,Xa (some ⟨g,(i+1) * 7,none⟩) lb P]).run Tryz.prog W=.ok (.value (.bool false)) W:=fun W lb P p=>by
  have s1:W.heap[l]? = some (Xb (f++[]).toArray 46 (0,0)):=by rw[p];exact X
  have s2:W.heap[g]? = some (Xb (xs++tail).toArray 46 (0,0)):=by rw[p];exact A
  rw[run_callFunc_extern Tryz.func137 (by kernel_rfl) (by kernel_rfl) (by kernel_rfl) (e:=Extern.SlicesOverlaps.overlaps #[23,23] #[4]) (by kernel_rfl),
   Lib.run_overlaps_apart W 23 4 46 Tryz.underlying23 7 (fun w=>Tryz.sizeOf46 w) ⟨l,0,none⟩ ⟨g,(i+1) * 7,none⟩ 1 1 lb P ag 46 46 7 (a * 7) (by simp[World.shape?,s1,al]) (by simp[World.shape?,s2,<- K]) (by omega) (by simp[World.frozen?,s1]) (by simp[World.frozen?,s1])]
  rfl
 have bf:Tryz.prog.follows .mixedOrders=true:=rfl;have bd:¬((i:Int)=(n:Int)):=by omega
 have be:¬((n:Int)+1>(a:Int)):=by omega
 have bb:IntKind.i64.wrap ((i:Int)+1)=(i:Int)+1:=by rw[IntKind.wrap_i64];omega
 have bc:IntKind.i64.wrap ((n:Int)+1)=(n:Int)+1:=by rw[IntKind.wrap_i64];omega
 have a4:(i:Int)<=(n:Int)+1:=by omega
 have a7:¬(a=i):=by omega
 have a8:¬(a=i+1):=by omega
 have a5:(n:Int)+1<=(a:Int):=by omega
 have ba:((i:Int)+1).toNat=i+1:=by omega
 have a6:(0:Int)<=(i:Int)+1:=by omega
 have a9:i<=n:=by omega
 have ah:Own C base 46 7 (Xa (some ⟨g,0,none⟩) (n+1) a) (n+1) (X1++f++X2) :=
  aa.own ao ax av (by
   have h0:=congrArg Ql hR;simp only[Qa,Qk]at h0 K ⊢
   omega) (by
   rw[<- Qb,<- Qb];have:(X1++f++X2).length=(n+1) * 7:=by simp only[Qa];omega
   rw[<- this,Qj]) (by simp only[Qa];omega)
 have ab:Grew w C (Xa (some ⟨g,0,none⟩) n a) (Xa (some ⟨g,0,none⟩) (n+1) a):=by
  have hb:zad (Xa (some ⟨g,0,none⟩) n a) g:=⟨g,n,a,rfl,by omega,rfl⟩
  rw[V,D];exact⟨rfl,rfl,rfl,by simp[World.setRow],fun b a3 af=>((setRow_other _ g b _ (fun e=>af (by subst e;exact hb))).trans (setRow_other w g b _ (fun e=>af (by subst e;exact hb)))),fun b ⟨a1,bg,a0,e,ap,an⟩=>by cases e;exact .inl ⟨_,_,_,rfl,ap,an⟩⟩
 rw[<- H,<- J];have am:=zH ah;have x:=zH ab;clear Q R ah ab H J G N E hR S T Z ad ae L M aa Y aj U K O ai ak al X A;go_enter Tryz.func88,Tryz.ntmps88
 go_wp2_with (first|simp only[aw]|fail)
 go_region_law_o (refine zf5 rfl _ _ 23 23 rfl (Xa (some ⟨g,(i+1) * 7,none⟩) (n-i) (a-(i+1))) (Xa (some ⟨g,i * 7,none⟩) (n+1-i) (a-i)) (by simp[Act.eval,Act.put]) (by simp[Act.eval,Act.put]) (aq w.drew rfl _ _ _) ?_)
 have a2:=ar (w.drew.setRow g B) (by rw[D];rfl) 3 (a-i) 1;go_wp2_with fail;go_ret;subst V;subst D;exact⟨_,rfl,am.out.keep (fun b _ _=>rfl),⟨x.out.os,x.out.tape,x.out.output,x.out.size,x.out.same,x.out.blk⟩⟩
theorem zs2 {base g l:Nat}{n i M:Nat}{xs tail a:List Xe}{w:Xd}(R:RowIs w g 46 xs tail)(hb:base<=w.heap.size)(ah:xs.length=n * 7)(bw:n<=l)(bd:l<n+1)(bv:n<=549755813888)(ai:RowIs w M 46 a [])(a0:a.length=7)(az:∀u∈a,u.oneCell'=true)(ax:∀u∈xs,u.oneCell'=true)(hi:i<n)(v:Xe) :
  Calls Tryz.prog 88 #[Xa (some ⟨g,0,none⟩) n l,I i,Xa (some ⟨M,0,none⟩) 1 1] w fun r w'=>∃v',r=Xc v'/\Own w' base 46 7 v' (n+1) (xs.take (i * 7)++a++xs.drop (i * 7))/\Grew w w' v v':=by
 obtain⟨a3,aq,a1,a2,ak⟩:=info_parts zc0;have G:(xs.take (i * 7)).length=i * 7:=by rw[Qd,ah];omega
 have av:(Builtin.firstCells a3.size i (Xa (some ⟨g,0,none⟩) i l)).run Tryz.prog w.drew=.ok (xs.take (i * 7)).toArray w.drew:=by
  rw[a2]
  exact run_firstCells_some w.drew 7 i ⟨g,0,none⟩ i l (xs.take (i * 7)) G (fun j u z=>by
   rw[zdg,Qg];rw[Qm]at z
   split at z
   ·exact R.cell z
   cases z)
 obtain⟨f,O⟩:∃f,f=grownCap w (n+1) l 46:=⟨_,rfl⟩
 have a7:n+1<=f:=by rw[O];exact grownCap_ge w _ _ _
 have a6:f<=9223372036854775807:=by have:=grownCap_le_maxLen w (n+1) l 46 (by unfold maxLen;omega);rw[<- O]at this;unfold maxLen at this;omega
 obtain⟨q,ad⟩:∃q:List Xe,q=(Builtin.zeroCells zeroEnt.cells (n+1-i)++Builtin.zeroCells zeroEnt.cells (f-(n+1))).toList:=⟨_,rfl⟩
 have a8:q.length=(f-i) * 7:=by rw[ad];have:zeroEnt.cells.size=7:=rfl;simp only[Array.length_toList,Array.size_append,size_zeroCells,this];omega
 have U:∀p,(Builtin.append_ #[23,3] p #[Xa (some ⟨g,0,none⟩) i l,.int .i64 ((n:Int)+1-(i:Int))]).run Tryz.prog w =
   .ok (Xa (some ⟨w.heap.size,0,none⟩) (n+1) f) (w.drew.alloc (Xb (xs.take (i * 7)++q).toArray 46)):=fun p=>by
  have ar:i+(n+1-i)=n+1:=by omega
  have al:=Lib.run_append_grow_zeros w 23 3 p 46 a3 _ .i64 .i64 Tryz.underlying23 Tryz.underlying3 aq a1 (some ⟨g,0,none⟩) i l (xs.take (i * 7)) av (n+1-i) (by omega) (by omega) (by omega) (by omega) (by rw[ak];omega) (by rw[ak,ar];exact growslice_fits bd (by omega));rw[ar,<- O]at al;rw[show((n:Int)+1-(i:Int))=((n+1-i:Nat):Int) by omega,al]
  congr 4
  rw[ad]
  apply Array.ext'
  simp
 obtain⟨X1,P⟩:∃X1,X1=xs.take (i * 7):=⟨_,rfl⟩
 obtain⟨X2,Q⟩:∃X2,X2=xs.drop (i * 7):=⟨_,rfl⟩
 have ac:xs=X1++X2:=by rw[P,Q,zcq]
 rw[<- P]at G U;have ag:X2.length=(n-i) * 7:=by rw[Q,Qe,ah];omega
 obtain⟨D,Z⟩:∃D,D=q.take 7:=⟨_,rfl⟩
 obtain⟨h,aa⟩:∃h,h=(q.drop 7).take ((n-i) * 7):=⟨_,rfl⟩
 obtain⟨d,am⟩:∃d,d=(q.drop 7).drop ((n-i) * 7):=⟨_,rfl⟩
 have hR:q=D++(h++d):=by rw[Z,aa,am,zcq,zcq]
 have bc:D.length=7:=by rw[Z,Qd];omega
 have au:h.length=(n-i) * 7:=by rw[aa,Qd,Qe];omega
 obtain⟨C,V⟩:∃C,C=(X1++q).toArray:=⟨_,rfl⟩
 obtain⟨H,X⟩:∃H,H=(X1++(a++(h++d))).toArray:=⟨_,rfl⟩
 obtain⟨N,Y⟩:∃N,N=((X1++a)++(X2++d)).toArray:=⟨_,rfl⟩
 rw[<- V]at U;obtain⟨t,F⟩:∃t,t=w.drew.alloc (Xb C 46):=⟨_,rfl⟩
 have S:RowIs t w.heap.size 46 (X1++(D++(h++d))) []:=by unfold RowIs;rw[Qc,F,V,hR];exact Go.heap_alloc_new w.drew _
 have x:Ext w t:=by rw[F];exact(Ext.refl w).drew.alloc _
 have aj:=ai.ext x;have ao:=R.ext x;have bt:=R.lt;have b2:=ai.lt;obtain⟨E,L⟩:∃E,E=t.setRow w.heap.size H:=⟨_,rfl⟩
 have T:RowIs E w.heap.size 46 ((X1++a)++(h++d)) []:=by have:=S.setRow (X1++(a++(h++d)));rw[Qc]at this;rw[L,X,show(X1++a)++(h++d)=X1++(a++(h++d))from Qb _ _ _];exact this
 have af:RowIs E g 46 xs tail:=ao.keep (by rw[L];exact setRow_other t _ g _ (by omega));obtain⟨J,ab⟩:∃J,J=E.setRow w.heap.size N:=⟨_,rfl⟩
 have an:RowIs J w.heap.size 46 ((X1++a)++(X2++d)) []:=by have:=T.setRow ((X1++a)++(X2++d));rw[Qc]at this;rw[ab,Y];exact this
 have ay:∀u∈X2,u.oneCell'=true:=fun u be=>ax u (by rw[ac];simp[be])
 have ae:∀(W:Xd),W.heap=t.heap->∀p y A,(Builtin.copy_ #[23,23] p #[Xa (some ⟨w.heap.size,i * 7,none⟩) (n+1-i) y,Xa (some ⟨M,0,none⟩) 1 A]).run Tryz.prog W=.ok (goInt 1) (W.setRow w.heap.size H):=fun W K p y A=>X ▸
  zct (sT:=23) (m:=1) (o:=i * 7) (dLen:=n+1-i) (dCap:=y) (sLen:=1) (sCap:=A) (s:=⟨M,0,none⟩) (cs:=a) (c:=h++d) (k:=7) Tryz.underlying23 ziq (show RowIs W w.heap.size 46 (X1++(D++(h++d))) [] by unfold RowIs at S ⊢;rw[K];exact S) G
   (by simp only[Qh];split<;>omega) (by omega) (by omega) (fun j u z=>by rw[zdg,Qg];have bf:RowIs W M 46 a []:=(by unfold RowIs at aj ⊢;rw[K];exact aj);exact bf.cell z) az p
 have ba:∀(W:Xd),W.heap=E.heap->∀p y A,(Builtin.copy_ #[23,23] p #[Xa (some ⟨w.heap.size,(i+1) * 7,none⟩) (n-i) y,Xa (some ⟨g,i * 7,none⟩) (n-i) A]).run Tryz.prog W=.ok (goInt ((n-i:Nat):Int)) (W.setRow w.heap.size N):=fun W K p y A=>Y ▸
  zct (sT:=23) (m:=n-i) (o:=(i+1) * 7) (dLen:=n-i) (dCap:=y) (sLen:=n-i) (sCap:=A) (s:=⟨g,i * 7,none⟩) (cs:=X2) (c:=d) (k:=7) Tryz.underlying23 ziq (show RowIs W w.heap.size 46 ((X1++a)++(h++d)) [] by unfold RowIs at T ⊢;rw[K];exact T) (by rw[Qa,G,a0,Nat.add_mul])
   (by simp only[Qh];split<;>omega) ag (by rw[au,ag]) (fun j u z=>by
    rw[zdg];have bb:RowIs W g 46 xs tail:=(by unfold RowIs at af ⊢;rw[K];exact af);refine bb.cell ?_;rw[ac,Qf (by omega),G]
    rwa[show i * 7+j-i * 7=j by omega]) ay p
 have b5:Tryz.prog.follows .mixedOrders=true:=rfl;have b3:¬((i:Int)=(n:Int)):=by omega
 have b4:(l:Int)<(n:Int)+1:=by omega
 have bz:IntKind.i64.wrap ((i:Int)+1)=(i:Int)+1:=by rw[IntKind.wrap_i64];omega
 have b0:IntKind.i64.wrap ((n:Int)+1)=(n:Int)+1:=by rw[IntKind.wrap_i64];omega
 have b1:IntKind.i64.wrap ((n:Int)+1-(i:Int))=(n:Int)+1-(i:Int):=by rw[IntKind.wrap_i64];omega
 have bk:(i:Int)<=(n:Int)+1:=by omega
 have bu:i<=n:=by omega
 have bs:¬(l=i):=by omega
 have bq:¬(f=i):=by omega
 have br:¬(f=i+1):=by omega
 have bm:(n:Int)+1<=(f:Int):=by omega
 have bx:((i:Int)+1).toNat=i+1:=by omega
 have bn:(0:Int)<=(i:Int)+1:=by omega
 have bo:(i:Int)<=(l:Int):=by omega
 have aw:Own J base 46 7 (Xa (some ⟨w.heap.size,0,none⟩) (n+1) f) (n+1) (X1++a++X2) :=
  an.own hb a7 a6 (by
   have h0:=congrArg Ql hR;simp only[Qa,Qk]at h0 ⊢
   omega) (by
   rw[<- Qb];have:(X1++a++X2).length=(n+1) * 7:=by simp only[Qa];omega
   rw[<- this,Qj]) (by simp only[Qa];omega)
 have ap:Grew w J v (Xa (some ⟨w.heap.size,0,none⟩) (n+1) f):=by
  rw[ab,L];refine⟨?_,?_,?_,?_,?_,fun b ⟨bh,b6,bg,e,bp,a5⟩=>by cases e;exact .inr a5⟩
  ·exact x.os
  ·exact x.tape
  ·exact x.output
  ·have:=x.size
   simpa[World.setRow]using this
  intro b a9 _;exact((setRow_other _ _ b _ (by omega)).trans (setRow_other t _ b _ (by omega))).trans (x.block b a9)
 rw[<- P,<- Q];have a4:=zH aw;have B:=zH ap;have bi:=ae (w.alloc (Xb C 46)).drew (by rw[F];rfl) 3 (f-i) 1;have bj:=ae (w.drew.alloc (Xb C 46)) (by rw[F]) 3 (f-i) 1;clear X Y V aw ap P Q ac G ag hR Z aa am bc au S T an ao af x aj ay ah ax az a0 ai R ad a8 O av aq a1 a2 ak ae;go_enter Tryz.func88,Tryz.ntmps88
 go_wp2_with (at_builtin;refine zfw _ rfl _ _ 23 3 rfl _ _ rfl rfl (U _) ?_;clear U)
 go_region_law_o (refine zf5 rfl _ _ 23 23 rfl (Xa (some ⟨w.heap.size,(i+1) * 7,none⟩) (n-i) (f-(i+1))) (Xa (some ⟨g,i * 7,none⟩) (n-i) (l-i)) (by simp[Act.eval,Act.put]) (by simp[Act.eval,Act.put]) (ba ((w.alloc (Xb C 46)).drew.setRow w.heap.size H).drew (by rw[L,F];rfl) _ _ _) ?_)
 go_wp2_with fail;go_ret;subst ab;subst L;subst F;exact⟨_,rfl,a4.out.keep (fun b _ _=>rfl),⟨B.out.os,B.out.tape,B.out.output,B.out.size,B.out.same,B.out.blk⟩⟩
theorem zs3 {base:Nat}{v:Xe}{n i h:Nat}{xs b:List Xe}{w:Xd}(a:Own w base 46 7 v n xs)(c:RowIs w h 46 b [])(f:b.length=7)(d:∀u∈b,u.oneCell'=true)(m:∀u∈xs,u.oneCell'=true)(hi:i<=n)(l:n<=549755813888)(hb:base<=w.heap.size)(t:¬zad v h) :
  Calls Tryz.prog 88 #[v,I i,Xa (some ⟨h,0,none⟩) 1 1] w fun r w'=>∃v',r=Xc v'/\Own w' base 46 7 v' (n+1) (xs.take (i * 7)++b++xs.drop (i * 7))/\Grew w w' v v':=by
 rcases Qi hi with rfl|hi'
 ·have:=zu0 a c f d l hb;rw[<- a.1,Qn,Qo,Qc];exact this
 obtain⟨g,j,tail,rfl,o,k,p,s,q⟩:=a.row (by omega)
 by_cases x:n+1<=j
 ·exact zri k o a.1 q x s c f d m hi' (fun e=>t ⟨g,n,j,rfl,by omega,e⟩)
 exact zs2 k hb a.1 p (by omega) l c f d m hi' _
theorem zla:(Tryz.prog.info? 9).map (·.size)=some 1:=by
 have:=zd7
 cases h:Tryz.prog.info? 9 with
 | none=>rw[h]at this;simp at this
 | some i=>rw[h]at this;simp at this;simp[this.2.1]
theorem ztj {base:Nat}{v:Xe}{n b:Nat}{xs a:List Xe}{w:Xd}(h:Own w base 9 1 v n xs)(k:RowIs w b 9 a [])(q:a.length=1)(l:∀u∈a,u.oneCell'=true)(p:n<=549755813888)(hb:base<=w.heap.size) :
  Calls Tryz.prog 43 #[v,I n,Xa (some ⟨b,0,none⟩) 1 1] w fun r w'=>∃v',r=Xc v'/\Own w' base 9 1 v' (n+1) (xs++a)/\Grew w w' v v':=by
 have g:Src w 1 (some ⟨b,0,none⟩) 1 a:=⟨by omega,l,fun _=>⟨b,0,rfl,fun j u i=>by rw[Qg];exact k.cell i⟩⟩
 have f:=zH h;obtain⟨A,c,rfl,h1,m⟩:=h.form;clear h
 cases A
 case none=>
  go_enter Tryz.func43,Tryz.ntmps43
  go_wp2_with (at_builtin;refine zal rfl (.tmp 23) (.tmp 24) 24 rfl base 9 1 16 (St []) Tryz.underlying24 zd7 rfl (by omega) (Xa none n c) n xs rfl f.out (some ⟨b,0,none⟩) 1 1 a rfl g (by omega) (by omega) hb ?_;intro v' w' e d)
  go_ret;exact⟨_,rfl,e,d⟩
 rename_i A
 rcases Qi h1 with h3|h3
 ·subst h3;go_enter Tryz.func43,Tryz.ntmps43
  go_wp2_with (at_builtin;refine zal rfl (.tmp 23) (.tmp 24) 24 rfl base 9 1 16 (St []) Tryz.underlying24 zd7 rfl (by omega) (Xa (some A) n n) n xs rfl f.out (some ⟨b,0,none⟩) 1 1 a rfl g (by omega) (by omega) hb ?_;intro v' w' e d)
  go_ret;exact⟨_,rfl,e,d⟩
 have o:¬(c=n):=(by omega);go_enter Tryz.func43,Tryz.ntmps43
 go_wp2_with (at_builtin;refine zal rfl (.tmp 23) (.tmp 24) 24 rfl base 9 1 16 (St []) Tryz.underlying24 zd7 rfl (by omega) (Xa (some A) n c) n xs rfl f.out (some ⟨b,0,none⟩) 1 1 a rfl g (by omega) (by omega) hb ?_;intro v' w' e d)
 go_ret;exact⟨_,rfl,e,d⟩
theorem zqs {base g a:Nat}{n i l:Nat}{xs tail f:List Xe}{w:Xd}(A:RowIs w g 9 xs tail)(ao:base<=g)(O:xs.length=n)(J:(xs++tail).length=a)(ax:n+1<=a)(av:a<=9223372036854775807)(X:RowIs w l 9 f [])(al:f.length=1)(ak:∀u∈f,u.oneCell'=true)(ai:∀u∈xs,u.oneCell'=true)(hi:i<n)(ag:l≠g) :
  Calls Tryz.prog 43 #[Xa (some ⟨g,0,none⟩) n a,I i,Xa (some ⟨l,0,none⟩) 1 1] w fun r w'=>∃v',r=Xc v'/\Own w' base 9 1 v' (n+1) (xs.take (i)++f++xs.drop (i))/\Grew w w' (Xa (some ⟨g,0,none⟩) n a) v':=by
 have U:tail.length=(a-n):=by rw[Qa,O]at J;omega
 obtain⟨X1,G⟩:∃X1,X1=xs.take (i):=⟨_,rfl⟩
 obtain⟨X2,H⟩:∃X2,X2=xs.drop (i):=⟨_,rfl⟩
 have F:xs=X1++X2:=by rw[G,H,zcq]
 have M:X1.length=i:=by rw[G,Qd,O];omega
 have N:X2.length=(n-i):=by rw[H,Qe,O]
 obtain⟨h,S⟩:∃h,h=(X2++tail).take 1:=⟨_,rfl⟩
 obtain⟨y,T⟩:∃y,y=((X2++tail).drop 1).take ((n-i)):=⟨_,rfl⟩
 obtain⟨d,Z⟩:∃d,d=((X2++tail).drop 1).drop ((n-i)):=⟨_,rfl⟩
 have hR:xs++tail=(X1++h)++(y++d):=by rw[F,S,T,Z,zcq,Qb,Qb,zcq]
 have ad:h.length=1:=by rw[S,Qd,Qa,N,U];omega
 have ae:y.length=(n-i):=by rw[T,Qd,Qe,Qa,N,U];omega
 have K:RowIs w g 9 ((X1++h)++(y++d)) []:=by unfold RowIs at A ⊢;rw[Qc,<- hR];exact A
 obtain⟨B,Q⟩:∃B,B=((X1++h)++(X2++d)).toArray:=⟨_,rfl⟩
 obtain⟨E,R⟩:∃E,E=(X1++(f++(X2++d))).toArray:=⟨_,rfl⟩
 obtain⟨z,D⟩:∃z,z=w.setRow g B:=⟨_,rfl⟩
 have L:RowIs z g 9 (X1++(h++(X2++d))) []:=by have:=K.setRow ((X1++h)++(X2++d));rw[Qc]at this;rw[D,Q,show X1++(h++(X2++d))=(X1++h)++(X2++d)from(Qb _ _ _).symm];exact this
 have Y:RowIs z l 9 f []:=X.keep (by rw[D];exact setRow_other w g l _ ag);obtain⟨C,V⟩:∃C,C=z.setRow g E:=⟨_,rfl⟩
 have aa:RowIs C g 9 (X1++(f++(X2++d))) []:=by have:=L.setRow (X1++(f++(X2++d)));rw[Qc]at this;rw[V,R];exact this
 have aj:∀u∈X2,u.oneCell'=true:=fun u ay=>ai u (by rw[F];simp[ay])
 have aq:∀(W:Xd),W.heap=w.heap->∀v q t,(Builtin.copy_ #[24,24] v #[Xa (some ⟨g,(i+1),none⟩) (n-i) q,Xa (some ⟨g,i,none⟩) (n+1-i) t]).run Tryz.prog W=.ok (goInt ((n-i:Nat):Int)) (W.setRow g B):=fun W p v q t=>Q ▸
  zct (sT:=24) (m:=n-i) (o:=(i+1)) (dLen:=n-i) (dCap:=q) (sLen:=n+1-i) (sCap:=t) (s:=⟨g,i,none⟩) (cs:=X2) (c:=d) (k:=1) Tryz.underlying24 zla (show RowIs W g 9 ((X1++h)++(y++d)) [] by unfold RowIs at K ⊢;rw[p];exact K) (by rw[Qa,M,ad])
   (by simp only[Qh];split<;>omega) (by omega) (by rw[ae,N]) (fun j u ac=>by
    rw[zdg];have au:RowIs W g 9 xs tail:=(by unfold RowIs at A ⊢;rw[p];exact A);refine au.cell ?_;rw[F,Qf (by omega),M]
    rwa[show i+j-i=j by omega]) aj v
 have ar:∀(W:Xd),W.heap=z.heap->∀v q t,(Builtin.copy_ #[24,24] v #[Xa (some ⟨g,i,none⟩) (n+1-i) q,Xa (some ⟨l,0,none⟩) 1 t]).run Tryz.prog W=.ok (goInt 1) (W.setRow g E):=fun W p v q t=>R ▸
  zct (sT:=24) (m:=1) (o:=i) (dLen:=n+1-i) (dCap:=q) (sLen:=1) (sCap:=t) (s:=⟨l,0,none⟩) (cs:=f) (c:=X2++d) (k:=1) Tryz.underlying24 zla (show RowIs W g 9 (X1++(h++(X2++d))) [] by unfold RowIs at L ⊢;rw[p];exact L) M
   (by simp only[Qh];split<;>omega) (by omega) (by omega) (fun j u ac=>by rw[zdg,Qg];have az:RowIs W l 9 f []:=(by unfold RowIs at Y ⊢;rw[p];exact Y);exact az.cell ac) ak v
 have aw:∀(W:Xd) lb P,W.heap=w.heap->(callFunc 96 #[Xa (some ⟨l,0,none⟩) 1 1,Xa (some ⟨g,(i+1),none⟩) lb P]).run Tryz.prog W=.ok (.value (.bool false)) W:=fun W lb P p=>by
  have s1:W.heap[l]? = some (Xb (f++[]).toArray 9 (0,0)):=by rw[p];exact X
  have s2:W.heap[g]? = some (Xb (xs++tail).toArray 9 (0,0)):=by rw[p];exact A
  rw[run_callFunc_extern Tryz.func96 (by kernel_rfl) (by kernel_rfl) (by kernel_rfl) (e:=Extern.SlicesOverlaps.overlaps #[24,24] #[4]) (by kernel_rfl),
   Lib.run_overlaps_apart W 24 4 9 Tryz.underlying24 1 (fun w=>Tryz.sizeOf9 w) ⟨l,0,none⟩ ⟨g,(i+1),none⟩ 1 1 lb P ag 9 9 1 a (by simp[World.shape?,s1,al]) (by simp[World.shape?,s2,<- J]) (by omega) (by simp[World.frozen?,s1]) (by simp[World.frozen?,s1])]
  rfl
 have bf:Tryz.prog.follows .mixedOrders=true:=rfl;have bd:¬((i:Int)=(n:Int)):=by omega
 have be:¬((n:Int)+1>(a:Int)):=by omega
 have bb:IntKind.i64.wrap ((i:Int)+1)=(i:Int)+1:=by rw[IntKind.wrap_i64];omega
 have bc:IntKind.i64.wrap ((n:Int)+1)=(n:Int)+1:=by rw[IntKind.wrap_i64];omega
 have a4:(i:Int)<=(n:Int)+1:=by omega
 have a7:¬(a=i):=by omega
 have a8:¬(a=i+1):=by omega
 have a5:(n:Int)+1<=(a:Int):=by omega
 have ba:((i:Int)+1).toNat=i+1:=by omega
 have a6:(0:Int)<=(i:Int)+1:=by omega
 have a9:i<=n:=by omega
 have ah:Own C base 9 1 (Xa (some ⟨g,0,none⟩) (n+1) a) (n+1) (X1++f++X2) :=
  aa.own ao ax av (by
   have h0:=congrArg Ql hR;simp only[Qa,Qk]at h0 J ⊢
   omega) (by
   rw[<- Qb,<- Qb];have:(X1++f++X2).length=(n+1):=by simp only[Qa];omega
   rw[Nat.mul_one,<- this,Qj]) (by simp only[Qa];omega)
 have ab:Grew w C (Xa (some ⟨g,0,none⟩) n a) (Xa (some ⟨g,0,none⟩) (n+1) a):=by
  have hb:zad (Xa (some ⟨g,0,none⟩) n a) g:=⟨g,n,a,rfl,by omega,rfl⟩
  rw[V,D];exact⟨rfl,rfl,rfl,by simp[World.setRow],fun b a3 af=>((setRow_other _ g b _ (fun e=>af (by subst e;exact hb))).trans (setRow_other w g b _ (fun e=>af (by subst e;exact hb)))),fun b ⟨a1,bg,a0,e,ap,an⟩=>by cases e;exact .inl ⟨_,_,_,rfl,ap,an⟩⟩
 rw[<- G,<- H];have am:=zH ah;have x:=zH ab;clear Q R ah ab G H F M N hR S T Z ad ae K L aa Y aj U J O ai ak al X A;go_enter Tryz.func43,Tryz.ntmps43
 go_wp2_with (first|simp only[aw]|fail)
 go_region_law_o (refine zf5 rfl _ _ 24 24 rfl (Xa (some ⟨g,(i+1),none⟩) (n-i) (a-(i+1))) (Xa (some ⟨g,i,none⟩) (n+1-i) (a-i)) (by simp[Act.eval,Act.put]) (by simp[Act.eval,Act.put]) (aq w.drew rfl _ _ _) ?_)
 have a2:=ar (w.drew.setRow g B) (by rw[D];rfl) 3 (a-i) 1;go_wp2_with fail;go_ret;subst V;subst D;exact⟨_,rfl,am.out.keep (fun b _ _=>rfl),⟨x.out.os,x.out.tape,x.out.output,x.out.size,x.out.same,x.out.blk⟩⟩
theorem zr8 {base g l:Nat}{n i M:Nat}{xs tail a:List Xe}{w:Xd}(R:RowIs w g 9 xs tail)(hb:base<=w.heap.size)(ag:xs.length=n)(bw:n<=l)(bd:l<n+1)(bv:n<=549755813888)(ah:RowIs w M 9 a [])(a0:a.length=1)(az:∀u∈a,u.oneCell'=true)(ax:∀u∈xs,u.oneCell'=true)(hi:i<n)(v:Xe) :
  Calls Tryz.prog 43 #[Xa (some ⟨g,0,none⟩) n l,I i,Xa (some ⟨M,0,none⟩) 1 1] w fun r w'=>∃v',r=Xc v'/\Own w' base 9 1 v' (n+1) (xs.take (i)++a++xs.drop (i))/\Grew w w' v v':=by
 obtain⟨a3,ap,a1,a2,aj⟩:=info_parts zd7;have L:(xs.take (i)).length=i:=by rw[Qd,ag];omega
 have av:(Builtin.firstCells a3.size i (Xa (some ⟨g,0,none⟩) i l)).run Tryz.prog w.drew=.ok (xs.take (i)).toArray w.drew:=by
  rw[a2]
  exact run_firstCells_some w.drew 1 i ⟨g,0,none⟩ i l (xs.take (i)) (by omega) (fun j u z=>by
   rw[zdg,Qg];rw[Qm]at z
   split at z
   ·exact R.cell z
   cases z)
 obtain⟨f,O⟩:∃f,f=grownCap w (n+1) l 9:=⟨_,rfl⟩
 have a7:n+1<=f:=by rw[O];exact grownCap_ge w _ _ _
 have a6:f<=9223372036854775807:=by have:=grownCap_le_maxLen w (n+1) l 9 (by unfold maxLen;omega);rw[<- O]at this;unfold maxLen at this;omega
 obtain⟨q,ad⟩:∃q:List Xe,q=(Builtin.zeroCells (St []).cells (n+1-i)++Builtin.zeroCells (St []).cells (f-(n+1))).toList:=⟨_,rfl⟩
 have a8:q.length=(f-i):=by rw[ad];have:(St []).cells.size=1:=rfl;simp only[Array.length_toList,Array.size_append,size_zeroCells,this];omega
 have U:∀p,(Builtin.append_ #[24,3] p #[Xa (some ⟨g,0,none⟩) i l,.int .i64 ((n:Int)+1-(i:Int))]).run Tryz.prog w =
   .ok (Xa (some ⟨w.heap.size,0,none⟩) (n+1) f) (w.drew.alloc (Xb (xs.take (i)++q).toArray 9)):=fun p=>by
  have aq:i+(n+1-i)=n+1:=by omega
  have ak:=Lib.run_append_grow_zeros w 24 3 p 9 a3 _ .i64 .i64 Tryz.underlying24 Tryz.underlying3 ap a1 (some ⟨g,0,none⟩) i l (xs.take (i)) av (n+1-i) (by omega) (by omega) (by omega) (by omega) (by rw[aj];omega) (by rw[aj,aq];exact growslice_fits bd (by omega));rw[aq,<- O]at ak;rw[show((n:Int)+1-(i:Int))=((n+1-i:Nat):Int) by omega,ak]
  congr 4
  rw[ad]
  apply Array.ext'
  simp
 obtain⟨X1,P⟩:∃X1,X1=xs.take (i):=⟨_,rfl⟩
 obtain⟨X2,Q⟩:∃X2,X2=xs.drop (i):=⟨_,rfl⟩
 have ac:xs=X1++X2:=by rw[P,Q,zcq]
 rw[<- P]at L U;have ar:X2.length=(n-i):=by rw[Q,Qe,ag]
 obtain⟨D,Z⟩:∃D,D=q.take 1:=⟨_,rfl⟩
 obtain⟨h,aa⟩:∃h,h=(q.drop 1).take ((n-i)):=⟨_,rfl⟩
 obtain⟨d,al⟩:∃d,d=(q.drop 1).drop ((n-i)):=⟨_,rfl⟩
 have hR:q=D++(h++d):=by rw[Z,aa,al,zcq,zcq]
 have bc:D.length=1:=by rw[Z,Qd];omega
 have au:h.length=(n-i):=by rw[aa,Qd,Qe];omega
 obtain⟨C,V⟩:∃C,C=(X1++q).toArray:=⟨_,rfl⟩
 obtain⟨G,X⟩:∃G,G=(X1++(a++(h++d))).toArray:=⟨_,rfl⟩
 obtain⟨N,Y⟩:∃N,N=((X1++a)++(X2++d)).toArray:=⟨_,rfl⟩
 rw[<- V]at U;obtain⟨t,F⟩:∃t,t=w.drew.alloc (Xb C 9):=⟨_,rfl⟩
 have S:RowIs t w.heap.size 9 (X1++(D++(h++d))) []:=by unfold RowIs;rw[Qc,F,V,hR];exact Go.heap_alloc_new w.drew _
 have x:Ext w t:=by rw[F];exact(Ext.refl w).drew.alloc _
 have ai:=ah.ext x;have an:=R.ext x;have bt:=R.lt;have b2:=ah.lt;obtain⟨E,K⟩:∃E,E=t.setRow w.heap.size G:=⟨_,rfl⟩
 have T:RowIs E w.heap.size 9 ((X1++a)++(h++d)) []:=by have:=S.setRow (X1++(a++(h++d)));rw[Qc]at this;rw[K,X,show(X1++a)++(h++d)=X1++(a++(h++d))from Qb _ _ _];exact this
 have af:RowIs E g 9 xs tail:=an.keep (by rw[K];exact setRow_other t _ g _ (by omega));obtain⟨H,ab⟩:∃H,H=E.setRow w.heap.size N:=⟨_,rfl⟩
 have am:RowIs H w.heap.size 9 ((X1++a)++(X2++d)) []:=by have:=T.setRow ((X1++a)++(X2++d));rw[Qc]at this;rw[ab,Y];exact this
 have ay:∀u∈X2,u.oneCell'=true:=fun u be=>ax u (by rw[ac];simp[be])
 have ae:∀(W:Xd),W.heap=t.heap->∀p y A,(Builtin.copy_ #[24,24] p #[Xa (some ⟨w.heap.size,i,none⟩) (n+1-i) y,Xa (some ⟨M,0,none⟩) 1 A]).run Tryz.prog W=.ok (goInt 1) (W.setRow w.heap.size G):=fun W J p y A=>X ▸
  zct (sT:=24) (m:=1) (o:=i) (dLen:=n+1-i) (dCap:=y) (sLen:=1) (sCap:=A) (s:=⟨M,0,none⟩) (cs:=a) (c:=h++d) (k:=1) Tryz.underlying24 zla (show RowIs W w.heap.size 9 (X1++(D++(h++d))) [] by unfold RowIs at S ⊢;rw[J];exact S) L
   (by simp only[Qh];split<;>omega) (by omega) (by omega) (fun j u z=>by rw[zdg,Qg];have bf:RowIs W M 9 a []:=(by unfold RowIs at ai ⊢;rw[J];exact ai);exact bf.cell z) az p
 have ba:∀(W:Xd),W.heap=E.heap->∀p y A,(Builtin.copy_ #[24,24] p #[Xa (some ⟨w.heap.size,(i+1),none⟩) (n-i) y,Xa (some ⟨g,i,none⟩) (n-i) A]).run Tryz.prog W=.ok (goInt ((n-i:Nat):Int)) (W.setRow w.heap.size N):=fun W J p y A=>Y ▸
  zct (sT:=24) (m:=n-i) (o:=(i+1)) (dLen:=n-i) (dCap:=y) (sLen:=n-i) (sCap:=A) (s:=⟨g,i,none⟩) (cs:=X2) (c:=d) (k:=1) Tryz.underlying24 zla (show RowIs W w.heap.size 9 ((X1++a)++(h++d)) [] by unfold RowIs at T ⊢;rw[J];exact T) (by rw[Qa,L,a0])
   (by simp only[Qh];split<;>omega) (by omega) (by rw[au,ar]) (fun j u z=>by
    rw[zdg];have bb:RowIs W g 9 xs tail:=(by unfold RowIs at af ⊢;rw[J];exact af);refine bb.cell ?_;rw[ac,Qf (by omega),L]
    rwa[show i+j-i=j by omega]) ay p
 have b5:Tryz.prog.follows .mixedOrders=true:=rfl;have b3:¬((i:Int)=(n:Int)):=by omega
 have b4:(l:Int)<(n:Int)+1:=by omega
 have bz:IntKind.i64.wrap ((i:Int)+1)=(i:Int)+1:=by rw[IntKind.wrap_i64];omega
 have b0:IntKind.i64.wrap ((n:Int)+1)=(n:Int)+1:=by rw[IntKind.wrap_i64];omega
 have b1:IntKind.i64.wrap ((n:Int)+1-(i:Int))=(n:Int)+1-(i:Int):=by rw[IntKind.wrap_i64];omega
 have bk:(i:Int)<=(n:Int)+1:=by omega
 have bu:i<=n:=by omega
 have bs:¬(l=i):=by omega
 have bq:¬(f=i):=by omega
 have br:¬(f=i+1):=by omega
 have bm:(n:Int)+1<=(f:Int):=by omega
 have bx:((i:Int)+1).toNat=i+1:=by omega
 have bn:(0:Int)<=(i:Int)+1:=by omega
 have bo:(i:Int)<=(l:Int):=by omega
 have aw:Own H base 9 1 (Xa (some ⟨w.heap.size,0,none⟩) (n+1) f) (n+1) (X1++a++X2) :=
  am.own hb a7 a6 (by
   have h0:=congrArg Ql hR;simp only[Qa,Qk]at h0 ⊢
   omega) (by
   rw[<- Qb];have:(X1++a++X2).length=(n+1):=by simp only[Qa];omega
   rw[Nat.mul_one,<- this,Qj]) (by simp only[Qa];omega)
 have ao:Grew w H v (Xa (some ⟨w.heap.size,0,none⟩) (n+1) f):=by
  rw[ab,K];refine⟨?_,?_,?_,?_,?_,fun b ⟨bh,b6,bg,e,bp,a5⟩=>by cases e;exact .inr a5⟩
  ·exact x.os
  ·exact x.tape
  ·exact x.output
  ·have:=x.size
   simpa[World.setRow]using this
  intro b a9 _;exact((setRow_other _ _ b _ (by omega)).trans (setRow_other t _ b _ (by omega))).trans (x.block b a9)
 rw[<- P,<- Q];have a4:=zH aw;have B:=zH ao;have bi:=ae (w.alloc (Xb C 9)).drew (by rw[F];rfl) 3 (f-i) 1;have bj:=ae (w.drew.alloc (Xb C 9)) (by rw[F]) 3 (f-i) 1;clear X Y V aw ao P Q ac L ar hR Z aa al bc au S T am an af x ai ay ag ax az a0 ah R ad a8 O av ap a1 a2 aj ae;go_enter Tryz.func43,Tryz.ntmps43
 go_wp2_with (at_builtin;refine zfw _ rfl _ _ 24 3 rfl _ _ rfl rfl (U _) ?_;clear U)
 go_region_law_o (refine zf5 rfl _ _ 24 24 rfl (Xa (some ⟨w.heap.size,(i+1),none⟩) (n-i) (f-(i+1))) (Xa (some ⟨g,i,none⟩) (n-i) (l-i)) (by simp[Act.eval,Act.put]) (by simp[Act.eval,Act.put]) (ba ((w.alloc (Xb C 9)).drew.setRow w.heap.size G).drew (by rw[K,F];rfl) _ _ _) ?_)
 go_wp2_with fail;go_ret;subst ab;subst K;subst F;exact⟨_,rfl,a4.out.keep (fun b _ _=>rfl),⟨B.out.os,B.out.tape,B.out.output,B.out.size,B.out.same,B.out.blk⟩⟩
theorem ztk {base:Nat}{v:Xe}{n i h:Nat}{xs b:List Xe}{w:Xd}(a:Own w base 9 1 v n xs)(c:RowIs w h 9 b [])(f:b.length=1)(d:∀u∈b,u.oneCell'=true)(m:∀u∈xs,u.oneCell'=true)(hi:i<=n)(l:n<=549755813888)(hb:base<=w.heap.size)(s:¬zad v h) :
  Calls Tryz.prog 43 #[v,I i,Xa (some ⟨h,0,none⟩) 1 1] w fun r w'=>∃v',r=Xc v'/\Own w' base 9 1 v' (n+1) (xs.take (i)++b++xs.drop (i))/\Grew w w' v v':=by
 rcases Qi hi with rfl|hi'
 ·have:=ztj a c f d l hb;have e:xs.length=i:=by have:=a.1;omega
  subst e;rw[Qn,Qo,Qc];exact this
 obtain⟨g,j,tail,rfl,o,k,p,q,x⟩:=a.row (by omega)
 by_cases t:n+1<=j
 ·exact zqs k o (by have:=a.1;omega) (by omega) t q c f d m hi' (fun e=>s ⟨g,n,j,rfl,by omega,e⟩)
 exact zr8 k hb (by have:=a.1;omega) p (by omega) l c f d m hi' _
end
end Go.Proofs.YtaabaflgeljbjaaGreat
