/- slices.Grow of nothing, slices.Concat: at strings. -/
import Derived.Test.YtaabaflgeljbjaaGreatPr31
import Derived.Test.YtaabaflgeljbjaaGreatPr11
import Derived.Test.YtaabaflgeljbjaaGreatPr22
set_option linter.unusedVariables false
set_option linter.unusedSimpArgs false
set_option maxRecDepth 100000
set_option maxHeartbeats 40000000
namespace Go.Proofs.YtaabaflgeljbjaaGreat
open List renaming getElem?_eq_none_iff→Qa,length_append→Qb,append_nil→Qc,flatten_append→Qd,flatten_cons→Qe
section
open Go.RowKit Go.Shelf
theorem zxs (n:Nat)(w:World)(y:n<=1099511627776) :
  Calls Tryz.prog 114 #[.slice none 0 0,I n] w fun r w'=>∃v,r=.returned v/\Own w' w.heap.size 9 1 v 0 []/\Ext w w':=by
 rcases Nat.eq_zero_or_pos n with rfl|h0
 ·go_enter Tryz.func114,Tryz.ntmps114;go_wp2;go_ret;exact⟨_,rfl,Own.nil _ _ _ _ _,Ext.refl _⟩
 obtain⟨g,j,p,t,f⟩:=info_parts zd7;have k:(Builtin.firstCells g.size 0 (.slice none 0 0)).run Tryz.prog w.drew=.ok ([]:List Value).toArray w.drew:=run_firstCells_none w.drew g.size 0 0 0;obtain⟨a,c⟩:∃a,a=grownCap w n 0 9:=⟨_,rfl⟩
 have x:n<=a:=by rw[c];exact grownCap_ge w _ _ _
 have u:a<=9223372036854775807:=by have:=grownCap_le_maxLen w n 0 9 (by unfold maxLen;omega);rw[<- c]at this;unfold maxLen at this;omega
 obtain⟨b,e⟩:∃b:Array Value,b=(#[]++Builtin.zeroCells (St []).cells n++Builtin.zeroCells (St []).cells (a-n)):=⟨_,rfl⟩
 have i:b.size=a * 1:=by rw[e];have:(St []).cells.size=1:=rfl;simp only[Array.size_append,size_zeroCells,this];simp;omega
 have m:∀h,(Builtin.append_ #[24,3] h #[.slice none 0 0,.int .i64 (n:Int)]).run Tryz.prog w =
   .ok (.slice (some ⟨w.heap.size,0,none⟩) n a) (w.drew.alloc (.cells b 9)):=fun h=>by
  have d:=Lib.run_append_grow_zeros w 24 3 h 9 g _ .i64 .i64 Tryz.underlying24 Tryz.underlying3 j p none 0 0 [] k n h0 (by omega) (by omega) (by omega) (by rw[f];omega) (by rw[f];exact growslice_fits (by omega) (by omega));simp only[Nat.zero_add]at d;rw[<- c]at d;rw[d,e]
 have z:(n:Int)>0:=by omega
 have A:wrap64 ((n:Int)-0)=n:=by unfold wrap64;omega
 have l:Own (w.drew.alloc (.cells b 9)) w.heap.size 9 1 (.slice (some ⟨w.heap.size,0,none⟩) 0 a) 0 [] :=
  Own.of_ownsRow (World.ownsRow_made (base:=w.heap.size) w.drew b a (Nat.le_refl _) (by unfold maxLen;omega) i)
 have o:Ext w (w.drew.alloc (.cells b 9)):=(Ext.refl w).drew.alloc _;have q:=zH l;have s:=zH o;clear l o k j p t f c e i;go_enter Tryz.func114,Tryz.ntmps114
 go_wp2_with (at_builtin;refine zfw _ rfl _ _ 24 3 rfl _ _ rfl rfl (m _) ?_;clear m)
 all_goals(go_ret;exact⟨_,rfl,q.out,s.out⟩)
theorem ya7 {w:World}{S:Nat->Prop}{A:Option Addr}{n c:Nat}{l:List Str}(d:Sl strT w S (.slice A n c) l):Src w 1 A l.length (l.flatMap strC):=by
 obtain⟨vss,h1,e,f⟩:=d.src
 have:vss=l.map fun s=>[St s]:=by
  refine List.ext_getElem? fun i=>?_
  rw[List.getElem?_map]
  cases a:l[i]?
  case none=>rw[Qa]at a;exact Qa.2 (by omega)
  rename_i x
  cases b:vss[i]? with
  | none=>rw[Qa]at b;have:=(List.getElem?_eq_some_iff.1 a).1;omega
  | some vs=>simp only[Option.map_some];congr 1;exact e i x vs a b
 subst this;rw[List.flatMap_def];exact f
theorem zs5 {S:Nat->Prop}{v:Value}{d:List (List Str)}{w:World}(q:Sl (slT strT (by decide)) w S v d)(B:d.flatten.length<=1099511627776) :
  Calls Tryz.prog 61 #[v] w fun r w'=>∃v',r=.returned v'/\Own w' w.heap.size 9 1 v' d.flatten.length (d.flatten.flatMap strC)/\Ext w w':=by
 have D:=q;obtain⟨A,c,rfl,ab,ac⟩:=q.form;have s:=zH (fun(pre post:List (List Str)) (l:List Str) (wr:World) (N:Ext w wr) (a:d=pre++l::post)=>yaw D N a)
 have x:=zH (fun(pre post:List (List Str)) (l:List Str) (a:d=pre++l::post)=>(show pre.flatten.length+l.length<=1099511627776 from by have:=B;rw[a,Qd,Qe,Qb,Qb]at this;omega))
 have t:=zH (zxs d.flatten.length w B);clear q D;go_enter Tryz.func61,Tryz.ntmps61;go_wp2_with fail
 go_loopw [3,11] (fun z i wr=>∃pre post,d=pre++post/\i=I pre.length/\z=I pre.flatten.length/\wr=w) (fun _ i _=>d.length-(intOf i).toNat)
 case atStart=>exact⟨[],d,rfl,rfl,rfl,rfl⟩
 obtain⟨pre,post,a,rfl,rfl,rfl⟩:=hrel
 cases post
 case cons l post=>
  obtain⟨b,o,Y,rfl,Q,h⟩:=s.out pre post l _ (Ext.refl _) a;have U:pre.length<d.length:=(by rw[a];simp);obtain⟨G,c2,rfl,O,P⟩:=h.form;have y:=x.out pre post l a;have E:wrap64 ((pre.flatten.length:Int)+(l.length:Int))=((pre.flatten.length+l.length:Nat):Int):=(by unfold wrap64;omega);have W:(((pre.flatten.length+l.length:Nat):Int)<0)=False:=eq_false (by omega);have e:=zH a;obtain⟨z,j⟩:∃z,z=pre.flatten.length:=⟨_,rfl⟩
  have M:=zH j;rw[<- j]at E W ⊢;clear a h y j;go_wp2_with fail;go_roundw
  case rel=>exact⟨pre++[l],post,by rw[e.out];simp,by simp,by rw[Qd,Qe,List.flatten_nil,Qc,Qb,<- M.out];first|rfl|rw[E]|simp,by first|rfl|trivial⟩
  case measure=>simp[intOf];omega
 rw[Qc]at a;have e:=zH a;have T:d.length=pre.length:=(by rw[a]);have HF:=zH (show d.flatten.length=pre.flatten.length by rw[a]);have k:=t.out;rw[HF.out]at k;obtain⟨z,j⟩:∃z,z=pre.flatten.length:=⟨_,rfl⟩
 rw[<- j]at k ⊢;have J:=zH k;clear a j k t HF e;go_wp2_with fail;refine J.out.mono ?_;rintro r aa⟨v1,rfl,p,F⟩;obtain⟨Z,c1,rfl,-,-⟩:=p.form;have K:=zH p;have L:=zH F;clear p F;go_wp2_with fail
 go_loopw [6,27] (fun u i wr=>∃pre post,d=pre++post/\i=I pre.length/\Own wr _ 9 1 u pre.flatten.length (pre.flatten.flatMap strC)/\Ext _ wr) (fun _ i _=>d.length-(intOf i).toNat)
 case atStart=>exact⟨[],d,rfl,rfl,K.out,L.out⟩
 obtain⟨pre,post,a,rfl,g,f⟩:=hrel
 cases post with
 | cons l post =>
  obtain⟨b,o,Y,rfl,Q,h⟩:=s.out pre post l _ f a;have U:pre.length<d.length:=(by rw[a];simp);obtain⟨G,c2,rfl,O,P⟩:=h.form;have y:=x.out pre post l a;have C:=ya7 (h.ext (by decide) f);have e:=zH a;have m:=zH g;have n:=zH f;have V:=f.size;obtain⟨H,c4,rfl,-,-⟩:=g.form;clear a h f
  go_wp2_with (at_builtin;refine zal rfl (.tmp 31) (.tmp 32) 24 rfl _ 9 1 16 (St []) Tryz.underlying24 zd7 rfl (by omega) _ pre.flatten.length (pre.flatten.flatMap strC) rfl g _ l.length _ (l.flatMap strC) rfl C (by omega) (by omega) V ?_;intro v' w' X R;clear C)
  go_roundw
  case rel=>exact⟨pre++[l],post,by rw[e.out];simp,by simp,by simpa using X,Ext.grewOwn n.out R m.out (Nat.le_refl _)⟩
  case measure=>simp[intOf];omega
 | nil=>rw[Qc]at a;have e:=zH a;have T:d.length=pre.length:=(by rw[a]);have m:=zH g;have n:=zH f;obtain⟨H,c4,rfl,-,-⟩:=g.form;clear a f g;go_wp2_with fail;go_ret;exact⟨_,rfl,by rw[e.out];exact m.out,n.out⟩
end
end Go.Proofs.YtaabaflgeljbjaaGreat
