/- Laws. -/
import Derived.Test.YtaabaflgeljbjaaGreatPr17
import Derived.Shelf.Abstract
import Derived.Test.YtaabaflgeljbjaaGreatPr01
import Derived.Test.YtaabaflgeljbjaaGreatPr12
set_option linter.unusedVariables false
set_option linter.unusedSimpArgs false
set_option maxRecDepth 100000
set_option maxHeartbeats 40000000
namespace Go.Proofs.YtaabaflgeljbjaaGreat
open Go.Value renaming slice→Xa,pointer→Xb
open List renaming getElem?_append_right→Qa,getElem?_append_left→Qc
open Nat renaming lt_of_lt_of_le→Qb
section
open Go.RowKit Go.Shelf
theorem Below.turned {base:Nat}{w c d:World}{b:Nat}(a:Below base w c)(t:Turned c d b)(hb:base<=b):Below base w d :=
 ⟨t.os.trans a.os,t.tape.trans a.tape,t.output.trans a.output,by rw[t.size];exact a.size,fun k hk=>(t.other k (by omega)).trans (a.block k hk)⟩
theorem zy8 {p q base:Nat}{l f:List zan}{w:World}(n:SetOf zar w p l)(o:SetOf zar w q f)(O:p≠q)(hb:base<=p)(D:base<=w.heap.size) :
  Calls Tryz.prog 158 #[.map (some p),.map (some q)] w fun e w'=>∃F:List zan,e=.returned (.tuple #[])/\F.Perm f/\SetOf zar w' p (F.foldl addK l)/\Below base w w':=by
 obtain⟨S,Y,hR,b,Z⟩:=zcz (P:=Tryz.prog) Tryz.underlying217 o;have J:=zH hR;have M:=zH b;have I:=zH (n.ext b);have V:=n.lt;have X:=o.lt;clear hR b n o;go_enter Tryz.func158,Tryz.ntmps158;go_wp2_with fail
 go_loopw [8] (fun u wr=>∃done x,(done++x.map Prod.fst).Perm f/\RangeIs zar zeg wr q w.heap.size (f.map fun k=>(k,())) x/\SetOf zar wr p (done.foldl addK l)/\Below base w wr) (fun _ wr=>wr.rangeLeft q w.heap.size)
 case atStart=>exact⟨[],_,by rw[ze3];exact .refl _,J.out,I.out,M.out.below D⟩
 obtain⟨done,x,i,hR,h,d⟩:=hrel;rcases zdh (P:=Tryz.prog) 0 hR with⟨rfl,c⟩|⟨r1,k,t,y,rfl,c,A,r,T⟩
 ·have Q:∀g,(Instr.next (Xb (some ⟨w.heap.size,0,none⟩)) false g).run Tryz.prog wr=.ok (.tuple #[.bool false]) wr:=fun g=>c
  have m:=zH i;have K:=zH h;have N:=zH d;clear i hR c h d;go_wp2_with fail
  go_end0
  exact⟨done,rfl,by have:=m.out;simp at this;exact this,K.out,N.out⟩
 have Q:∀g,(Instr.next (Xb (some ⟨w.heap.size,0,none⟩)) false g).run Tryz.prog wr=.ok (.tuple #[.bool true,zar k.1,zeg k.2]) y:=fun g=>c
 have s:=Below.turned d r D;have C:SetOf zar y p (done.foldl addK l):=h.keep (r.other _ (by omega));have b:=((Ext.refl y).alloc (.cells #[St k.1.1,St k.1.2.1,U k.1.2.2] 220)).alloc (.cells #[] 141);obtain⟨R,aa,E,j⟩:=zc9 (P:=Tryz.prog) Tryz.underlying217 zjd (C.ext b) k.1;have ab:=d.size;have B:RangeIs zar zeg R q w.heap.size (f.map fun k=>(k,())) (r1++t):=(A.ext b).keep (j.other q (fun e=>O e.symm)) (j.other _ (by omega));have G:=zH (Below.turned (Below.trans s (b.below (by have:=s.size;omega))) j hb);have H:=zH hR.left_eq;have z:=zH B;have L:=zH E;have m:=zH i;clear i hR c A d r s C h b B E j;go_wp2_with fail;go_roundw
 case rel=>exact⟨done++[k.1],r1++t,by have h1:=m.out;simp only[List.map_append,List.map_cons]at h1 ⊢;rw[List.append_assoc];exact((List.perm_middle (l₁:=r1.map Prod.fst) (a:=k.1) (l₂:=t.map Prod.fst)).symm.append_left done).trans h1,z.out,by rw[List.foldl_append];exact L.out,G.out⟩
 case measure=>rw[H.out,z.out.left_eq];simp
theorem zy9 (s:Str)(m:zan){b:Nat}{w:World}(hb:w.cell? ⟨b,0,none⟩=some (St s)) :
  Calls Tryz.prog 224 #[zar m,Xb (some ⟨b,0,none⟩)] w fun e w'=>e=.returned (.bool (m.1 !=s))/\Ext w w':=by
 have f:=zae hb
 by_cases a:m.1=s
 ·have c:(m.1==s)=true:=by simpa using a
  have d:(m.1 !=s)=false:=by simpa using a
  go_enter Tryz.func224,Tryz.ntmps224;go_wp2;go_ret;exact⟨by simp[a],(Ext.refl _).alloc _⟩
 have c:(m.1==s)=false:=by simpa using a
 have d:(m.1 !=s)=true:=by simpa using a
 go_enter Tryz.func224,Tryz.ntmps224;go_wp2;go_ret;exact⟨by simp[a],(Ext.refl _).alloc _⟩
theorem zwv (s:Str)(m:zan){b:Nat}{w:World}(hb:w.cell? ⟨b,0,none⟩=some (St s)) :
  Calls Tryz.prog 225 #[zar m,Xb (some ⟨b,0,none⟩)] w fun e w'=>e=.returned (.bool (m.1 !=s))/\Ext w w':=by
 have f:=zae hb
 by_cases a:m.1=s
 ·have c:(m.1==s)=true:=by simpa using a
  have d:(m.1 !=s)=false:=by simpa using a
  go_enter Tryz.func225,Tryz.ntmps225;go_wp2;go_ret;exact⟨by simp[a],(Ext.refl _).alloc _⟩
 have c:(m.1==s)=false:=by simpa using a
 have d:(m.1 !=s)=true:=by simpa using a
 go_enter Tryz.func225,Tryz.ntmps225;go_wp2;go_ret;exact⟨by simp[a],(Ext.refl _).alloc _⟩
theorem zww (s:Str)(b base:Nat)(hb:b<base):PredK zar Tryz.prog 224 #[Xb (some ⟨b,0,none⟩)] base (fun W=>W.cell? ⟨b,0,none⟩=some (St s)) (fun m=>m.1 !=s) where
 enters:=enters_of Tryz.func224 (by kernel_rfl) rfl
 keep W W' h hB:=(Below.cell hB (p:=⟨b,0,none⟩) hb).trans h
 does m W h:=zy9 s m h
theorem zuc (s:Str)(b base:Nat)(hb:b<base):PredK zar Tryz.prog 225 #[Xb (some ⟨b,0,none⟩)] base (fun W=>W.cell? ⟨b,0,none⟩=some (St s)) (fun m=>m.1 !=s) where
 enters:=enters_of Tryz.func225 (by kernel_rfl) rfl
 keep W W' h hB:=(Below.cell hB (p:=⟨b,0,none⟩) hb).trans h
 does m W h:=zwv s m h
end
section
open Go.RowKit
section
variable {w w' W W':World} {base:Nat} {v dv v' dv':Value} {its:List Item} {last:Item}
theorem Own.slOwn {q:Nat}{a:List Dot}(d:Own w base q 2 dv a.length (a.flatMap zaj)):Sl markT w (zad dv) dv a:=by
 have j:=zbb d;rcases d.2 with⟨A,rfl,h0⟩|⟨g,i,r,rfl,-,-,f,s,-⟩
 ·obtain rfl:a = []:=List.eq_nil_of_length_eq_zero h0;exact Sl.nil _ _ (by omega)
 obtain⟨A,c,p,h1,k,l⟩:=j;cases p;refine⟨_,_,rfl,h1,k,fun pre x post h=>?_⟩;obtain⟨b,o,vs,e,-,n,m⟩:=l pre x post h;cases e;exact⟨g,0,vs,rfl,⟨g,a.length,i,rfl,by rw[h]at f;simp at f;omega,rfl⟩,n,m⟩
def ItemsAt (W:World)(base:Nat)(v:Value)(its:List Item)(last:Item):Prop :=
 ∃(S:Nat->Prop) (vss:List (List Value)) (dv:Value),(∀b,S b->base<=b/\b<W.heap.size)/\vss.length=its.length/\(∀(i:Nat) x vs,its[i]? = some x->vss[i]? = some vs->itemT.rd W S x vs) /\
  Own W base 57 2 v (its.length+1) (vss.flatten++[St last.1,dv])/\Own W base 59 2 dv last.2.length (last.2.flatMap zaj) /\
  (∀b,zad v b->¬S b/\¬zad dv b)/\(∀b,zad dv b->¬S b)
theorem ItemsAt.ext (c:ItemsAt W base v its last)(a:Ext W W'):ItemsAt W' base v its last:=by
 obtain⟨S,vss,dv,h1,d,e,f,g,h,j⟩:=c;exact⟨S,vss,dv,fun b hb=>⟨(h1 b hb).1,Qb (h1 b hb).2 a.size⟩,d,fun i x vs l k=>itemT.keep (e i x vs l k) (fun b _ hb=>a.block b hb),f.ext a,g.ext a,h,j⟩
theorem zh7 {its:List Item}{S:Nat->Prop}{vss:List (List Value)}(c:vss.length=its.length)(d:∀(i:Nat) x vs,its[i]? = some x->vss[i]? = some vs->itemT.rd W S x vs):vss.flatten.length=its.length * 2:=by
 induction its generalizing vss with
 | nil=>simp at c;subst c;rfl
 | cons a r g =>
  cases vss with
  | nil=>simp at c
  | cons b s=>have hb:b.length=2:=itemT.len (d 0 a b rfl rfl);have:=g (vss:=s) (by simpa using c) (fun i x vs f e=>d (i+1) x vs f e);simp[this,hb];omega
theorem ItemsAt.tells (h:ItemsAt W base v its last):∃g a dv,v=Xa (some ⟨g,0,none⟩) (its.length+1) a/\its.length+1<=a/\a<=9223372036854775807/\base<=g/\W.cell? ⟨g,its.length * 2,none⟩=some (St last.1)/\W.cell? ⟨g,its.length * 2+1,none⟩=some dv /\
  W.frozen? ⟨g,its.length * 2+1,none⟩=false/\Own W base 59 2 dv last.2.length (last.2.flatMap zaj)/\(∀b,zad dv b->b≠g):=by
 obtain⟨S,vss,dv,h1,i,j,k,l,m,q⟩:=h;have d:=zh7 i j;obtain⟨g,a,tail,rfl,o,c,n,p,r⟩:=k.row (by omega);have e0:(vss.flatten++[St last.1,dv])[its.length * 2]? = some (St last.1):=by rw[<- d,Qa (Nat.le_refl _)];simp
 have f:(vss.flatten++[St last.1,dv])[its.length * 2+1]? = some dv:=by rw[<- d,Qa (by omega)];simp
 exact⟨g,a,dv,rfl,n,p,o,c.cell e0,c.cell f,c.frozen _,l,fun b hb e=>(m g ⟨g,_,a,rfl,by omega,rfl⟩).2 (e▸hb)⟩
theorem ItemsAt.more (q:ItemsAt W base v its last)(t:Str)(z:∀vss dv,Own W base 57 2 v (its.length+1) (vss++[St last.1,dv])->Own W' base 57 2 v' (its.length+1+1) (vss++[St last.1,dv]++[St t,Xa none 0 0]))(k:Grew W W' v v') :
  ItemsAt W' base v' (its++[last]) (t,[]):=by
 obtain⟨S,vss,dv,h1,m,r,s,o,j,A⟩:=q;have l:∀b,zad dv b->base<=b/\b<W.heap.size:=fun b hb=>o.base_le hb
 have hk:∀b,S b ∨ zad dv b->b<W.heap.size->W'.heap[b]? = W.heap[b]?:=fun b hb y=>k.same b y fun f=>by
  rcases hb with hb|hb
  ·exact(j b f).1 hb
  exact(j b f).2 hb
 refine⟨fun b=>S b ∨ zad dv b,vss++[[St last.1,dv]],Xa none 0 0,fun b hb=>?_,by simp[m],fun i x vs d h=>?_,by simpa using z _ _ s,Own.nil _ _ _ _ _,fun b hb=>?_,fun b hb=>?_⟩
 ·rcases hb with hb|hb
  ·exact⟨(h1 b hb).1,Qb (h1 b hb).2 k.size⟩
  exact⟨(l b hb).1,Qb (l b hb).2 k.size⟩
 ·by_cases u:i<its.length
  ·rw[Qc u]at d;rw[Qc (by omega)]at h;exact itemT.keep (itemT.mono (r i x vs d h) (fun b _ hb=>.inl hb)) hk
  rw[Qa (by omega)]at d;rw[Qa (by omega)]at h
  have p:i-its.length=0:=by have:=(List.getElem?_eq_some_iff.1 d).1;simp at this;exact this
  rw[p]at d;rw[m,p]at h;simp at d h;subst d;subst h;exact itemT.keep (w:=W) ⟨dv,rfl,o.slOwn.mono (by decide) (fun b _ hb=>.inr hb)⟩ hk
 ·refine⟨fun a=>?_,fun⟨g,n,c,e,_,_⟩=>by cases e⟩;rcases k.blk b hb with f|f
  ·rcases a with a|a
   ·exact(j b f).1 a
   exact(j b f).2 a
  rcases a with a|a
  ·have:=(h1 b a).2;omega
  have:=(l b a).2;omega
 obtain⟨g,n,c,e,_,_⟩:=hb;cases e
theorem ItemsAt.row (a:ItemsAt W base v its last):∃xs,Own W base 57 2 v (its.length+1) xs/\∀(W':World) (v':Value) (t:Str),Own W' base 57 2 v' (its.length+1+1) (xs++[St t,Xa none 0 0])->Grew W W' v v'->ItemsAt W' base v' (its++[last]) (t,[]):=by
 have f:=a;obtain⟨S,vss,dv,h1,u,x,b,y,z,A⟩:=a;refine⟨_,b,fun W' v' t k j=>?_⟩;refine f.more t (fun n d h=>?_) j
 have e:n++[St last.1,d]=vss.flatten++[St last.1,dv]:=by obtain⟨g,o,q,rfl,-,-,i,-,-,-,l⟩:=b.pos (by omega);obtain⟨s,p,r,e,-,-,c,-,-,-,m⟩:=h.pos (by omega);cases e;rw[i]at c;cases c;exact m.symm.trans l
 rw[e];exact k
theorem ItemsAt.first (t:Str)(h:Own W base 57 2 v 1 [St t,Xa none 0 0]):ItemsAt W base v [] (t,[]) :=
 ⟨fun _=>False,[],Xa none 0 0,fun b hb=>hb.elim,rfl,by simp,by simpa using h,Own.nil _ _ _ _ _,fun b hb=>⟨fun h=>h.elim,fun⟨g,n,c,e,_,_⟩=>by cases e⟩,fun b ⟨g,n,c,e,_,_⟩=>by cases e⟩
theorem Own.setLast {T n g f:Nat}{xs:List Value}{a b c:Value}(d:xs.length=n * 2)(i:Own W base T 2 (Xa (some ⟨g,0,none⟩) (n+1) f) (n+1) (xs++[a,b])):Own (W.setCell ⟨g,n * 2+1,none⟩ c) base T 2 (Xa (some ⟨g,0,none⟩) (n+1) f) (n+1) (xs++[a,c]):=by
 obtain⟨r,q,tail,e,l,p,k,o,m⟩:=i.row (by omega);cases e;have h1:=p.set (j:=n * 2+1) (by simp[d]) c;have h:(xs++[a,b]).set (n * 2+1) c=xs++[a,c]:=by rw[<- d,List.set_append_right _ _ (by omega)];simp
 rw[h]at h1;exact h1.own l k o (by simp at m ⊢;omega) (List.take_of_length_le (by simp[d];omega)) (by simp[d];omega)
theorem ItemsAt.dot {t:Str}{c:List Dot}{d:Dot}{g j:Nat}(z:ItemsAt W base (Xa (some ⟨g,0,none⟩) (its.length+1) j) its (t,c))(B:W.cell? ⟨g,its.length * 2+1,none⟩=some dv)(f:Grew W W' dv dv')(C:Own W' base 59 2 dv' (c.length+1) (c.flatMap zaj++[St d.1,U d.2])) :
  ItemsAt (W'.setCell ⟨g,its.length * 2+1,none⟩ dv') base (Xa (some ⟨g,0,none⟩) (its.length+1) j) its (t,c++[d]):=by
 obtain⟨S,vss,k,h1,o,p,l,J,h,q⟩:=z;have s:=zh7 o p;have y:(vss.flatten++[St t,k])[its.length * 2+1]? = some k:=by rw[<- s,Qa (by omega)];simp
 have:=l.cell (g:=g) rfl y;rw[B]at this;obtain rfl:dv=k:=Option.some.inj this;obtain⟨H,F,G,e,K,M,-,L,-⟩:=l.pos (by omega);cases e;have n:zad (Xa (some ⟨g,0,none⟩) (its.length+1) j) g:=⟨g,_,_,rfl,by omega,rfl⟩
 have u:∀b,zad dv' b->b≠g:=fun b hb e=>by
  rcases f.blk b hb with a|a
  ·exact(h g n).2 (e▸a)
  omega
 have A:∀b,S b->b≠g:=fun b hb e=>(h g n).1 (e▸hb)
 refine⟨S,vss,dv',fun b hb=>⟨(h1 b hb).1,Qb (h1 b hb).2 (by simpa using f.size)⟩,o,fun i x vs E D=>?_,?_,?_,fun b hb=>?_,fun b hb r=>?_⟩
 ·refine itemT.keep (p i x vs E D) fun b hb m=>?_
  rw[Below.heap_setCell _ _ _ _ (A b hb)];exact f.same b m fun a=>q b a hb
 ·exact Own.setLast s (l.keep fun b hb m=>f.same b m fun a=>(h b hb).2 a)
 ·have:Own W' base 59 2 dv' (c++[d]).length ((c++[d]).flatMap zaj):=by simpa[zaj]using C
  exact this.keep fun b hb _=>Below.heap_setCell _ _ _ _ (u b hb)
 ·obtain⟨I,N,c2,e,-,rfl⟩:=hb;cases e;exact⟨(h g n).1,fun a=>u _ a rfl⟩
 rcases f.blk b hb with a|a
 ·exact q b a r
 have:=(h1 b r).2;omega
theorem ItemsAt.dotN {t:Str}{a:List Dot}{d:Dot}{g b n:Nat}(h:its.length=n)(c:ItemsAt W base (Xa (some ⟨g,0,none⟩) (n+1) b) its (t,a))(e:W.cell? ⟨g,n * 2+1,none⟩=some dv)(f:Grew W W' dv dv')(i:Own W' base 59 2 dv' (a.length+1) (a.flatMap zaj++[St d.1,U d.2])) :
  ItemsAt (W'.setCell ⟨g,n * 2+1,none⟩ dv') base (Xa (some ⟨g,0,none⟩) (n+1) b) its (t,a++[d]):=by
 subst h;exact c.dot e f i
theorem ItemsAt.done (a:ItemsAt W base v its last):OwnL itemT 57 W base (fun b=>base<=b) v (its++[last]):=by
 obtain⟨S,vss,dv,h1,c,d,e,f,j,k⟩:=a;refine OwnL.snoc (vss:=vss) c (fun i x vs h g=>itemT.mono (d i x vs h g) (fun b _ hb=>(h1 b hb).1)) ?_ e;exact⟨dv,rfl,zbb f⟩
end
end
end Go.Proofs.YtaabaflgeljbjaaGreat
