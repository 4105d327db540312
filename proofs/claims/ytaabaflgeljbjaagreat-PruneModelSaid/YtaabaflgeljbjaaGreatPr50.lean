/- Laws. -/
import Derived.Test.YtaabaflgeljbjaaGreatPr40
import Derived.Test.YtaabaflgeljbjaaGreatPr49
set_option linter.unusedVariables false
set_option linter.unusedSimpArgs false
set_option maxRecDepth 100000
set_option maxHeartbeats 40000000
namespace Go.Proofs.YtaabaflgeljbjaaGreat
open Go renaming Value→Xa
section
open Go.Deep Go.ChangeShapes Go.WideShapes
section
variable {H:Type} {enc:TypeId × Xa->H} {w:World}
theorem zjn {n:Nat}{c:Xa}{a:DataW H}{p:List MemPlace}(b:DataW.trod enc Tryz.prog w 0 (fun _=>true) true n 5 [c]=some (a,p)):∃k:Nat,c=K8 k/\k<256:=by
 obtain⟨z,d,-,e⟩:=DataW.trod_int Tryz.underlying5 b;have hb:(decide (IntKind.u8.min<=z)&&decide (z<=IntKind.u8.max))=true:=e;simp only[Bool.and_eq_true,decide_eq_true_eq]at hb;have h1:(0:Int)<=z:=hb.1;have f:z<=(255:Int):=hb.2;obtain⟨k,rfl⟩:=Int.eq_ofNat_of_zero_le h1;exact⟨k,by simpa using d,by omega⟩
theorem zyu {n:Nat}{c:Xa}{a:DataW H}{p:List MemPlace}(b:DataW.trod enc Tryz.prog w 0 (fun _=>true) true n 66 [c]=some (a,p)):∃z:Int,c=.int .i16 z/\-32768<=z/\z<=32767:=by
 obtain⟨z,e,-,f⟩:=DataW.trod_int Tryz.underlying66 b;have hb:(decide (IntKind.i16.min<=z)&&decide (z<=IntKind.i16.max))=true:=f;simp only[Bool.and_eq_true,decide_eq_true_eq]at hb;have h1:(-32768:Int)<=z:=hb.1;have d:z<=(32767:Int):=hb.2;exact⟨z,by simpa using e,h1,d⟩
theorem yb3:Tryz.prog.cellsOf 70=7:=by kernel_rfl
theorem yav:Tryz.prog.cellsOf 68=5:=by kernel_rfl
theorem zsh {n:Nat}{c c1 c2 d c4:Xa}{u:DataW H}{p:List MemPlace}(A:DataW.trod enc Tryz.prog w 0 (fun _=>true) true n 68 [c,c1,c2,d,c4]=some (u,p)) :
  ∃(a b:Nat) (z:Int) (t o:Nat),c=K8 a/\c1=K8 b/\c2=.int .i16 z/\d=K8 t/\c4=K8 o/\a<256/\b<256/\-32768<=z/\z<=32767/\t<256/\o<256:=by
 obtain⟨xs,m,-,D,C,B,e⟩:=DataW.trod_struct Tryz.underlying68 A;obtain⟨k,l,q,r,s,rfl⟩:=ycc B;have f:DataW.trod enc Tryz.prog w 0 (fun _=>true) true m 5 ((([c,c1,c2,d,c4]:List Xa).drop 0).take (Tryz.prog.cellsOf 5))=some (k.1,k.2):=e 0 _ rfl;have g:DataW.trod enc Tryz.prog w 0 (fun _=>true) true m 5 ((([c,c1,c2,d,c4]:List Xa).drop 1).take (Tryz.prog.cellsOf 5))=some (l.1,l.2):=e 1 _ rfl;have h:DataW.trod enc Tryz.prog w 0 (fun _=>true) true m 66 ((([c,c1,c2,d,c4]:List Xa).drop 2).take (Tryz.prog.cellsOf 66))=some (q.1,q.2):=e 2 _ rfl;have i:DataW.trod enc Tryz.prog w 0 (fun _=>true) true m 5 ((([c,c1,c2,d,c4]:List Xa).drop 3).take (Tryz.prog.cellsOf 5))=some (r.1,r.2):=e 3 _ rfl;have j:DataW.trod enc Tryz.prog w 0 (fun _=>true) true m 5 ((([c,c1,c2,d,c4]:List Xa).drop 4).take (Tryz.prog.cellsOf 5))=some (s.1,s.2):=e 4 _ rfl;rw[show Tryz.prog.cellsOf 5=1 by kernel_rfl]at f g i j;rw[show Tryz.prog.cellsOf 66=1 by kernel_rfl]at h;obtain⟨a,rfl,ha⟩:=zjn f;obtain⟨b,rfl,hb⟩:=zjn g;obtain⟨z,rfl,h1,v⟩:=zyu h;obtain⟨t,rfl,y⟩:=zjn i;obtain⟨o,rfl,x⟩:=zjn j;exact⟨a,b,z,t,o,rfl,rfl,rfl,rfl,rfl,ha,hb,h1,v,y,x⟩
theorem zv4:zqx enc w 70 zom DeedOk:=by
 intro n cs C p A D;obtain⟨xs,m,-,E,v,B,g⟩:=DataW.trod_struct Tryz.underlying70 A;obtain⟨l,r,s,rfl⟩:=ycb B;obtain⟨c,c1,c2,d,c4,e,f,rfl⟩:=ycd (v.trans yb3);have h:DataW.trod enc Tryz.prog w 0 (fun _=>true) true m 5 ((([c,c1,c2,d,c4,e,f]:List Xa).drop 0).take (Tryz.prog.cellsOf 5))=some (l.1,l.2):=g 0 _ rfl;rw[show Tryz.prog.cellsOf 5=1 by kernel_rfl]at h;have i:DataW.trod enc Tryz.prog w 0 (fun _=>true) true m 68 ((([c,c1,c2,d,c4,e,f]:List Xa).drop 1).take (Tryz.prog.cellsOf 68))=some (r.1,r.2):=g 1 _ rfl;rw[yav]at i;have j:DataW.trod enc Tryz.prog w 0 (fun _=>true) true m 4 ((([c,c1,c2,d,c4,e,f]:List Xa).drop 6).take (Tryz.prog.cellsOf 4))=some (s.1,s.2):=g 2 _ rfl;rw[yb2]at j;obtain⟨k,rfl,hk⟩:=zjn h;obtain⟨a,b,z,t,o,rfl,rfl,rfl,rfl,rfl,ha,hb,h1,u,y,x⟩:=zsh i;obtain⟨q,rfl⟩:=zv3 j;exact⟨⟨k,a,b,z,t,o,q⟩,rfl,hk,ha,hb,h1,u,y,x⟩
theorem ztr:zqx enc w 60 (slT zom (by decide)) (fun l=>(∀a∈l,DeedOk a)/\l.length * 10<=reachBytes) :=
 haveI:Inhabited Deed:=⟨⟨0,0,0,0,0,0,false⟩⟩
 ztq 10 (by decide) Tryz.underlying60 (by kernel_rfl) (by kernel_rfl) zv4
theorem zv5 {r:Reach}{b:Nat}{v:Xa}{d:DataW H}{ps:List MemPlace}(i:Value.okWide Tryz.prog w r b 60 v)(f:DataW.Trod enc Tryz.prog w 0 (fun _=>true) true 60 v d ps)(j:∀q∈DataW.weights Tryz.prog 60 d,q<=reachBytes):∃l,Sl zom w (fun _=>True) v l/\∀a∈l,DeedOk a:=by
 obtain⟨n,h⟩:=f;obtain⟨l,⟨v1,e,h1⟩,g,-⟩:=ztr _ _ _ _ h j;obtain⟨a,len,c,rfl⟩:=okWide_slice Tryz.underlying60 i;have f1:Value.slice a len c=v1:=by simpa[Value.cells]using e
 subst f1;exact⟨l,h1,g⟩
end
section
variable {H:Type} {enc:TypeId × Xa->H} {w:World}
theorem ykg:Tryz.prog.cellsOf 77=8:=by kernel_rfl
theorem yk0 {α:Type}{l:List α}(h:l.length=8):∃a b c d e f g i,l = [a,b,c,d,e,f,g,i]:=by
 match l,h with
 | [a,b,c,d,e,f,g,i],_=>exact⟨a,b,c,d,e,f,g,i,rfl⟩
theorem yiz:zqx enc w 77 yhf (fun x=>DeedOk x.d):=by
 intro n cs E p A B;obtain⟨xs,m,-,s,v,D,r⟩:=DataW.trod_struct Tryz.underlying77 A;obtain⟨g,h,rfl⟩:=ykx D;obtain⟨b,c1,c2,c,c4,e,f,c7,rfl⟩:=yk0 (v.trans ykg);have l:=congrArg Prod.fst s;simp only at l;clear s;subst l;have C:∀(i:Nat) (t:TypeId) (d:DataW H),([70,4][i]? = some t)->([g.1,h.1][i]? = some d)->∀q∈DataW.weights Tryz.prog t d,q<=reachBytes:=fun i t d h1 u q z=>B q (by simp only[DataW.weights,Tryz.underlying77];exact zmc i h1 u z)
 have j:DataW.trod enc Tryz.prog w 0 (fun _=>true) true m 70 ((([b,c1,c2,c,c4,e,f,c7]:List Xa).drop 0).take (Tryz.prog.cellsOf 70))=some (g.1,g.2):=r 0 _ rfl;rw[yb3]at j;have k:DataW.trod enc Tryz.prog w 0 (fun _=>true) true m 4 ((([b,c1,c2,c,c4,e,f,c7]:List Xa).drop 7).take (Tryz.prog.cellsOf 4))=some (h.1,h.2):=r 1 _ rfl;rw[yb2]at k;obtain⟨d,o,y⟩:=zv4 _ _ _ _ j (C 0 _ _ rfl rfl);obtain⟨q,rfl⟩:=zv3 k;simp only[List.drop_zero,List.take_succ_cons,List.take_zero]at o;have a:[b,c1,c2,c,c4,e,f]=yb8 d:=o;injection a with e0 a
 injection a with e1 a
 injection a with e2 a
 injection a with e3 a
 injection a with e4 a
 injection a with e5 a
 injection a with e6 a
 subst e0 e1 e2 e3 e4 e5 e6;exact⟨⟨d,q⟩,rfl,y⟩
theorem yij:zqx enc w 61 (slT yhf (by decide)) (fun l=>(∀a∈l,DeedOk a.d)/\l.length * 12<=reachBytes) :=
 haveI:Inhabited Deed17:=⟨⟨⟨0,0,0,0,0,0,false⟩,false⟩⟩
 ztq 12 (by decide) Tryz.underlying61 (by kernel_rfl) (by kernel_rfl) yiz
theorem yi0 {r:Reach}{b:Nat}{v:Xa}{d:DataW H}{ps:List MemPlace}(i:Value.okWide Tryz.prog w r b 61 v)(f:DataW.Trod enc Tryz.prog w 0 (fun _=>true) true 61 v d ps)(j:∀q∈DataW.weights Tryz.prog 61 d,q<=reachBytes):∃l,Sl yhf w (fun _=>True) v l/\∀a∈l,DeedOk a.d:=by
 obtain⟨n,h⟩:=f;obtain⟨l,⟨v1,e,h1⟩,g,-⟩:=yij _ _ _ _ h j;obtain⟨a,len,c,rfl⟩:=okWide_slice Tryz.underlying61 i;have f1:Value.slice a len c=v1:=by simpa[Value.cells]using e
 subst f1;exact⟨l,h1,g⟩
end
end
end Go.Proofs.YtaabaflgeljbjaaGreat
