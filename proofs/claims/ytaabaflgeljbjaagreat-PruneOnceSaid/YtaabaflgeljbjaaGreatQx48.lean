/- An argument's datum opened: a row of deeds. -/
import Derived.Test.YtaabaflgeljbjaaGreatQx40
import Derived.Test.YtaabaflgeljbjaaGreatQx47
set_option linter.unusedVariables false
set_option linter.unusedSimpArgs false
set_option maxRecDepth 100000
set_option maxHeartbeats 40000000
namespace Go.Proofs.YtaabaflgeljbjaaGreat
section
open Go.Deep Go.ChangeShapes Go.WideShapes
section
variable {H:Type} {enc:TypeId × Value->H} {w:World}
theorem zjn {n:Nat} {c:Value} {D:DataW H} {p:List MemPlace} (h:DataW.trod enc Tryz.prog w 0 (fun _=>true) true n 5 [c]=some (D,p)):∃ k:Nat,c=K8 k/\k < 256:=by
 obtain⟨z,hc,-,hwf⟩:=DataW.trod_int Tryz.underlying5 h;have hb:(decide (IntKind.u8.min<=z) && decide (z<=IntKind.u8.max))=true:=hwf;simp only [Bool.and_eq_true,decide_eq_true_eq] at hb;have h1:(0:Int)<=z:=hb.1;have h2:z<=(255:Int):=hb.2;obtain⟨k,rfl⟩:=Int.eq_ofNat_of_zero_le h1;exact⟨k,by simpa using hc,by omega⟩
theorem zyu {n:Nat} {c:Value} {D:DataW H} {p:List MemPlace} (h:DataW.trod enc Tryz.prog w 0 (fun _=>true) true n 66 [c]=some (D,p)):∃ z:Int,c=.int .i16 z/\-32768<=z/\z<=32767:=by
 obtain⟨z,hc,-,hwf⟩:=DataW.trod_int Tryz.underlying66 h;have hb:(decide (IntKind.i16.min<=z) && decide (z<=IntKind.i16.max))=true:=hwf;simp only [Bool.and_eq_true,decide_eq_true_eq] at hb;have h1:(-32768:Int)<=z:=hb.1;have h2:z<=(32767:Int):=hb.2;exact⟨z,by simpa using hc,h1,h2⟩
theorem yb3:Tryz.prog.cellsOf 70=7:=by kernel_rfl
theorem yav:Tryz.prog.cellsOf 68=5:=by kernel_rfl
theorem zsh {n:Nat} {c0 c1 c2 c3 c4:Value} {D:DataW H} {p:List MemPlace} (htr:DataW.trod enc Tryz.prog w 0 (fun _=>true) true n 68 [c0,c1,c2,c3,c4]=some (D,p)) :
  ∃ (a b:Nat) (z:Int) (t o:Nat),c0=K8 a/\c1=K8 b/\c2=.int .i16 z/\c3=K8 t/\c4=K8 o/\a < 256/\b < 256/\-32768<=z/\z<=32767/\t < 256/\o < 256:=by
 obtain⟨xs,m,-,hx,hlen,hxl,hf⟩:=DataW.trod_struct Tryz.underlying68 htr;obtain⟨y0,y1,y2,y3,y4,rfl⟩:=ycc hxl;have g0:DataW.trod enc Tryz.prog w 0 (fun _=>true) true m 5 ((([c0,c1,c2,c3,c4]:List Value).drop 0).take (Tryz.prog.cellsOf 5))=some (y0.1,y0.2):=hf 0 _ rfl;have g1:DataW.trod enc Tryz.prog w 0 (fun _=>true) true m 5 ((([c0,c1,c2,c3,c4]:List Value).drop 1).take (Tryz.prog.cellsOf 5))=some (y1.1,y1.2):=hf 1 _ rfl;have g2:DataW.trod enc Tryz.prog w 0 (fun _=>true) true m 66 ((([c0,c1,c2,c3,c4]:List Value).drop 2).take (Tryz.prog.cellsOf 66))=some (y2.1,y2.2):=hf 2 _ rfl;have g3:DataW.trod enc Tryz.prog w 0 (fun _=>true) true m 5 ((([c0,c1,c2,c3,c4]:List Value).drop 3).take (Tryz.prog.cellsOf 5))=some (y3.1,y3.2):=hf 3 _ rfl;have g4:DataW.trod enc Tryz.prog w 0 (fun _=>true) true m 5 ((([c0,c1,c2,c3,c4]:List Value).drop 4).take (Tryz.prog.cellsOf 5))=some (y4.1,y4.2):=hf 4 _ rfl;rw [show Tryz.prog.cellsOf 5=1 by kernel_rfl] at g0 g1 g3 g4;rw [show Tryz.prog.cellsOf 66=1 by kernel_rfl] at g2;obtain⟨a,rfl,ha⟩:=zjn g0;obtain⟨b,rfl,hb⟩:=zjn g1;obtain⟨z,rfl,h1,h2⟩:=zyu g2;obtain⟨t,rfl,ht⟩:=zjn g3;obtain⟨o,rfl,ho⟩:=zjn g4;exact⟨a,b,z,t,o,rfl,rfl,rfl,rfl,rfl,ha,hb,h1,h2,ht,ho⟩
theorem zv4:zqx enc w 70 zom DeedOk:=by
 intro n cs D p htr hw;obtain⟨xs,m,-,hx,hlen,hxl,hf⟩:=DataW.trod_struct Tryz.underlying70 htr;obtain⟨y0,y1,y2,rfl⟩:=ycb hxl;obtain⟨c0,c1,c2,c3,c4,c5,c6,rfl⟩:=ycd (hlen.trans yb3);have g0:DataW.trod enc Tryz.prog w 0 (fun _=>true) true m 5 ((([c0,c1,c2,c3,c4,c5,c6]:List Value).drop 0).take (Tryz.prog.cellsOf 5))=some (y0.1,y0.2):=hf 0 _ rfl;rw [show Tryz.prog.cellsOf 5=1 by kernel_rfl] at g0;have g1:DataW.trod enc Tryz.prog w 0 (fun _=>true) true m 68 ((([c0,c1,c2,c3,c4,c5,c6]:List Value).drop 1).take (Tryz.prog.cellsOf 68))=some (y1.1,y1.2):=hf 1 _ rfl;rw [yav] at g1;have g2:DataW.trod enc Tryz.prog w 0 (fun _=>true) true m 4 ((([c0,c1,c2,c3,c4,c5,c6]:List Value).drop 6).take (Tryz.prog.cellsOf 4))=some (y2.1,y2.2):=hf 2 _ rfl;rw [yb2] at g2;obtain⟨k,rfl,hk⟩:=zjn g0;obtain⟨a,b,z,t,o,rfl,rfl,rfl,rfl,rfl,ha,hb,h1,h2,ht,ho⟩:=zsh g1;obtain⟨q,rfl⟩:=zv3 g2;exact⟨⟨k,a,b,z,t,o,q⟩,rfl,hk,ha,hb,h1,h2,ht,ho⟩
theorem ztr:zqx enc w 60 (slT zom (by decide)) (fun l=>(∀ a ∈ l,DeedOk a)/\l.length * 10<=reachBytes) :=
 haveI:Inhabited Deed:=⟨⟨0,0,0,0,0,0,false⟩⟩
 ztq 10 (by decide) Tryz.underlying60 (by kernel_rfl) (by kernel_rfl) zv4
theorem zv5 {r:Reach} {b0:Nat} {v:Value} {d:DataW H} {ps:List MemPlace} (hval:Value.okWide Tryz.prog w r b0 60 v) (h:DataW.Trod enc Tryz.prog w 0 (fun _=>true) true 60 v d ps)
  (hw:∀ q ∈ DataW.weights Tryz.prog 60 d,q<=reachBytes):∃ l,Sl zom w (fun _=>True) v l/\∀ a ∈ l,DeedOk a:=by
 obtain⟨n,hn⟩:=h;obtain⟨l,⟨v1,e,h1⟩,h2,-⟩:=ztr _ _ _ _ hn hw;obtain⟨a,len,cap,rfl⟩:=okWide_slice Tryz.underlying60 hval;have f1:Value.slice a len cap=v1:=by simpa [Value.cells] using e
 subst f1;exact⟨l,h1,h2⟩
end
end
end Go.Proofs.YtaabaflgeljbjaaGreat
