/- Contracts of the functions that the statement goes through, and plain laws of them. -/
import Derived.Test.YtdikcgmdmcfpfaaGreatOw37
import Derived.Test.YtdikcgmdmcfpfaaGreatOw28
import Derived.ChangeMaps5
set_option linter.unusedVariables false
set_option linter.unusedSimpArgs false
set_option linter.unusedSectionVars false
set_option maxRecDepth 100000
set_option maxHeartbeats 4000000
namespace Go.Proofs.YtdikcgmdmcfpfaaGreat
section
open Go.Deep Go.ChangeShapes Go.WideShapes
section
variable {H:Type} {enc:TypeId × Value→H} {w:World}
theorem zxc {α:Type} {l:List α} (h:l.length=7):∃ a b c d e f g,l = [a,b,c,d,e,f,g]:=by
 match l,h with
 | [a,b,c,d,e,f,g],_=>exact⟨a,b,c,d,e,f,g,rfl⟩
theorem zrk:zdv enc w 25 markT (fun _=>True):=by
 intro n cs D p htr hw
 obtain⟨xs,m,-,hx,hlen,hxl,hf⟩:=DataW.trod_struct Tryz.underlying25 htr
 obtain⟨y0,y1,rfl⟩:=zjz hxl
 obtain⟨c0,c1,rfl⟩:=zjz (hlen.trans zw4)
 have hD:=congrArg Prod.fst hx
 simp only at hD
 clear hx
 subst hD
 have hwp:∀ (i:Nat) (t:TypeId) (d:DataW H),([9,23][i]? = some t)→([y0.1,y1.1][i]? = some d)→∀ q ∈ DataW.weights Tryz.prog t d,q≤reachBytes:=fun i t d h1 h2 q hq=>hw q (by simp only [DataW.weights,Tryz.underlying25];exact zbx i h1 h2 hq)
 have g0:DataW.trod enc Tryz.prog w 0 (fun _=>true) true m 9 ((([c0,c1]:List Value).drop 0).take (Tryz.prog.cellsOf 9))=some (y0.1,y0.2):=hf 0 _ rfl
 rw [show Tryz.prog.cellsOf 9=1 by kernel_rfl] at g0
 have h0:=zcx g0 (hwp 0 _ _ rfl rfl)
 have g1:DataW.trod enc Tryz.prog w 0 (fun _=>true) true m 23 ((([c0,c1]:List Value).drop 1).take (Tryz.prog.cellsOf 23))=some (y1.1,y1.2):=hf 1 _ rfl
 rw [show Tryz.prog.cellsOf 23=1 by kernel_rfl] at g1
 have h1:=zge g1
 obtain⟨s,rfl,-⟩:=h0
 obtain⟨k,rfl,-⟩:=h1
 exact⟨(s,k),rfl,trivial⟩
theorem zt2:zdv enc w 97 markT (fun _=>True):=by
 intro n cs D p htr hw
 obtain⟨xs,m,-,hx,hlen,hxl,hf⟩:=DataW.trod_struct Tryz.underlying97 htr
 obtain⟨y0,y1,rfl⟩:=zjz hxl
 obtain⟨c0,c1,rfl⟩:=zjz (hlen.trans zxb)
 have hD:=congrArg Prod.fst hx
 simp only at hD
 clear hx
 subst hD
 have hwp:∀ (i:Nat) (t:TypeId) (d:DataW H),([9,23][i]? = some t)→([y0.1,y1.1][i]? = some d)→∀ q ∈ DataW.weights Tryz.prog t d,q≤reachBytes:=fun i t d h1 h2 q hq=>hw q (by simp only [DataW.weights,Tryz.underlying97];exact zbx i h1 h2 hq)
 have g0:DataW.trod enc Tryz.prog w 0 (fun _=>true) true m 9 ((([c0,c1]:List Value).drop 0).take (Tryz.prog.cellsOf 9))=some (y0.1,y0.2):=hf 0 _ rfl
 rw [show Tryz.prog.cellsOf 9=1 by kernel_rfl] at g0
 have h0:=zcx g0 (hwp 0 _ _ rfl rfl)
 have g1:DataW.trod enc Tryz.prog w 0 (fun _=>true) true m 23 ((([c0,c1]:List Value).drop 1).take (Tryz.prog.cellsOf 23))=some (y1.1,y1.2):=hf 1 _ rfl
 rw [show Tryz.prog.cellsOf 23=1 by kernel_rfl] at g1
 have h1:=zge g1
 obtain⟨s,rfl,-⟩:=h0
 obtain⟨k,rfl,-⟩:=h1
 exact⟨(s,k),rfl,trivial⟩
theorem zpy:zdv enc w 93 zb0 (fun _=>True):=by
 intro n cs D p htr hw
 obtain⟨xs,m,-,hx,hlen,hxl,hf⟩:=DataW.trod_struct Tryz.underlying93 htr
 obtain⟨y0,y1,y2,rfl⟩:=zl0 hxl
 obtain⟨c0,c1,c2,rfl⟩:=zl0 (hlen.trans zwt)
 have hD:=congrArg Prod.fst hx
 simp only at hD
 clear hx
 subst hD
 have hwp:∀ (i:Nat) (t:TypeId) (d:DataW H),([9,23,23][i]? = some t)→([y0.1,y1.1,y2.1][i]? = some d)→∀ q ∈ DataW.weights Tryz.prog t d,q≤reachBytes:=fun i t d h1 h2 q hq=>hw q (by simp only [DataW.weights,Tryz.underlying93];exact zbx i h1 h2 hq)
 have g0:DataW.trod enc Tryz.prog w 0 (fun _=>true) true m 9 ((([c0,c1,c2]:List Value).drop 0).take (Tryz.prog.cellsOf 9))=some (y0.1,y0.2):=hf 0 _ rfl
 rw [show Tryz.prog.cellsOf 9=1 by kernel_rfl] at g0
 have h0:=zcx g0 (hwp 0 _ _ rfl rfl)
 have g1:DataW.trod enc Tryz.prog w 0 (fun _=>true) true m 23 ((([c0,c1,c2]:List Value).drop 1).take (Tryz.prog.cellsOf 23))=some (y1.1,y1.2):=hf 1 _ rfl
 rw [show Tryz.prog.cellsOf 23=1 by kernel_rfl] at g1
 have h1:=zge g1
 have g2:DataW.trod enc Tryz.prog w 0 (fun _=>true) true m 23 ((([c0,c1,c2]:List Value).drop 2).take (Tryz.prog.cellsOf 23))=some (y2.1,y2.2):=hf 2 _ rfl
 rw [show Tryz.prog.cellsOf 23=1 by kernel_rfl] at g2
 have h2:=zge g2
 obtain⟨s,rfl,-⟩:=h0
 obtain⟨k,rfl,-⟩:=h1
 obtain⟨j,rfl,-⟩:=h2
 exact⟨(s,k,j),rfl,trivial⟩
theorem zkk:zdv enc w 26 (slT markT (by decide)) (fun l=>(∀ a ∈ l,(fun _=>True) a)∧l.length * 24≤reachBytes) :=
 zd0 24 (by decide) Tryz.underlying26 (by kernel_rfl) (by kernel_rfl) zrk
theorem zrl:zdv enc w 94 (slT markT (by decide)) (fun l=>(∀ a ∈ l,(fun _=>True) a)∧l.length * 24≤reachBytes) :=
 zd0 24 (by decide) Tryz.underlying94 (by kernel_rfl) (by kernel_rfl) zt2
theorem zov:zdv enc w 32 (slT zb0 (by decide)) (fun l=>(∀ a ∈ l,(fun _=>True) a)∧l.length * 32≤reachBytes) :=
 zd0 32 (by decide) Tryz.underlying32 (by kernel_rfl) (by kernel_rfl) zpy
theorem zt3:zdv enc w 9 strT (fun s=>s.length≤reachBytes):=by
 intro n cs D p htr hw
 obtain⟨s,rfl,-⟩:=DataW.trod_string Tryz.underlying9 htr
 obtain⟨l,h1,h2⟩:=zcx htr hw
 exact⟨l,by rw [h1];rfl,h2⟩
theorem zrm:zdv enc w 28 (slT strT (by decide)) (fun l=>(∀ a ∈ l,(fun s:Str=>s.length≤reachBytes) a)∧l.length * 16≤reachBytes) :=
 zd0 16 (by decide) Tryz.underlying28 (by kernel_rfl) (by kernel_rfl) zt3
theorem zrn:zdv enc w 96 itemT (fun it=>it.2.length≤140737488355328∧it.1.length≤140737488355328):=by
 intro n cs D p htr hw
 obtain⟨xs,m,-,hx,hlen,hxl,hf⟩:=DataW.trod_struct Tryz.underlying96 htr
 obtain⟨y0,y1,rfl⟩:=zjz hxl
 obtain⟨c0,c1,rfl⟩:=zjz (hlen.trans zw5)
 have hD:=congrArg Prod.fst hx
 simp only at hD
 clear hx
 subst hD
 have hwp:∀ (i:Nat) (t:TypeId) (d:DataW H),([9,94][i]? = some t)→([y0.1,y1.1][i]? = some d)→∀ q ∈ DataW.weights Tryz.prog t d,q≤reachBytes:=fun i t d h1 h2 q hq=>hw q (by simp only [DataW.weights,Tryz.underlying96];exact zbx i h1 h2 hq)
 have g0:DataW.trod enc Tryz.prog w 0 (fun _=>true) true m 9 ((([c0,c1]:List Value).drop 0).take (Tryz.prog.cellsOf 9))=some (y0.1,y0.2):=hf 0 _ rfl
 rw [show Tryz.prog.cellsOf 9=1 by kernel_rfl] at g0
 have h0:=zcx g0 (hwp 0 _ _ rfl rfl)
 have g1:DataW.trod enc Tryz.prog w 0 (fun _=>true) true m 94 ((([c0,c1]:List Value).drop 1).take (Tryz.prog.cellsOf 94))=some (y1.1,y1.2):=hf 1 _ rfl
 rw [show Tryz.prog.cellsOf 94=1 by kernel_rfl] at g1
 have h1:=zrl _ _ _ _ g1 (hwp 1 _ _ rfl rfl)
 obtain⟨s,rfl,hs⟩:=h0
 obtain⟨l,⟨v,e,hv⟩,-,hl⟩:=h1
 have e2:c1=v:=by simpa using e
 subst e2
 have hs2:s.length≤140737488351232:=hs
 have hl2:l.length * 24≤140737488351232:=hl
 exact⟨(s,l),⟨_,rfl,hv⟩,by show l.length≤_;omega,by show s.length≤_;omega⟩
theorem zpz:zdv enc w 33 (slT itemT (by decide)) (fun l=>(∀ a ∈ l,(fun it=>it.2.length≤140737488355328∧it.1.length≤140737488355328) a)∧l.length * 40≤reachBytes) :=
 zd0 40 (by decide) Tryz.underlying33 (by kernel_rfl) (by kernel_rfl) zrn
theorem zro {n:Nat} {c0 c1 c2:Value} {D:DataW H} {p:List MemPlace} (htr:DataW.trod enc Tryz.prog w 0 (fun _=>true) true n 35 [c0,c1,c2]=some (D,p)) (hw:∀ q ∈ DataW.weights Tryz.prog 35 D,q≤reachBytes) :
  ∃ (k:Nat) (s:Str) (b:Bool),c0=U k∧c1=St s∧c2 = .bool b∧k < 18446744073709551616:=by
 obtain⟨xs,m,-,hx,hlen,hxl,hf⟩:=DataW.trod_struct Tryz.underlying35 htr
 obtain⟨y0,y1,y2,rfl⟩:=zl0 hxl
 have hD:=congrArg Prod.fst hx
 simp only at hD
 clear hx
 subst hD
 have g0:DataW.trod enc Tryz.prog w 0 (fun _=>true) true m 23 ((([c0,c1,c2]:List Value).drop 0).take (Tryz.prog.cellsOf 23))=some (y0.1,y0.2):=hf 0 _ rfl
 have g1:DataW.trod enc Tryz.prog w 0 (fun _=>true) true m 9 ((([c0,c1,c2]:List Value).drop 1).take (Tryz.prog.cellsOf 9))=some (y1.1,y1.2):=hf 1 _ rfl
 have g2:DataW.trod enc Tryz.prog w 0 (fun _=>true) true m 4 ((([c0,c1,c2]:List Value).drop 2).take (Tryz.prog.cellsOf 4))=some (y2.1,y2.2):=hf 2 _ rfl
 rw [zxa] at g0
 rw [zv0] at g1
 rw [zw3] at g2
 obtain⟨k,rfl,hk⟩:=zge g0
 obtain⟨s,rfl,-⟩:=zcx g1 (fun q hq=>hw q (by simp only [DataW.weights,Tryz.underlying35];exact zbx (ts:=[23,9,4]) (ds:=[y0.1,y1.1,y2.1]) 1 rfl rfl hq))
 obtain⟨b,rfl⟩:=zrj g2
 exact⟨k,s,b,rfl,rfl,rfl,hk⟩
theorem zp0:zdv enc w 37 entryT RoomE:=by
 intro n cs D p htr hw
 obtain⟨xs,m,-,hx,hlen,hxl,hf⟩:=DataW.trod_struct Tryz.underlying37 htr
 obtain⟨y0,y1,y2,y3,y4,rfl⟩:=zw9 hxl
 obtain⟨c0,c1,c2,c3,c4,c5,c6,rfl⟩:=zxc (hlen.trans zwu)
 have hD:=congrArg Prod.fst hx
 simp only at hD
 clear hx
 subst hD
 have hwp:∀ (i:Nat) (t:TypeId) (d:DataW H),([9,26,32,33,35][i]? = some t)→([y0.1,y1.1,y2.1,y3.1,y4.1][i]? = some d)→∀ q ∈ DataW.weights Tryz.prog t d,q≤reachBytes:=fun i t d h1 h2 q hq=>hw q (by simp only [DataW.weights,Tryz.underlying37];exact zbx i h1 h2 hq)
 have g0:DataW.trod enc Tryz.prog w 0 (fun _=>true) true m 9 ((([c0,c1,c2,c3,c4,c5,c6]:List Value).drop 0).take (Tryz.prog.cellsOf 9))=some (y0.1,y0.2):=hf 0 _ rfl
 rw [show Tryz.prog.cellsOf 9=1 by kernel_rfl] at g0
 have h0:=zcx g0 (hwp 0 _ _ rfl rfl)
 have g1:DataW.trod enc Tryz.prog w 0 (fun _=>true) true m 26 ((([c0,c1,c2,c3,c4,c5,c6]:List Value).drop 1).take (Tryz.prog.cellsOf 26))=some (y1.1,y1.2):=hf 1 _ rfl
 rw [show Tryz.prog.cellsOf 26=1 by kernel_rfl] at g1
 have h1:=zkk _ _ _ _ g1 (hwp 1 _ _ rfl rfl)
 have g2:DataW.trod enc Tryz.prog w 0 (fun _=>true) true m 32 ((([c0,c1,c2,c3,c4,c5,c6]:List Value).drop 2).take (Tryz.prog.cellsOf 32))=some (y2.1,y2.2):=hf 2 _ rfl
 rw [show Tryz.prog.cellsOf 32=1 by kernel_rfl] at g2
 have h2:=zov _ _ _ _ g2 (hwp 2 _ _ rfl rfl)
 have g3:DataW.trod enc Tryz.prog w 0 (fun _=>true) true m 33 ((([c0,c1,c2,c3,c4,c5,c6]:List Value).drop 3).take (Tryz.prog.cellsOf 33))=some (y3.1,y3.2):=hf 3 _ rfl
 rw [show Tryz.prog.cellsOf 33=1 by kernel_rfl] at g3
 have h3:=zpz _ _ _ _ g3 (hwp 3 _ _ rfl rfl)
 have g4:DataW.trod enc Tryz.prog w 0 (fun _=>true) true m 35 ((([c0,c1,c2,c3,c4,c5,c6]:List Value).drop 4).take (Tryz.prog.cellsOf 35))=some (y4.1,y4.2):=hf 4 _ rfl
 rw [show Tryz.prog.cellsOf 35=3 by kernel_rfl] at g4
 have h4:=zro g4 (hwp 4 _ _ rfl rfl)
 obtain⟨s,rfl,hs⟩:=h0
 obtain⟨l1,⟨v1,e1,hv1⟩,-,-⟩:=h1
 obtain⟨l2,⟨v2,e2,hv2⟩,-,-⟩:=h2
 obtain⟨l3,⟨v3,e3,hv3⟩,hl3,-⟩:=h3
 obtain⟨k,t,b,rfl,rfl,rfl,hk⟩:=h4
 have f1:c1=v1:=by simpa using e1
 have f2:c2=v2:=by simpa using e2
 have f3:c3=v3:=by simpa using e3
 subst f1;subst f2;subst f3
 exact⟨⟨s,l1,l2,l3,(k,t,b)⟩,⟨_,_,_,rfl,hv1,hv2,hv3⟩,⟨hl3,hk⟩⟩
theorem znp:zdv enc w 27 (slT entryT (by decide)) (fun l=>(∀ a ∈ l,RoomE a)∧l.length * 120≤reachBytes) :=
 haveI:Inhabited Entry:=⟨zad⟩
 zd0 120 (by decide) Tryz.underlying27 (by kernel_rfl) (by kernel_rfl) zp0
theorem zp1:zdv enc w 30 zwx (fun s=>∀ e ∈ s.entries,RoomE e):=by
 intro n cs D p htr hw
 obtain⟨xs,m,-,hx,hlen,hxl,hf⟩:=DataW.trod_struct Tryz.underlying30 htr
 obtain⟨y0,y1,y2,rfl⟩:=zl0 hxl
 obtain⟨c0,c1,c2,rfl⟩:=zl0 (hlen.trans zwv)
 have hD:=congrArg Prod.fst hx
 simp only at hD
 clear hx
 subst hD
 have hwp:∀ (i:Nat) (t:TypeId) (d:DataW H),([26,27,28][i]? = some t)→([y0.1,y1.1,y2.1][i]? = some d)→∀ q ∈ DataW.weights Tryz.prog t d,q≤reachBytes:=fun i t d h1 h2 q hq=>hw q (by simp only [DataW.weights,Tryz.underlying30];exact zbx i h1 h2 hq)
 have g0:DataW.trod enc Tryz.prog w 0 (fun _=>true) true m 26 ((([c0,c1,c2]:List Value).drop 0).take (Tryz.prog.cellsOf 26))=some (y0.1,y0.2):=hf 0 _ rfl
 rw [show Tryz.prog.cellsOf 26=1 by kernel_rfl] at g0
 have h0:=zkk _ _ _ _ g0 (hwp 0 _ _ rfl rfl)
 have g1:DataW.trod enc Tryz.prog w 0 (fun _=>true) true m 27 ((([c0,c1,c2]:List Value).drop 1).take (Tryz.prog.cellsOf 27))=some (y1.1,y1.2):=hf 1 _ rfl
 rw [show Tryz.prog.cellsOf 27=1 by kernel_rfl] at g1
 have h1:=znp _ _ _ _ g1 (hwp 1 _ _ rfl rfl)
 have g2:DataW.trod enc Tryz.prog w 0 (fun _=>true) true m 28 ((([c0,c1,c2]:List Value).drop 2).take (Tryz.prog.cellsOf 28))=some (y2.1,y2.2):=hf 2 _ rfl
 rw [show Tryz.prog.cellsOf 28=1 by kernel_rfl] at g2
 have h2:=zrm _ _ _ _ g2 (hwp 2 _ _ rfl rfl)
 obtain⟨l1,⟨v1,e1,hv1⟩,-,-⟩:=h0
 obtain⟨l2,⟨v2,e2,hv2⟩,hl2,-⟩:=h1
 obtain⟨l3,⟨v3,e3,hv3⟩,-,-⟩:=h2
 have f1:c0=v1:=by simpa using e1
 have f2:c1=v2:=by simpa using e2
 have f3:c2=v3:=by simpa using e3
 subst f1;subst f2;subst f3
 exact⟨⟨l1,l2,l3⟩,⟨_,_,_,rfl,hv1,hv2,hv3⟩,hl2⟩
theorem zrp {r:Reach} {b0:Nat} {v:Value} {d:DataW H} {ps:List MemPlace} (hval:Value.okWide Tryz.prog w r b0 30 v) (h:DataW.Trod enc Tryz.prog w 0 (fun _=>true) true 30 v d ps)
  (hw:∀ q ∈ DataW.weights Tryz.prog 30 d,q≤reachBytes):∃ s v1 v2 v3,v=stV v1 v2 v3∧StAt w (fun _=>True) s v1 v2 v3∧∀ e ∈ s.entries,RoomE e:=by
 obtain⟨n,hn⟩:=h
 unfold Value.okWide at hval
 rw [Tryz.underlying30] at hval
 obtain⟨cs,rfl,-⟩:=hval
 obtain⟨s,⟨v1,v2,v3,e,h1,h2,h3⟩,hs⟩:=zp1 _ _ _ _ hn hw
 have hc:cs=#[v1,v2,v3]:=by
  have e':cs.toList = [v1,v2,v3]:=e
  cases cs
  simp at e'
  rw [e']
 exact⟨s,v1,v2,v3,by rw [hc],⟨h1,h2,h3⟩,hs⟩
theorem zt4 {r:Reach} {b0:Nat} {v:Value} {d:DataW H} {ps:List MemPlace} (hval:Value.okWide Tryz.prog w r b0 9 v) (h:DataW.Trod enc Tryz.prog w 0 (fun _=>true) true 9 v d ps) :
  ∃ s:Str,v=St s:=by
 obtain⟨s,rfl,-⟩:=Go.ChangeMaps.open_string Tryz.underlying9 hval h
 obtain⟨l,rfl,-⟩:=zt1 s
 exact⟨l,rfl⟩
theorem zww {r:Reach} {b0:Nat} {v:Value} {d:DataW H} {ps:List MemPlace} (hval:Value.okWide Tryz.prog w r b0 42 v) (h:DataW.Trod enc Tryz.prog w 0 (fun _=>true) true 42 v d ps)
  (hw:∀ q ∈ DataW.weights Tryz.prog 42 d,q≤reachBytes):∃ o:OpD,v=opV o∧-9223372036854775808≤o.2.2.1∧o.2.2.1≤9223372036854775807:=by
 obtain⟨n,hn⟩:=h
 unfold Value.okWide at hval
 rw [Tryz.underlying42] at hval
 obtain⟨cs,rfl,-⟩:=hval
 obtain⟨xs,m,-,hx,hlen,hxl,hf⟩:=DataW.trod_struct Tryz.underlying42 hn
 obtain⟨y0,y1,y2,y3,rfl⟩:=zvz hxl
 have hl:(Value.agg cs).cells.toList.length=4:=hlen.trans (by kernel_rfl)
 obtain⟨c0,c1,c2,c3,hc⟩:=zvz hl
 rw [hc] at hf
 have hD:=congrArg Prod.fst hx
 simp only at hD
 clear hx
 subst hD
 have g0:DataW.trod enc Tryz.prog w 0 (fun _=>true) true m 5 ((([c0,c1,c2,c3]:List Value).drop 0).take (Tryz.prog.cellsOf 5))=some (y0.1,y0.2):=hf 0 _ rfl
 have g1:DataW.trod enc Tryz.prog w 0 (fun _=>true) true m 9 ((([c0,c1,c2,c3]:List Value).drop 1).take (Tryz.prog.cellsOf 9))=some (y1.1,y1.2):=hf 1 _ rfl
 have g2:DataW.trod enc Tryz.prog w 0 (fun _=>true) true m 2 ((([c0,c1,c2,c3]:List Value).drop 2).take (Tryz.prog.cellsOf 2))=some (y2.1,y2.2):=hf 2 _ rfl
 have g3:DataW.trod enc Tryz.prog w 0 (fun _=>true) true m 9 ((([c0,c1,c2,c3]:List Value).drop 3).take (Tryz.prog.cellsOf 9))=some (y3.1,y3.2):=hf 3 _ rfl
 rw [show Tryz.prog.cellsOf 5=1 by kernel_rfl] at g0
 rw [zv0] at g1 g3
 rw [show Tryz.prog.cellsOf 2=1 by kernel_rfl] at g2
 have hwp:∀ (i:Nat) (t:TypeId) (d:DataW H),([5,9,2,9][i]? = some t)→([y0.1,y1.1,y2.1,y3.1][i]? = some d)→∀ q ∈ DataW.weights Tryz.prog t d,q≤reachBytes:=fun i t d h1 h2 q hq=>hw q (by simp only [DataW.weights,Tryz.underlying42];exact zbx i h1 h2 hq)
 obtain⟨z,e0,-,z1⟩:=DataW.trod_int Tryz.underlying5 g0
 obtain⟨s,e1,-⟩:=zcx g1 (hwp 1 _ _ rfl rfl)
 obtain⟨i,e2,-,i1⟩:=DataW.trod_int Tryz.underlying2 g2
 obtain⟨t,e3,-⟩:=zcx g3 (hwp 3 _ _ rfl rfl)
 have zb:(decide (IntKind.u8.min≤z) && decide (z≤IntKind.u8.max))=true:=z1
 have ib:(decide (IntKind.i64.min≤i) && decide (i≤IntKind.i64.max))=true:=i1
 simp only [Bool.and_eq_true,decide_eq_true_eq] at zb ib
 have z2:(0:Int)≤z:=zb.1
 have i2:(-9223372036854775808:Int)≤i:=ib.1
 have i3:i≤(9223372036854775807:Int):=ib.2
 obtain⟨k,rfl⟩:=Int.eq_ofNat_of_zero_le z2
 have f0:c0 = .int .u8 (k:Int):=by simpa using e0
 have f2:c2 = .int .i64 i:=by simpa using e2
 have hcs:cs=#[c0,c1,c2,c3]:=by
  have e':cs.toList = [c0,c1,c2,c3]:=hc
  cases cs
  simp at e'
  rw [e']
 exact⟨(k,s,i,t),by rw [hcs,f0,e1,f2,e3],i2,i3⟩
end
end
section
open Go.Deep Go.ChangeShapes Go.WideShapes
section
variable {H:Type} {enc:TypeId × Value→H} {w:World}
theorem zvv {r:Reach} {b0:Nat} {v:Value} {d:DataW H} {ps:List MemPlace} (hval:Value.okWide Tryz.prog w r b0 23 v) (h:DataW.Trod enc Tryz.prog w 0 (fun _=>true) true 23 v d ps) :
  ∃ n:Nat,v=U n∧n < 18446744073709551616:=by
 obtain⟨i,rfl,-,-,hw⟩:=open_int Tryz.underlying23 hval h
 have hb:(decide (IntKind.u64.min≤i) && decide (i≤IntKind.u64.max))=true:=hw
 simp only [Bool.and_eq_true,decide_eq_true_eq] at hb
 have h1:(0:Int)≤i:=hb.1
 have h2:i≤(18446744073709551615:Int):=hb.2
 exact⟨i.toNat,by rw [U,Int.toNat_of_nonneg h1],by omega⟩
end
end
end Go.Proofs.YtdikcgmdmcfpfaaGreat
