/- Contracts and plain laws. -/
import Derived.Test.YtdikcgmdmcfpfaaGreatJo50
import Derived.Test.YtdikcgmdmcfpfaaGreatJo35
import Derived.ChangeMaps5
set_option linter.unusedVariables false
set_option linter.unusedSimpArgs false
set_option maxRecDepth 100000
set_option maxHeartbeats 40000000
namespace Go.Proofs.YtdikcgmdmcfpfaaGreat
section
open Go.Deep Go.ChangeShapes Go.WideShapes
section
variable {H:Type} {enc:TypeId × Value->H} {w:World}
theorem yau {α:Type} {l:List α} (h:l.length=7):∃ a b c d e f g,l = [a,b,c,d,e,f,g]:=by
 match l,h with
 | [a,b,c,d,e,f,g],_=>exact⟨a,b,c,d,e,f,g,rfl⟩
theorem zu1:zei enc w 25 markT (fun _=>True):=by
 intro n cs D p htr hw;obtain⟨xs,m,-,hx,hlen,hxl,hf⟩:=DataW.trod_struct Tryz.underlying25 htr;obtain⟨y0,y1,rfl⟩:=zlr hxl;obtain⟨c0,c1,rfl⟩:=zlr (hlen.trans yak);have hD:=congrArg Prod.fst hx;simp only at hD;clear hx;subst hD;have hwp:∀ (i:Nat) (t:TypeId) (d:DataW H),([9,23][i]? = some t)->([y0.1,y1.1][i]? = some d)->∀ q ∈ DataW.weights Tryz.prog t d,q<=reachBytes:=fun i t d h1 h2 q hq=>hw q (by simp only [DataW.weights,Tryz.underlying25];exact zbu i h1 h2 hq)
 have g0:DataW.trod enc Tryz.prog w 0 (fun _=>true) true m 9 ((([c0,c1]:List Value).drop 0).take (Tryz.prog.cellsOf 9))=some (y0.1,y0.2):=hf 0 _ rfl;rw [show Tryz.prog.cellsOf 9=1 by kernel_rfl] at g0;have h0:=zej g0 (hwp 0 _ _ rfl rfl);have g1:DataW.trod enc Tryz.prog w 0 (fun _=>true) true m 23 ((([c0,c1]:List Value).drop 1).take (Tryz.prog.cellsOf 23))=some (y1.1,y1.2):=hf 1 _ rfl;rw [show Tryz.prog.cellsOf 23=1 by kernel_rfl] at g1;have h1:=zg8 g1;obtain⟨s,rfl,-⟩:=h0;obtain⟨k,rfl,-⟩:=h1;exact⟨(s,k),rfl,trivial⟩
theorem zxk:zei enc w 97 markT (fun _=>True):=by
 intro n cs D p htr hw;obtain⟨xs,m,-,hx,hlen,hxl,hf⟩:=DataW.trod_struct Tryz.underlying97 htr;obtain⟨y0,y1,rfl⟩:=zlr hxl;obtain⟨c0,c1,rfl⟩:=zlr (hlen.trans yat);have hD:=congrArg Prod.fst hx;simp only at hD;clear hx;subst hD;have hwp:∀ (i:Nat) (t:TypeId) (d:DataW H),([9,23][i]? = some t)->([y0.1,y1.1][i]? = some d)->∀ q ∈ DataW.weights Tryz.prog t d,q<=reachBytes:=fun i t d h1 h2 q hq=>hw q (by simp only [DataW.weights,Tryz.underlying97];exact zbu i h1 h2 hq)
 have g0:DataW.trod enc Tryz.prog w 0 (fun _=>true) true m 9 ((([c0,c1]:List Value).drop 0).take (Tryz.prog.cellsOf 9))=some (y0.1,y0.2):=hf 0 _ rfl;rw [show Tryz.prog.cellsOf 9=1 by kernel_rfl] at g0;have h0:=zej g0 (hwp 0 _ _ rfl rfl);have g1:DataW.trod enc Tryz.prog w 0 (fun _=>true) true m 23 ((([c0,c1]:List Value).drop 1).take (Tryz.prog.cellsOf 23))=some (y1.1,y1.2):=hf 1 _ rfl;rw [show Tryz.prog.cellsOf 23=1 by kernel_rfl] at g1;have h1:=zg8 g1;obtain⟨s,rfl,-⟩:=h0;obtain⟨k,rfl,-⟩:=h1;exact⟨(s,k),rfl,trivial⟩
theorem zsy:zei enc w 93 zbh (fun _=>True):=by
 intro n cs D p htr hw;obtain⟨xs,m,-,hx,hlen,hxl,hf⟩:=DataW.trod_struct Tryz.underlying93 htr;obtain⟨y0,y1,y2,rfl⟩:=zn1 hxl;obtain⟨c0,c1,c2,rfl⟩:=zn1 (hlen.trans zz5);have hD:=congrArg Prod.fst hx;simp only at hD;clear hx;subst hD;have hwp:∀ (i:Nat) (t:TypeId) (d:DataW H),([9,23,23][i]? = some t)->([y0.1,y1.1,y2.1][i]? = some d)->∀ q ∈ DataW.weights Tryz.prog t d,q<=reachBytes:=fun i t d h1 h2 q hq=>hw q (by simp only [DataW.weights,Tryz.underlying93];exact zbu i h1 h2 hq)
 have g0:DataW.trod enc Tryz.prog w 0 (fun _=>true) true m 9 ((([c0,c1,c2]:List Value).drop 0).take (Tryz.prog.cellsOf 9))=some (y0.1,y0.2):=hf 0 _ rfl;rw [show Tryz.prog.cellsOf 9=1 by kernel_rfl] at g0;have h0:=zej g0 (hwp 0 _ _ rfl rfl);have g1:DataW.trod enc Tryz.prog w 0 (fun _=>true) true m 23 ((([c0,c1,c2]:List Value).drop 1).take (Tryz.prog.cellsOf 23))=some (y1.1,y1.2):=hf 1 _ rfl;rw [show Tryz.prog.cellsOf 23=1 by kernel_rfl] at g1;have h1:=zg8 g1;have g2:DataW.trod enc Tryz.prog w 0 (fun _=>true) true m 23 ((([c0,c1,c2]:List Value).drop 2).take (Tryz.prog.cellsOf 23))=some (y2.1,y2.2):=hf 2 _ rfl;rw [show Tryz.prog.cellsOf 23=1 by kernel_rfl] at g2;have h2:=zg8 g2;obtain⟨s,rfl,-⟩:=h0;obtain⟨k,rfl,-⟩:=h1;obtain⟨j,rfl,-⟩:=h2;exact⟨(s,k,j),rfl,trivial⟩
theorem zi8:zei enc w 26 (slT markT (by decide)) (fun l=>(∀ a ∈ l,(fun _=>True) a)/\l.length * 24<=reachBytes) :=
 zeo 24 (by decide) Tryz.underlying26 (by kernel_rfl) (by kernel_rfl) zu1
theorem zu2:zei enc w 94 (slT markT (by decide)) (fun l=>(∀ a ∈ l,(fun _=>True) a)/\l.length * 24<=reachBytes) :=
 zeo 24 (by decide) Tryz.underlying94 (by kernel_rfl) (by kernel_rfl) zxk
theorem zro:zei enc w 32 (slT zbh (by decide)) (fun l=>(∀ a ∈ l,(fun _=>True) a)/\l.length * 32<=reachBytes) :=
 zeo 32 (by decide) Tryz.underlying32 (by kernel_rfl) (by kernel_rfl) zsy
theorem zxl:zei enc w 9 strT (fun s=>s.length<=reachBytes):=by
 intro n cs D p htr hw;obtain⟨s,rfl,-⟩:=DataW.trod_string Tryz.underlying9 htr;obtain⟨l,h1,h2⟩:=zej htr hw;exact⟨l,by rw [h1];rfl,h2⟩
theorem zu3:zei enc w 28 (slT strT (by decide)) (fun l=>(∀ a ∈ l,(fun s:Str=>s.length<=reachBytes) a)/\l.length * 16<=reachBytes) :=
 zeo 16 (by decide) Tryz.underlying28 (by kernel_rfl) (by kernel_rfl) zxl
theorem zu4:zei enc w 96 itemT (fun it=>it.2.length<=140737488355328/\it.1.length<=140737488355328):=by
 intro n cs D p htr hw;obtain⟨xs,m,-,hx,hlen,hxl,hf⟩:=DataW.trod_struct Tryz.underlying96 htr;obtain⟨y0,y1,rfl⟩:=zlr hxl;obtain⟨c0,c1,rfl⟩:=zlr (hlen.trans yal);have hD:=congrArg Prod.fst hx;simp only at hD;clear hx;subst hD;have hwp:∀ (i:Nat) (t:TypeId) (d:DataW H),([9,94][i]? = some t)->([y0.1,y1.1][i]? = some d)->∀ q ∈ DataW.weights Tryz.prog t d,q<=reachBytes:=fun i t d h1 h2 q hq=>hw q (by simp only [DataW.weights,Tryz.underlying96];exact zbu i h1 h2 hq)
 have g0:DataW.trod enc Tryz.prog w 0 (fun _=>true) true m 9 ((([c0,c1]:List Value).drop 0).take (Tryz.prog.cellsOf 9))=some (y0.1,y0.2):=hf 0 _ rfl;rw [show Tryz.prog.cellsOf 9=1 by kernel_rfl] at g0;have h0:=zej g0 (hwp 0 _ _ rfl rfl);have g1:DataW.trod enc Tryz.prog w 0 (fun _=>true) true m 94 ((([c0,c1]:List Value).drop 1).take (Tryz.prog.cellsOf 94))=some (y1.1,y1.2):=hf 1 _ rfl;rw [show Tryz.prog.cellsOf 94=1 by kernel_rfl] at g1;have h1:=zu2 _ _ _ _ g1 (hwp 1 _ _ rfl rfl);obtain⟨s,rfl,hs⟩:=h0;obtain⟨l,⟨v,e,hv⟩,-,hl⟩:=h1;have e2:c1=v:=by simpa using e
 subst e2;have hs2:s.length<=140737488351232:=hs;have hl2:l.length * 24<=140737488351232:=hl;exact⟨(s,l),⟨_,rfl,hv⟩,by show l.length<=_;omega,by show s.length<=_;omega⟩
theorem zsz:zei enc w 33 (slT itemT (by decide)) (fun l=>(∀ a ∈ l,(fun it=>it.2.length<=140737488355328/\it.1.length<=140737488355328) a)/\l.length * 40<=reachBytes) :=
 zeo 40 (by decide) Tryz.underlying33 (by kernel_rfl) (by kernel_rfl) zu4
theorem zu5 {n:Nat} {c0 c1 c2:Value} {D:DataW H} {p:List MemPlace} (htr:DataW.trod enc Tryz.prog w 0 (fun _=>true) true n 35 [c0,c1,c2]=some (D,p)) (hw:∀ q ∈ DataW.weights Tryz.prog 35 D,q<=reachBytes) :
  ∃ (k:Nat) (s:Str) (b:Bool),c0=U k/\c1=St s/\c2=.bool b/\k < 18446744073709551616:=by
 obtain⟨xs,m,-,hx,hlen,hxl,hf⟩:=DataW.trod_struct Tryz.underlying35 htr;obtain⟨y0,y1,y2,rfl⟩:=zn1 hxl;have hD:=congrArg Prod.fst hx;simp only at hD;clear hx;subst hD;have g0:DataW.trod enc Tryz.prog w 0 (fun _=>true) true m 23 ((([c0,c1,c2]:List Value).drop 0).take (Tryz.prog.cellsOf 23))=some (y0.1,y0.2):=hf 0 _ rfl;have g1:DataW.trod enc Tryz.prog w 0 (fun _=>true) true m 9 ((([c0,c1,c2]:List Value).drop 1).take (Tryz.prog.cellsOf 9))=some (y1.1,y1.2):=hf 1 _ rfl;have g2:DataW.trod enc Tryz.prog w 0 (fun _=>true) true m 4 ((([c0,c1,c2]:List Value).drop 2).take (Tryz.prog.cellsOf 4))=some (y2.1,y2.2):=hf 2 _ rfl;rw [yas] at g0;rw [yar] at g1;rw [yaj] at g2;obtain⟨k,rfl,hk⟩:=zg8 g0;obtain⟨s,rfl,-⟩:=zej g1 (fun q hq=>hw q (by simp only [DataW.weights,Tryz.underlying35];exact zbu (ts:=[23,9,4]) (ds:=[y0.1,y1.1,y2.1]) 1 rfl rfl hq));obtain⟨b,rfl⟩:=zu0 g2;exact⟨k,s,b,rfl,rfl,rfl,hk⟩
theorem zs0:zei enc w 37 entryT RoomE:=by
 intro n cs D p htr hw;obtain⟨xs,m,-,hx,hlen,hxl,hf⟩:=DataW.trod_struct Tryz.underlying37 htr;obtain⟨y0,y1,y2,y3,y4,rfl⟩:=yaq hxl;obtain⟨c0,c1,c2,c3,c4,c5,c6,rfl⟩:=yau (hlen.trans zz6);have hD:=congrArg Prod.fst hx;simp only at hD;clear hx;subst hD;have hwp:∀ (i:Nat) (t:TypeId) (d:DataW H),([9,26,32,33,35][i]? = some t)->([y0.1,y1.1,y2.1,y3.1,y4.1][i]? = some d)->∀ q ∈ DataW.weights Tryz.prog t d,q<=reachBytes:=fun i t d h1 h2 q hq=>hw q (by simp only [DataW.weights,Tryz.underlying37];exact zbu i h1 h2 hq)
 have g0:DataW.trod enc Tryz.prog w 0 (fun _=>true) true m 9 ((([c0,c1,c2,c3,c4,c5,c6]:List Value).drop 0).take (Tryz.prog.cellsOf 9))=some (y0.1,y0.2):=hf 0 _ rfl;rw [show Tryz.prog.cellsOf 9=1 by kernel_rfl] at g0;have h0:=zej g0 (hwp 0 _ _ rfl rfl);have g1:DataW.trod enc Tryz.prog w 0 (fun _=>true) true m 26 ((([c0,c1,c2,c3,c4,c5,c6]:List Value).drop 1).take (Tryz.prog.cellsOf 26))=some (y1.1,y1.2):=hf 1 _ rfl;rw [show Tryz.prog.cellsOf 26=1 by kernel_rfl] at g1;have h1:=zi8 _ _ _ _ g1 (hwp 1 _ _ rfl rfl);have g2:DataW.trod enc Tryz.prog w 0 (fun _=>true) true m 32 ((([c0,c1,c2,c3,c4,c5,c6]:List Value).drop 2).take (Tryz.prog.cellsOf 32))=some (y2.1,y2.2):=hf 2 _ rfl;rw [show Tryz.prog.cellsOf 32=1 by kernel_rfl] at g2;have h2:=zro _ _ _ _ g2 (hwp 2 _ _ rfl rfl);have g3:DataW.trod enc Tryz.prog w 0 (fun _=>true) true m 33 ((([c0,c1,c2,c3,c4,c5,c6]:List Value).drop 3).take (Tryz.prog.cellsOf 33))=some (y3.1,y3.2):=hf 3 _ rfl;rw [show Tryz.prog.cellsOf 33=1 by kernel_rfl] at g3;have h3:=zsz _ _ _ _ g3 (hwp 3 _ _ rfl rfl);have g4:DataW.trod enc Tryz.prog w 0 (fun _=>true) true m 35 ((([c0,c1,c2,c3,c4,c5,c6]:List Value).drop 4).take (Tryz.prog.cellsOf 35))=some (y4.1,y4.2):=hf 4 _ rfl;rw [show Tryz.prog.cellsOf 35=3 by kernel_rfl] at g4;have h4:=zu5 g4 (hwp 4 _ _ rfl rfl);obtain⟨s,rfl,hs⟩:=h0;obtain⟨l1,⟨v1,e1,hv1⟩,-,-⟩:=h1;obtain⟨l2,⟨v2,e2,hv2⟩,-,-⟩:=h2;obtain⟨l3,⟨v3,e3,hv3⟩,hl3,-⟩:=h3;obtain⟨k,t,b,rfl,rfl,rfl,hk⟩:=h4;have f1:c1=v1:=by simpa using e1
 have f2:c2=v2:=by simpa using e2
 have f3:c3=v3:=by simpa using e3
 subst f1;subst f2;subst f3;exact⟨⟨s,l1,l2,l3,(k,t,b)⟩,⟨_,_,_,rfl,hv1,hv2,hv3⟩,⟨hl3,hk⟩⟩
theorem zp2:zei enc w 27 (slT entryT (by decide)) (fun l=>(∀ a ∈ l,RoomE a)/\l.length * 120<=reachBytes) :=
 haveI:Inhabited Entry:=⟨zai⟩
 zeo 120 (by decide) Tryz.underlying27 (by kernel_rfl) (by kernel_rfl) zs0
theorem zs1:zei enc w 30 zz8 (fun s=>∀ e ∈ s.entries,RoomE e):=by
 intro n cs D p htr hw;obtain⟨xs,m,-,hx,hlen,hxl,hf⟩:=DataW.trod_struct Tryz.underlying30 htr;obtain⟨y0,y1,y2,rfl⟩:=zn1 hxl;obtain⟨c0,c1,c2,rfl⟩:=zn1 (hlen.trans zz7);have hD:=congrArg Prod.fst hx;simp only at hD;clear hx;subst hD;have hwp:∀ (i:Nat) (t:TypeId) (d:DataW H),([26,27,28][i]? = some t)->([y0.1,y1.1,y2.1][i]? = some d)->∀ q ∈ DataW.weights Tryz.prog t d,q<=reachBytes:=fun i t d h1 h2 q hq=>hw q (by simp only [DataW.weights,Tryz.underlying30];exact zbu i h1 h2 hq)
 have g0:DataW.trod enc Tryz.prog w 0 (fun _=>true) true m 26 ((([c0,c1,c2]:List Value).drop 0).take (Tryz.prog.cellsOf 26))=some (y0.1,y0.2):=hf 0 _ rfl;rw [show Tryz.prog.cellsOf 26=1 by kernel_rfl] at g0;have h0:=zi8 _ _ _ _ g0 (hwp 0 _ _ rfl rfl);have g1:DataW.trod enc Tryz.prog w 0 (fun _=>true) true m 27 ((([c0,c1,c2]:List Value).drop 1).take (Tryz.prog.cellsOf 27))=some (y1.1,y1.2):=hf 1 _ rfl;rw [show Tryz.prog.cellsOf 27=1 by kernel_rfl] at g1;have h1:=zp2 _ _ _ _ g1 (hwp 1 _ _ rfl rfl);have g2:DataW.trod enc Tryz.prog w 0 (fun _=>true) true m 28 ((([c0,c1,c2]:List Value).drop 2).take (Tryz.prog.cellsOf 28))=some (y2.1,y2.2):=hf 2 _ rfl;rw [show Tryz.prog.cellsOf 28=1 by kernel_rfl] at g2;have h2:=zu3 _ _ _ _ g2 (hwp 2 _ _ rfl rfl);obtain⟨l1,⟨v1,e1,hv1⟩,-,-⟩:=h0;obtain⟨l2,⟨v2,e2,hv2⟩,hl2,-⟩:=h1;obtain⟨l3,⟨v3,e3,hv3⟩,-,-⟩:=h2;have f1:c0=v1:=by simpa using e1
 have f2:c1=v2:=by simpa using e2
 have f3:c2=v3:=by simpa using e3
 subst f1;subst f2;subst f3;exact⟨⟨l1,l2,l3⟩,⟨_,_,_,rfl,hv1,hv2,hv3⟩,hl2⟩
theorem zn2 {r:Reach} {b0:Nat} {v:Value} {d:DataW H} {ps:List MemPlace} (hval:Value.okWide Tryz.prog w r b0 30 v) (h:DataW.Trod enc Tryz.prog w 0 (fun _=>true) true 30 v d ps)
  (hw:∀ q ∈ DataW.weights Tryz.prog 30 d,q<=reachBytes):∃ s v1 v2 v3,v=stV v1 v2 v3/\StAt w (fun _=>True) s v1 v2 v3/\∀ e ∈ s.entries,RoomE e:=by
 obtain⟨n,hn⟩:=h;unfold Value.okWide at hval;rw [Tryz.underlying30] at hval;obtain⟨cs,rfl,-⟩:=hval;obtain⟨s,⟨v1,v2,v3,e,h1,h2,h3⟩,hs⟩:=zs1 _ _ _ _ hn hw
 have hc:cs=#[v1,v2,v3]:=by have e':cs.toList = [v1,v2,v3]:=e;cases cs;simp at e';rw [e']
 exact⟨s,v1,v2,v3,by rw [hc],⟨h1,h2,h3⟩,hs⟩
end
end
section
open Go.Deep Go.ChangeShapes Go.WideShapes
section
variable {H:Type} {enc:TypeId × Value->H} {w:World}
theorem zn3 {r:Reach} {b0:Nat} {v:Value} {d:DataW H} {ps:List MemPlace} (hval:Value.okWide Tryz.prog w r b0 26 v) (h:DataW.Trod enc Tryz.prog w 0 (fun _=>true) true 26 v d ps)
  (hw:∀ q ∈ DataW.weights Tryz.prog 26 d,q<=reachBytes):∃ l,Sl markT w (fun _=>True) v l:=by
 obtain⟨n,hn⟩:=h;obtain⟨l,⟨v1,e,h1⟩,-⟩:=zi8 _ _ _ _ hn hw;obtain⟨a,len,cap,rfl⟩:=okWide_slice Tryz.underlying26 hval;have f1:Value.slice a len cap=v1:=by simpa [Value.cells] using e
 subst f1;exact⟨l,h1⟩
end
end
end Go.Proofs.YtdikcgmdmcfpfaaGreat
