/- Contracts and plain laws. -/
import Derived.Test.YtaabaflgeljbjaaGreatPo50
import Derived.Test.YtaabaflgeljbjaaGreatPo37
import Derived.ChangeMaps5
import Derived.Test.YtaabaflgeljbjaaGreatPo24
set_option linter.unusedVariables false
set_option linter.unusedSimpArgs false
set_option maxRecDepth 100000
set_option maxHeartbeats 40000000
namespace Go.Proofs.YtaabaflgeljbjaaGreat
section
open Go.Deep Go.ChangeShapes Go.WideShapes
section
variable {H:Type} {enc:TypeId × Value->H} {w:World}
theorem zzb {α:Type} {l:List α} (h:l.length=7):∃ a b c d e f g,l = [a,b,c,d,e,f,g]:=by
 match l,h with
 | [a,b,c,d,e,f,g],_=>exact⟨a,b,c,d,e,f,g,rfl⟩
theorem zti:zed enc w 97 zap (fun _=>True):=by
 intro n cs D p htr hw;obtain⟨xs,m,-,hx,hlen,hxl,hf⟩:=DataW.trod_struct Tryz.underlying97 htr;obtain⟨y0,y1,rfl⟩:=zke hxl;obtain⟨c0,c1,rfl⟩:=zke (hlen.trans zy0);have hD:=congrArg Prod.fst hx;simp only at hD;clear hx;subst hD;have hwp:∀ (i:Nat) (t:TypeId) (d:DataW H),([9,27][i]? = some t)->([y0.1,y1.1][i]? = some d)->∀ q ∈ DataW.weights Tryz.prog t d,q<=reachBytes:=fun i t d h1 h2 q hq=>hw q (by simp only [DataW.weights,Tryz.underlying97];exact zbu i h1 h2 hq)
 have g0:DataW.trod enc Tryz.prog w 0 (fun _=>true) true m 9 ((([c0,c1]:List Value).drop 0).take (Tryz.prog.cellsOf 9))=some (y0.1,y0.2):=hf 0 _ rfl;rw [show Tryz.prog.cellsOf 9=1 by kernel_rfl] at g0;have h0:=zc1 g0 (hwp 0 _ _ rfl rfl);have g1:DataW.trod enc Tryz.prog w 0 (fun _=>true) true m 27 ((([c0,c1]:List Value).drop 1).take (Tryz.prog.cellsOf 27))=some (y1.1,y1.2):=hf 1 _ rfl;rw [show Tryz.prog.cellsOf 27=1 by kernel_rfl] at g1;have h1:=zex g1;obtain⟨s,rfl,-⟩:=h0;obtain⟨k,rfl,-⟩:=h1;exact⟨(s,k),rfl,trivial⟩
theorem zvw:zed enc w 59 zap (fun _=>True):=by
 intro n cs D p htr hw;obtain⟨xs,m,-,hx,hlen,hxl,hf⟩:=DataW.trod_struct Tryz.underlying59 htr;obtain⟨y0,y1,rfl⟩:=zke hxl;obtain⟨c0,c1,rfl⟩:=zke (hlen.trans zza);have hD:=congrArg Prod.fst hx;simp only at hD;clear hx;subst hD;have hwp:∀ (i:Nat) (t:TypeId) (d:DataW H),([9,27][i]? = some t)->([y0.1,y1.1][i]? = some d)->∀ q ∈ DataW.weights Tryz.prog t d,q<=reachBytes:=fun i t d h1 h2 q hq=>hw q (by simp only [DataW.weights,Tryz.underlying59];exact zbu i h1 h2 hq)
 have g0:DataW.trod enc Tryz.prog w 0 (fun _=>true) true m 9 ((([c0,c1]:List Value).drop 0).take (Tryz.prog.cellsOf 9))=some (y0.1,y0.2):=hf 0 _ rfl;rw [show Tryz.prog.cellsOf 9=1 by kernel_rfl] at g0;have h0:=zc1 g0 (hwp 0 _ _ rfl rfl);have g1:DataW.trod enc Tryz.prog w 0 (fun _=>true) true m 27 ((([c0,c1]:List Value).drop 1).take (Tryz.prog.cellsOf 27))=some (y1.1,y1.2):=hf 1 _ rfl;rw [show Tryz.prog.cellsOf 27=1 by kernel_rfl] at g1;have h1:=zex g1;obtain⟨s,rfl,-⟩:=h0;obtain⟨k,rfl,-⟩:=h1;exact⟨(s,k),rfl,trivial⟩
theorem zq2:zed enc w 54 zbo (fun c:zab=>c.2.1 < 18446744073709551616/\c.2.2 < 18446744073709551616):=by
 intro n cs D p htr hw;obtain⟨xs,m,-,hx,hlen,hxl,hf⟩:=DataW.trod_struct Tryz.underlying54 htr;obtain⟨y0,y1,y2,rfl⟩:=zma hxl;obtain⟨c0,c1,c2,rfl⟩:=zma (hlen.trans zx6);have hD:=congrArg Prod.fst hx;simp only at hD;clear hx;subst hD;have hwp:∀ (i:Nat) (t:TypeId) (d:DataW H),([9,27,27][i]? = some t)->([y0.1,y1.1,y2.1][i]? = some d)->∀ q ∈ DataW.weights Tryz.prog t d,q<=reachBytes:=fun i t d h1 h2 q hq=>hw q (by simp only [DataW.weights,Tryz.underlying54];exact zbu i h1 h2 hq)
 have g0:DataW.trod enc Tryz.prog w 0 (fun _=>true) true m 9 ((([c0,c1,c2]:List Value).drop 0).take (Tryz.prog.cellsOf 9))=some (y0.1,y0.2):=hf 0 _ rfl;rw [show Tryz.prog.cellsOf 9=1 by kernel_rfl] at g0;have h0:=zc1 g0 (hwp 0 _ _ rfl rfl);have g1:DataW.trod enc Tryz.prog w 0 (fun _=>true) true m 27 ((([c0,c1,c2]:List Value).drop 1).take (Tryz.prog.cellsOf 27))=some (y1.1,y1.2):=hf 1 _ rfl;rw [show Tryz.prog.cellsOf 27=1 by kernel_rfl] at g1;have h1:=zex g1;have g2:DataW.trod enc Tryz.prog w 0 (fun _=>true) true m 27 ((([c0,c1,c2]:List Value).drop 2).take (Tryz.prog.cellsOf 27))=some (y2.1,y2.2):=hf 2 _ rfl;rw [show Tryz.prog.cellsOf 27=1 by kernel_rfl] at g2;have h2:=zex g2;obtain⟨s,rfl,-⟩:=h0;obtain⟨k,rfl,hk⟩:=h1;obtain⟨j,rfl,hj⟩:=h2;exact⟨(s,k,j),rfl,hk,hj⟩
theorem zk0:zed enc w 22 (slT zap (by decide)) (fun l=>(∀ a ∈ l,(fun _=>True) a)/\l.length * 24<=reachBytes) :=
 zei 24 (by decide) Tryz.underlying22 (by kernel_rfl) (by kernel_rfl) zti
theorem ztj:zed enc w 55 (slT zap (by decide)) (fun l=>(∀ a ∈ l,(fun _=>True) a)/\l.length * 24<=reachBytes) :=
 zei 24 (by decide) Tryz.underlying55 (by kernel_rfl) (by kernel_rfl) zvw
theorem zpn:zed enc w 41 (slT zbo (by decide)) (fun l=>(∀ a ∈ l,(fun c:zab=>c.2.1 < 18446744073709551616/\c.2.2 < 18446744073709551616) a)/\l.length * 32<=reachBytes) :=
 zei 32 (by decide) Tryz.underlying41 (by kernel_rfl) (by kernel_rfl) zq2
theorem zvx:zed enc w 9 strT (fun s=>s.length<=reachBytes):=by
 intro n cs D p htr hw;obtain⟨s,rfl,-⟩:=DataW.trod_string Tryz.underlying9 htr;obtain⟨l,h1,h2⟩:=zc1 htr hw;exact⟨l,by rw [h1];rfl,h2⟩
theorem ztk:zed enc w 24 (slT strT (by decide)) (fun l=>(∀ a ∈ l,(fun s:Str=>s.length<=reachBytes) a)/\l.length * 16<=reachBytes) :=
 zei 16 (by decide) Tryz.underlying24 (by kernel_rfl) (by kernel_rfl) zvx
theorem ztl:zed enc w 57 itemT (fun it=>it.2.length<=140737488355328/\it.1.length<=140737488355328):=by
 intro n cs D p htr hw;obtain⟨xs,m,-,hx,hlen,hxl,hf⟩:=DataW.trod_struct Tryz.underlying57 htr;obtain⟨y0,y1,rfl⟩:=zke hxl;obtain⟨c0,c1,rfl⟩:=zke (hlen.trans zy1);have hD:=congrArg Prod.fst hx;simp only at hD;clear hx;subst hD;have hwp:∀ (i:Nat) (t:TypeId) (d:DataW H),([9,55][i]? = some t)->([y0.1,y1.1][i]? = some d)->∀ q ∈ DataW.weights Tryz.prog t d,q<=reachBytes:=fun i t d h1 h2 q hq=>hw q (by simp only [DataW.weights,Tryz.underlying57];exact zbu i h1 h2 hq)
 have g0:DataW.trod enc Tryz.prog w 0 (fun _=>true) true m 9 ((([c0,c1]:List Value).drop 0).take (Tryz.prog.cellsOf 9))=some (y0.1,y0.2):=hf 0 _ rfl;rw [show Tryz.prog.cellsOf 9=1 by kernel_rfl] at g0;have h0:=zc1 g0 (hwp 0 _ _ rfl rfl);have g1:DataW.trod enc Tryz.prog w 0 (fun _=>true) true m 55 ((([c0,c1]:List Value).drop 1).take (Tryz.prog.cellsOf 55))=some (y1.1,y1.2):=hf 1 _ rfl;rw [show Tryz.prog.cellsOf 55=1 by kernel_rfl] at g1;have h1:=ztj _ _ _ _ g1 (hwp 1 _ _ rfl rfl);obtain⟨s,rfl,hs⟩:=h0;obtain⟨l,⟨v,e,hv⟩,-,hl⟩:=h1;have e2:c1=v:=by simpa using e
 subst e2;have hs2:s.length<=140737488351232:=hs;have hl2:l.length * 24<=140737488351232:=hl;exact⟨(s,l),⟨_,rfl,hv⟩,by show l.length<=_;omega,by show s.length<=_;omega⟩
theorem zq3:zed enc w 42 (slT itemT (by decide)) (fun l=>(∀ a ∈ l,(fun it=>it.2.length<=140737488355328/\it.1.length<=140737488355328) a)/\l.length * 40<=reachBytes) :=
 zei 40 (by decide) Tryz.underlying42 (by kernel_rfl) (by kernel_rfl) ztl
theorem ztm {n:Nat} {c0 c1 c2:Value} {D:DataW H} {p:List MemPlace} (htr:DataW.trod enc Tryz.prog w 0 (fun _=>true) true n 44 [c0,c1,c2]=some (D,p)) (hw:∀ q ∈ DataW.weights Tryz.prog 44 D,q<=reachBytes) :
  ∃ (k:Nat) (s:Str) (b:Bool),c0=U k/\c1=St s/\c2=.bool b/\k < 18446744073709551616:=by
 obtain⟨xs,m,-,hx,hlen,hxl,hf⟩:=DataW.trod_struct Tryz.underlying44 htr;obtain⟨y0,y1,y2,rfl⟩:=zma hxl;have hD:=congrArg Prod.fst hx;simp only at hD;clear hx;subst hD;have g0:DataW.trod enc Tryz.prog w 0 (fun _=>true) true m 27 ((([c0,c1,c2]:List Value).drop 0).take (Tryz.prog.cellsOf 27))=some (y0.1,y0.2):=hf 0 _ rfl;have g1:DataW.trod enc Tryz.prog w 0 (fun _=>true) true m 9 ((([c0,c1,c2]:List Value).drop 1).take (Tryz.prog.cellsOf 9))=some (y1.1,y1.2):=hf 1 _ rfl;have g2:DataW.trod enc Tryz.prog w 0 (fun _=>true) true m 4 ((([c0,c1,c2]:List Value).drop 2).take (Tryz.prog.cellsOf 4))=some (y2.1,y2.2):=hf 2 _ rfl;rw [zy9] at g0;rw [zxn] at g1;rw [zyz] at g2;obtain⟨k,rfl,hk⟩:=zex g0;obtain⟨s,rfl,-⟩:=zc1 g1 (fun q hq=>hw q (by simp only [DataW.weights,Tryz.underlying44];exact zbu (ts:=[27,9,4]) (ds:=[y0.1,y1.1,y2.1]) 1 rfl rfl hq));obtain⟨b,rfl⟩:=zth g2;exact⟨k,s,b,rfl,rfl,rfl,hk⟩
theorem zq4:zed enc w 46 entryT RoomE:=by
 intro n cs D p htr hw;obtain⟨xs,m,-,hx,hlen,hxl,hf⟩:=DataW.trod_struct Tryz.underlying46 htr;obtain⟨y0,y1,y2,y3,y4,rfl⟩:=zy8 hxl;obtain⟨c0,c1,c2,c3,c4,c5,c6,rfl⟩:=zzb (hlen.trans zx7);have hD:=congrArg Prod.fst hx;simp only at hD;clear hx;subst hD;have hwp:∀ (i:Nat) (t:TypeId) (d:DataW H),([9,22,41,42,44][i]? = some t)->([y0.1,y1.1,y2.1,y3.1,y4.1][i]? = some d)->∀ q ∈ DataW.weights Tryz.prog t d,q<=reachBytes:=fun i t d h1 h2 q hq=>hw q (by simp only [DataW.weights,Tryz.underlying46];exact zbu i h1 h2 hq)
 have g0:DataW.trod enc Tryz.prog w 0 (fun _=>true) true m 9 ((([c0,c1,c2,c3,c4,c5,c6]:List Value).drop 0).take (Tryz.prog.cellsOf 9))=some (y0.1,y0.2):=hf 0 _ rfl;rw [show Tryz.prog.cellsOf 9=1 by kernel_rfl] at g0;have h0:=zc1 g0 (hwp 0 _ _ rfl rfl);have g1:DataW.trod enc Tryz.prog w 0 (fun _=>true) true m 22 ((([c0,c1,c2,c3,c4,c5,c6]:List Value).drop 1).take (Tryz.prog.cellsOf 22))=some (y1.1,y1.2):=hf 1 _ rfl;rw [show Tryz.prog.cellsOf 22=1 by kernel_rfl] at g1;have h1:=zk0 _ _ _ _ g1 (hwp 1 _ _ rfl rfl);have g2:DataW.trod enc Tryz.prog w 0 (fun _=>true) true m 41 ((([c0,c1,c2,c3,c4,c5,c6]:List Value).drop 2).take (Tryz.prog.cellsOf 41))=some (y2.1,y2.2):=hf 2 _ rfl;rw [show Tryz.prog.cellsOf 41=1 by kernel_rfl] at g2;have h2:=zpn _ _ _ _ g2 (hwp 2 _ _ rfl rfl);have g3:DataW.trod enc Tryz.prog w 0 (fun _=>true) true m 42 ((([c0,c1,c2,c3,c4,c5,c6]:List Value).drop 3).take (Tryz.prog.cellsOf 42))=some (y3.1,y3.2):=hf 3 _ rfl;rw [show Tryz.prog.cellsOf 42=1 by kernel_rfl] at g3;have h3:=zq3 _ _ _ _ g3 (hwp 3 _ _ rfl rfl);have g4:DataW.trod enc Tryz.prog w 0 (fun _=>true) true m 44 ((([c0,c1,c2,c3,c4,c5,c6]:List Value).drop 4).take (Tryz.prog.cellsOf 44))=some (y4.1,y4.2):=hf 4 _ rfl;rw [show Tryz.prog.cellsOf 44=3 by kernel_rfl] at g4;have h4:=ztm g4 (hwp 4 _ _ rfl rfl);obtain⟨s,rfl,hs⟩:=h0;obtain⟨l1,⟨v1,e1,hv1⟩,-,-⟩:=h1;obtain⟨l2,⟨v2,e2,hv2⟩,hl2,-⟩:=h2;obtain⟨l3,⟨v3,e3,hv3⟩,hl3,-⟩:=h3;obtain⟨k,t,b,rfl,rfl,rfl,hk⟩:=h4;have f1:c1=v1:=by simpa using e1
 have f2:c2=v2:=by simpa using e2
 have f3:c3=v3:=by simpa using e3
 subst f1;subst f2;subst f3;exact⟨⟨s,l1,l2,l3,(k,t,b)⟩,⟨_,_,_,rfl,hv1,hv2,hv3⟩,⟨hl3,hk,hl2⟩⟩
theorem zn4:zed enc w 23 (slT entryT (by decide)) (fun l=>(∀ a ∈ l,RoomE a)/\l.length * 120<=reachBytes) :=
 haveI:Inhabited Entry:=⟨zam⟩
 zei 120 (by decide) Tryz.underlying23 (by kernel_rfl) (by kernel_rfl) zq4
theorem zq5:zed enc w 26 zx9 (fun s=>∀ e ∈ s.entries,RoomE e):=by
 intro n cs D p htr hw;obtain⟨xs,m,-,hx,hlen,hxl,hf⟩:=DataW.trod_struct Tryz.underlying26 htr;obtain⟨y0,y1,y2,rfl⟩:=zma hxl;obtain⟨c0,c1,c2,rfl⟩:=zma (hlen.trans zx8);have hD:=congrArg Prod.fst hx;simp only at hD;clear hx;subst hD;have hwp:∀ (i:Nat) (t:TypeId) (d:DataW H),([22,23,24][i]? = some t)->([y0.1,y1.1,y2.1][i]? = some d)->∀ q ∈ DataW.weights Tryz.prog t d,q<=reachBytes:=fun i t d h1 h2 q hq=>hw q (by simp only [DataW.weights,Tryz.underlying26];exact zbu i h1 h2 hq)
 have g0:DataW.trod enc Tryz.prog w 0 (fun _=>true) true m 22 ((([c0,c1,c2]:List Value).drop 0).take (Tryz.prog.cellsOf 22))=some (y0.1,y0.2):=hf 0 _ rfl;rw [show Tryz.prog.cellsOf 22=1 by kernel_rfl] at g0;have h0:=zk0 _ _ _ _ g0 (hwp 0 _ _ rfl rfl);have g1:DataW.trod enc Tryz.prog w 0 (fun _=>true) true m 23 ((([c0,c1,c2]:List Value).drop 1).take (Tryz.prog.cellsOf 23))=some (y1.1,y1.2):=hf 1 _ rfl;rw [show Tryz.prog.cellsOf 23=1 by kernel_rfl] at g1;have h1:=zn4 _ _ _ _ g1 (hwp 1 _ _ rfl rfl);have g2:DataW.trod enc Tryz.prog w 0 (fun _=>true) true m 24 ((([c0,c1,c2]:List Value).drop 2).take (Tryz.prog.cellsOf 24))=some (y2.1,y2.2):=hf 2 _ rfl;rw [show Tryz.prog.cellsOf 24=1 by kernel_rfl] at g2;have h2:=ztk _ _ _ _ g2 (hwp 2 _ _ rfl rfl);obtain⟨l1,⟨v1,e1,hv1⟩,-,-⟩:=h0;obtain⟨l2,⟨v2,e2,hv2⟩,hl2,-⟩:=h1;obtain⟨l3,⟨v3,e3,hv3⟩,-,-⟩:=h2;have f1:c0=v1:=by simpa using e1
 have f2:c1=v2:=by simpa using e2
 have f3:c2=v3:=by simpa using e3
 subst f1;subst f2;subst f3;exact⟨⟨l1,l2,l3⟩,⟨_,_,_,rfl,hv1,hv2,hv3⟩,hl2⟩
theorem ztn {r:Reach} {b0:Nat} {v:Value} {d:DataW H} {ps:List MemPlace} (hval:Value.okWide Tryz.prog w r b0 26 v) (h:DataW.Trod enc Tryz.prog w 0 (fun _=>true) true 26 v d ps)
  (hw:∀ q ∈ DataW.weights Tryz.prog 26 d,q<=reachBytes):∃ s v1 v2 v3,v=stV v1 v2 v3/\StAt w (fun _=>True) s v1 v2 v3/\∀ e ∈ s.entries,RoomE e:=by
 obtain⟨n,hn⟩:=h;unfold Value.okWide at hval;rw [Tryz.underlying26] at hval;obtain⟨cs,rfl,-⟩:=hval;obtain⟨s,⟨v1,v2,v3,e,h1,h2,h3⟩,hs⟩:=zq5 _ _ _ _ hn hw
 have hc:cs=#[v1,v2,v3]:=by have e':cs.toList = [v1,v2,v3]:=e;cases cs;simp at e';rw [e']
 exact⟨s,v1,v2,v3,by rw [hc],⟨h1,h2,h3⟩,hs⟩
end
end
section
open Go.Deep Go.ChangeShapes Go.WideShapes
section
variable {H:Type} {enc:TypeId × Value->H} {w:World}
end
end
section
open Go.Deep Go.RowKit Go.Shelf Go.ChangeShapes Go.WideShapes
section
variable {H:Type} {enc:TypeId × Value->H} {w:World}
theorem zq6 {r:Reach} {b0:Nat} {v:Value} {d:DataW H} {ps:List MemPlace} (hval:Value.okWide Tryz.prog w r b0 29 v) (h:DataW.Trod enc Tryz.prog w 0 (fun _=>true) true 29 v d ps)
  (hw:∀ q ∈ DataW.weights Tryz.prog 29 d,q<=reachBytes):∃ o:PrD,v=prV o/\o.1.length<=140737488355328/\o.2.2.1.length<=140737488355328:=by
 obtain⟨n,hn⟩:=h;unfold Value.okWide at hval;rw [Tryz.underlying29] at hval;obtain⟨cs,rfl,-⟩:=hval;obtain⟨xs,m,-,hx,hlen,hxl,hf⟩:=DataW.trod_struct Tryz.underlying29 hn;obtain⟨y0,y1,y2,y3,rfl⟩:=zxm hxl;have hl:(Value.agg cs).cells.toList.length=4:=hlen.trans (by kernel_rfl);obtain⟨c0,c1,c2,c3,hc⟩:=zxm hl;rw [hc] at hf;have hD:=congrArg Prod.fst hx;simp only at hD;clear hx;subst hD;have g0:DataW.trod enc Tryz.prog w 0 (fun _=>true) true m 9 ((([c0,c1,c2,c3]:List Value).drop 0).take (Tryz.prog.cellsOf 9))=some (y0.1,y0.2):=hf 0 _ rfl;have g1:DataW.trod enc Tryz.prog w 0 (fun _=>true) true m 27 ((([c0,c1,c2,c3]:List Value).drop 1).take (Tryz.prog.cellsOf 27))=some (y1.1,y1.2):=hf 1 _ rfl;have g2:DataW.trod enc Tryz.prog w 0 (fun _=>true) true m 9 ((([c0,c1,c2,c3]:List Value).drop 2).take (Tryz.prog.cellsOf 9))=some (y2.1,y2.2):=hf 2 _ rfl;have g3:DataW.trod enc Tryz.prog w 0 (fun _=>true) true m 27 ((([c0,c1,c2,c3]:List Value).drop 3).take (Tryz.prog.cellsOf 27))=some (y3.1,y3.2):=hf 3 _ rfl;rw [zxn] at g0 g2;rw [show Tryz.prog.cellsOf 27=1 by kernel_rfl] at g1 g3;have hwp:∀ (i:Nat) (t:TypeId) (d:DataW H),([9,27,9,27][i]? = some t)->([y0.1,y1.1,y2.1,y3.1][i]? = some d)->∀ q ∈ DataW.weights Tryz.prog t d,q<=reachBytes:=fun i t d h1 h2 q hq=>hw q (by simp only [DataW.weights,Tryz.underlying29];exact zbu i h1 h2 hq)
 obtain⟨s,e0,l0⟩:=zc1 g0 (hwp 0 _ _ rfl rfl);obtain⟨k,e1,-⟩:=zex g1;obtain⟨t,e2,l2⟩:=zc1 g2 (hwp 2 _ _ rfl rfl);obtain⟨j,e3,-⟩:=zex g3
 have hcs:cs=#[c0,c1,c2,c3]:=by have e':cs.toList = [c0,c1,c2,c3]:=hc;cases cs;simp at e';rw [e']
 exact⟨(s,k,t,j),by rw [hcs,e0,e1,e2,e3],Nat.le_trans l0 (by decide),Nat.le_trans l2 (by decide)⟩
end
end
end Go.Proofs.YtaabaflgeljbjaaGreat
