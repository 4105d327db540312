/- The statements' 'alive' of layer 17 returns true. Printed by gen_alive7.py. -/
import Derived.Test.YtaabaflgeljbjaaGreatQx39
import Derived.Test.YtaabaflgeljbjaaGreatQx40
import Derived.Test.YtaabaflgeljbjaaGreatPr30
import Derived.Test.YtaabaflgeljbjaaGreatPr26
import Derived.Test.YtaabaflgeljbjaaGreatPr25
set_option linter.unusedVariables false
set_option linter.unusedSimpArgs false
set_option maxRecDepth 100000
set_option maxHeartbeats 40000000
namespace Go.Proofs.YtaabaflgeljbjaaGreat
open Go renaming undef→Qa
open Nat renaming lt_of_lt_of_le→Qb,le_refl→Qc,zero_mul→Qe,zero_add→Qf
open Go.RowKit.Below renaming heap_setCell→Qd
section
open Go.RowKit Go.Shelf
theorem ybg {w:World} {g T:Nat} {d:Dot} (h:RowIs w g T [St d.1,U d.2] []):Sl markT w (fun _=>True) (.slice (some ⟨g,0,none⟩) 1 1) [d] :=
 ⟨_,1,rfl,Qc _,by decide,fun pre x post hl=>by
  cases pre with
  | nil=>simp at hl;obtain⟨rfl,-⟩:=hl;exact⟨g,0,_,rfl,trivial,rfl,fun j u hj=>by simp only [List.length_nil,Qe,Qf];exact h.cell hj⟩
  | cons a r=>simp at hl⟩
theorem yas {w:World} {g T:Nat} {S:Nat->Prop} {t:Str} {v:Value} {ds:List Dot} (h:RowIs w g T [St t,v] []) (hd:Sl markT w S v ds):Sl itemT w (fun _=>True) (.slice (some ⟨g,0,none⟩) 1 1) [(t,ds)] :=
 ⟨_,1,rfl,Qc _,by decide,fun pre x post hl=>by
  cases pre with
  | nil=>simp at hl;obtain⟨rfl,-⟩:=hl;exact⟨g,0,_,rfl,trivial,⟨v,rfl,hd.mono (by decide) fun _ _ _=>trivial⟩,fun j u hj=>by simp only [List.length_nil,Qe,Qf];exact h.cell hj⟩
  | cons a r=>simp at hl⟩
theorem zqf {w:World} {q T:Nat} {x y z v1 v2 v3:Value} (h:RowIs w q T [x,y,z] []):RowIs (put3 w q v1 v2 v3) q T [v1,v2,v3] []:=by
 have:=((h.set (j:=0) (by simp) v1).set (j:=1) (by simp) v2).set (j:=2) (by simp) v3
 simpa using this
theorem zsd {w:World} {g:Nat} {a b:PrD} (h:RowIs w g 29 (prC a++prC b) []):Sl prT w (fun _=>True) (.slice (some ⟨g,0,none⟩) 2 2) [a,b] :=
 ⟨_,2,rfl,Qc _,by decide,fun pre x post hl=>by
  match pre,hl with
  | [],hl =>
   simp at hl;obtain⟨rfl,-⟩:=hl
   exact⟨g,0,_,rfl,trivial,rfl,fun j u hj=>by simp only [List.length_nil,Qe,Qf];exact h.cell (by rw [List.getElem?_append_left (List.getElem?_eq_some_iff.1 hj).1];exact hj)⟩
  | [y],hl =>
   simp at hl;obtain⟨rfl,rfl,-⟩:=hl
   exact⟨g,0,_,rfl,trivial,rfl,fun j u hj=>by
    show w.cell? ⟨g,0+1 * 4+j,none⟩=some u
    exact h.cell (by rw [List.getElem?_append_right (by simp),show 0+1 * 4+j - (prC a).length=j by simp];exact hj)⟩
  | _ :: _ :: _,hl=>simp at hl⟩
abbrev yca:List Value:=[.slice none 0 0,.slice none 0 0,.slice none 0 0,.slice none 0 0]
abbrev agD (xs:List Value):Value:=.agg xs.toArray
abbrev tupD (xs:List Value):Value:=.tuple #[.agg xs.toArray,I 0]
def CDl (s:State) (xs:List Value) (S:Nat->Prop) (W:World):Prop:=∃ B0 m0 B1 m1 B2 m2 B3 m3,xs = [.slice B0 0 m0,.slice B1 s.all.length m1,.slice B2 s.entries.length m2,.slice B3 s.pruned.length m3]/\StAt W S s (.slice B1 s.all.length m1) (.slice B2 s.entries.length m2) (.slice B3 s.pruned.length m3)
theorem CDl.keep {s:State} (xs:List Value) (S:Nat->Prop) (w w':World) (h:CDl s xs S w) (hs:∀ b,S b->b < w.heap.size->w'.heap[b]? = w.heap[b]?):CDl s xs S w':=by
 obtain⟨B0,m0,B1,m1,B2,m2,B3,m3,e,h1⟩:=h;exact⟨B0,m0,B1,m1,B2,m2,B3,m3,e,h1.keep hs⟩
def SinK (st:Nat->Option Value) (w:World):Prop:=∀ v,st 1=some v->∃ u0 u1 u2 u3,v=dltV u0 u1 u2 u3/\StAt w (fun _=>True) stV7 u1 u2 u3/\Sl markT w (fun _=>True) u0 []
theorem SinK.ext {st:Nat->Option Value} {w w':World} (h:SinK st w) (he:Ext w w'):SinK st w':=fun v hv=>by
 obtain⟨u0,u1,u2,u3,e,a,b⟩:=h v hv;exact⟨u0,u1,u2,u3,e,a.ext he,b.ext (by decide) he⟩
theorem SinK.other {j:Nat} {st:Nat->Option Value} {w:World} {u:Value} (hd:1 ≠ j) (h:SinK st w):SinK (zfo st j u) w:=fun v hv=>h v (by rwa [zah st u hd] at hv)
abbrev zqw (w:World) (q:Nat) (v1 v2 v3 v4:Value):World:=(((w.setCell ⟨q,0,none⟩ v1).setCell ⟨q,1,none⟩ v2).setCell ⟨q,2,none⟩ v3).setCell ⟨q,3,none⟩ v4
theorem zyl {w wr:World} {q:Nat} (hx:Ext w wr) (hq:w.heap.size<=q) (v1 v2 v3 v4:Value):Ext w (zqw wr q v1 v2 v3 v4) :=
 (((hx.set (p:=⟨q,0,none⟩) hq v1).set (p:=⟨q,1,none⟩) hq v2).set (p:=⟨q,2,none⟩) hq v3).set (p:=⟨q,3,none⟩) hq v4
theorem zvv (w:World) (q:Nat) (v1 v2 v3 v4:Value) (b:Nat) (hb:b ≠ q):(zqw w q v1 v2 v3 v4).heap[b]? = w.heap[b]? :=
 (((Qd _ _ _ b hb).trans (Qd _ _ _ b hb)).trans (Qd _ _ _ b hb)).trans (Qd _ _ _ b hb)
theorem zym {w:World} {q T:Nat} {a b c d v1 v2 v3 v4:Value} (h:RowIs w q T [a,b,c,d] []):RowIs (zqw w q v1 v2 v3 v4) q T [v1,v2,v3,v4] []:=by
 have:=(((h.set (j:=0) (by simp) v1).set (j:=1) (by simp) v2).set (j:=2) (by simp) v3).set (j:=3) (by simp) v4
 simpa using this
theorem zm6 (w:World):Calls Tryz.prog 9 #[] w fun r w'=>r=.returned (.bool true)/\Ext w w':=by
 go_enter Tryz.func9,Tryz.ntmps9;refine wpH ?_;intro K HK;go_wp2_with fail;refine HK.out _ _ ?_;clear HK K;have hxw:=Ext.refl w;obtain⟨ga,hga⟩:∃ g,w.heap.size=g:=⟨_,rfl⟩
 obtain⟨Wa,hWa⟩:∃ X,w.alloc (.cells #[St [49],.int .u64 5] 97)=X:=⟨_,rfl⟩
 have hxaa:Ext w Wa:=by rw [<- hWa];exact (Ext.refl w).alloc _
 have rra:RowIs Wa ga 97 [St q1,U 5] []:=by rw [<- hWa,<- hga];exact zaf w _ _
 have HWa:=zH hWa;have HGa:=zH hga;replace hxw:=hxw.trans hxaa;clear hWa hga hxaa;have hs0:StAt Wa (fun _=>True) st0 (.slice (some ⟨ga,0,none⟩) 1 1) (.slice none 0 0) (.slice none 0 0):=⟨(zbb (l:=[(q1,5)]) (zqe (m:=(q1,5)) (base:=0) rra (Nat.zero_le _))).mono (by decide) (fun _ _ _=>trivial),Sl.nil _ _ (by decide),Sl.nil _ _ (by decide)⟩
 have C:=zH (znl (w:=Wa) q11 opN (by decide) (by decide) hs0 (lim_st0.small (by decide)));clear hs0 rra;refine wpH ?_;intro K HK;go_wp2_with fail
 (try rw [HGa.out])
 (try rw [HWa.out])
 refine C.out.mono ?_;clear C HWa HGa;rintro r V ⟨u1,u2,u3,rfl,hS,hxV⟩;rw [ybo] at hS ⊢;obtain⟨A1,nA1,rfl,-,-⟩:∃ A c,u1=Value.slice A 2 c/\2<=c/\c<=9223372036854775807:=hS.all.form;obtain⟨A2,nA2,rfl,-,-⟩:∃ A c,u2=Value.slice A 1 c/\1<=c/\c<=9223372036854775807:=hS.entries.form;obtain⟨A3,nA3,rfl,-,-⟩:∃ A c,u3=Value.slice A 0 c/\0<=c/\c<=9223372036854775807:=hS.pruned.form;replace hxw:=hxw.trans hxV;obtain⟨g1,hg1⟩:∃ g,V.heap.size=g:=⟨_,rfl⟩
 obtain⟨W1,hW1⟩:∃ X,V.alloc (.cells #[.slice A1 2 nA1,.slice A2 1 nA2,.slice A3 0 nA3] 26)=X:=⟨_,rfl⟩
 have hxa1:Ext V W1:=by rw [<- hW1];exact (Ext.refl V).alloc _
 have rr1:RowIs W1 g1 26 [.slice A1 2 nA1,.slice A2 1 nA2,.slice A3 0 nA3] []:=by rw [<- hW1,<- hg1];exact zaf V _ _
 have HW1:=zH hW1;have HG1:=zH hg1;have hwg:w.heap.size<=g1:=by rw [<- hg1];exact hxw.size
 replace hxw:=hxw.trans hxa1;clear hW1 hg1 hxa1;have sA:StAt W1 (fun b=>b ≠ g1) stP (.slice A1 2 nA1) (.slice A2 1 nA2) (.slice A3 0 nA3):=(hS.mono (S':=fun b=>b ≠ g1) fun b hb _=>by have:=HG1.out;omega).ext (by rw [<- HW1.out];exact (Ext.refl V).alloc _);have hsz1:g1 < W1.heap.size:=rr1.lt;clear hS hxV;go_wp2_with fail
 (try rw [HG1.out])
 (try rw [HW1.out])
 clear HW1 HG1;refine HK.out _ _ ?_;clear HK K;have C:=zH (znl (w:=W1) q11 opS (by decide) (by decide) sA (lim_stP.small (by decide)));obtain⟨ka0,ka1,ka2⟩:=rr1.p3;refine wpH ?_;intro K HK;go_wp2_with fail;refine C.out.mono ?_;clear C ka0 ka1 ka2;rintro r V ⟨u1,u2,u3,rfl,hS,hxV⟩;rw [ybp] at hS ⊢;obtain⟨B1,nB1,rfl,-,-⟩:∃ A c,u1=Value.slice A 2 c/\2<=c/\c<=9223372036854775807:=hS.all.form;obtain⟨B2,nB2,rfl,-,-⟩:∃ A c,u2=Value.slice A 2 c/\2<=c/\c<=9223372036854775807:=hS.entries.form;obtain⟨B3,nB3,rfl,-,-⟩:∃ A c,u3=Value.slice A 0 c/\0<=c/\c<=9223372036854775807:=hS.pruned.form;have hgV:g1 < V.heap.size:=Qb hsz1 hxV.size;replace rr1:=rr1.ext hxV;replace hxw:=hxw.trans hxV;have sB:=hS.mono (S':=fun b=>b ≠ g1) fun b _ h=>by omega
 clear hS sA;obtain⟨y0,y1,y2⟩:=rr1.p3;obtain⟨f0,f1,f2⟩:=rr1.q3;obtain⟨W2,hW2⟩:∃ X,((V.setCell ⟨g1,0,none⟩ (.slice B1 2 nB1)).setCell ⟨g1,1,none⟩ (.slice B2 2 nB2)).setCell ⟨g1,2,none⟩ (.slice B3 0 nB3)=X:=⟨_,rfl⟩
 have hk2:∀ b,b ≠ g1->W2.heap[b]? = V.heap[b]?:=by rw [<- hW2];exact zda V g1 (.slice B1 2 nB1) (.slice B2 2 nB2) (.slice B3 0 nB3)
 replace rr1:RowIs W2 g1 26 [.slice B1 2 nB1,.slice B2 2 nB2,.slice B3 0 nB3] []:=by rw [<- hW2];exact zqf rr1
 replace sB:=sB.keep (w:=W2) (fun b hb _=>hk2 b hb);replace hxw:Ext w W2:=by rw [<- hW2];exact zbn hxw hwg _ _ _
 have HW2:=zH hW2;clear hW2 hk2;have hsz1:g1 < W2.heap.size:=rr1.lt;go_wp2_with fail
 (try rw [HW2.out])
 clear HW2 hxV y0 y1 y2 f0 f1 f2;refine HK.out _ _ ?_;clear HK K;have hgV:=hsz1;obtain⟨g4,hg4⟩:∃ g,W2.heap.size=g:=⟨_,rfl⟩
 obtain⟨W4,hW4⟩:∃ X,W2.alloc (.cells #[St [49,46,49],.int .u64 2,St [49],.int .u64 5] 29)=X:=⟨_,rfl⟩
 have hxa4:Ext W2 W4:=by rw [<- hW4];exact (Ext.refl W2).alloc _
 have rr4:RowIs W4 g4 29 [St q11,U 2,St q1,U 5] []:=by rw [<- hW4,<- hg4];exact zaf W2 _ _
 have HW4:=zH hW4;have HG4:=zH hg4;replace rr1:=rr1.ext hxa4;replace sB:=sB.ext hxa4;replace hxw:=hxw.trans hxa4;have hlt4:g1 < g4:=by rw [<- hg4];exact hgV
 clear hW4 hg4 hxa4;have hsz1:g1 < W4.heap.size:=rr1.lt;refine wpH ?_;intro K HK;go_wp2_with fail
 (try rw [HG4.out])
 (try rw [HW4.out])
 clear HW4 HG4;refine HK.out _ _ ?_;clear HK K;have C:=zH (ziv (w:=W4) pQ sB (lim_stQ.small (by decide)));obtain⟨ka0,ka1,ka2⟩:=rr1.p3;obtain⟨kp0,kp1,kp2,kp3⟩:=rr4.p4;refine wpH ?_;intro K HK;go_wp2_with fail;refine C.out.mono ?_;clear C ka0 ka1 ka2 kp0 kp1 kp2 kp3;rintro r V ⟨u1,u2,u3,rfl,hS,hxV⟩;rw [ybq] at hS ⊢;obtain⟨Z1,nZ1,rfl,-,-⟩:∃ A c,u1=Value.slice A 0 c/\0<=c/\c<=9223372036854775807:=hS.all.form;obtain⟨Z2,nZ2,rfl,-,-⟩:∃ A c,u2=Value.slice A 0 c/\0<=c/\c<=9223372036854775807:=hS.entries.form;obtain⟨Z3,nZ3,rfl,-,-⟩:∃ A c,u3=Value.slice A 0 c/\0<=c/\c<=9223372036854775807:=hS.pruned.form;have hgV:g1 < V.heap.size:=Qb hsz1 hxV.size;replace rr1:=rr1.ext hxV;replace sB:=sB.ext hxV;replace rr4:=rr4.ext hxV;replace hxw:=hxw.trans hxV;obtain⟨g5,hg5⟩:∃ g,V.heap.size=g:=⟨_,rfl⟩
 obtain⟨W5,hW5⟩:∃ X,V.alloc (.cells #[.slice Z1 0 nZ1,.slice Z2 0 nZ2,.slice Z3 0 nZ3] 26)=X:=⟨_,rfl⟩
 have hxa5:Ext V W5:=by rw [<- hW5];exact (Ext.refl V).alloc _
 have rr5:RowIs W5 g5 26 [.slice Z1 0 nZ1,.slice Z2 0 nZ2,.slice Z3 0 nZ3] []:=by rw [<- hW5,<- hg5];exact zaf V _ _
 have HW5:=zH hW5;have HG5:=zH hg5;replace rr1:=rr1.ext hxa5;replace sB:=sB.ext hxa5;replace rr4:=rr4.ext hxa5;replace hxw:=hxw.trans hxa5;have hlt5:g1 < g5:=by rw [<- hg5];exact hgV
 clear hW5 hg5 hxa5;have hsz1:g1 < W5.heap.size:=rr1.lt;clear hS hxV rr5;go_wp2_with fail
 (try rw [HG5.out])
 (try rw [HW5.out])
 clear HW5 HG5;refine HK.out _ _ ?_;clear HK K;have C:=zH (zl0 (w:=W5) q1 2 (by decide) sB (lim_stQ.small (by decide)));obtain⟨ka0,ka1,ka2⟩:=rr1.p3;refine wpH ?_;intro K HK;go_wp2_with fail;refine C.out.mono ?_;clear C ka0 ka1 ka2;rintro r V ⟨u1,u2,u3,rfl,hS,hxV⟩;rw [ybr] at hS ⊢;obtain⟨R1,nR1,rfl,-,-⟩:∃ A c,u1=Value.slice A 2 c/\2<=c/\c<=9223372036854775807:=hS.all.form;obtain⟨R2,nR2,rfl,-,-⟩:∃ A c,u2=Value.slice A 2 c/\2<=c/\c<=9223372036854775807:=hS.entries.form;obtain⟨R3,nR3,rfl,-,-⟩:∃ A c,u3=Value.slice A 0 c/\0<=c/\c<=9223372036854775807:=hS.pruned.form;have hgV:g1 < V.heap.size:=Qb hsz1 hxV.size;replace rr1:=rr1.ext hxV;replace rr4:=rr4.ext hxV;replace hxw:=hxw.trans hxV;have sR:=hS.mono (S':=fun b=>b ≠ g1) fun b _ h=>by omega
 clear hS sB;obtain⟨y0,y1,y2⟩:=rr1.p3;obtain⟨f0,f1,f2⟩:=rr1.q3;obtain⟨W6,hW6⟩:∃ X,((V.setCell ⟨g1,0,none⟩ (.slice R1 2 nR1)).setCell ⟨g1,1,none⟩ (.slice R2 2 nR2)).setCell ⟨g1,2,none⟩ (.slice R3 0 nR3)=X:=⟨_,rfl⟩
 have hk6:∀ b,b ≠ g1->W6.heap[b]? = V.heap[b]?:=by rw [<- hW6];exact zda V g1 (.slice R1 2 nR1) (.slice R2 2 nR2) (.slice R3 0 nR3)
 replace rr1:RowIs W6 g1 26 [.slice R1 2 nR1,.slice R2 2 nR2,.slice R3 0 nR3] []:=by rw [<- hW6];exact zqf rr1
 replace rr4:=rr4.keep (hk6 _ (by omega));replace sR:=sR.keep (w:=W6) (fun b hb _=>hk6 b hb);replace hxw:Ext w W6:=by rw [<- hW6];exact zbn hxw hwg _ _ _
 have HW6:=zH hW6;clear hW6 hk6;have hsz1:g1 < W6.heap.size:=rr1.lt;go_wp2_with fail
 (try rw [HW6.out])
 clear HW6 hxV y0 y1 y2 f0 f1 f2;refine HK.out _ _ ?_;clear HK K;have C:=zH (ziv (w:=W6) pQ sR (lim_stR.small (by decide)));obtain⟨ka0,ka1,ka2⟩:=rr1.p3;obtain⟨kp0,kp1,kp2,kp3⟩:=rr4.p4;refine wpH ?_;intro K HK;go_wp2_with fail;refine C.out.mono ?_;clear C ka0 ka1 ka2 kp0 kp1 kp2 kp3;rintro r V ⟨u1,u2,u3,rfl,hS,hxV⟩;rw [zsb] at hS ⊢;obtain⟨T1,nT1,rfl,-,-⟩:∃ A c,u1=Value.slice A 1 c/\1<=c/\c<=9223372036854775807:=hS.all.form;obtain⟨T2,nT2,rfl,-,-⟩:∃ A c,u2=Value.slice A 2 c/\2<=c/\c<=9223372036854775807:=hS.entries.form;obtain⟨T3,nT3,rfl,-,-⟩:∃ A c,u3=Value.slice A 1 c/\1<=c/\c<=9223372036854775807:=hS.pruned.form;have hgV:g1 < V.heap.size:=Qb hsz1 hxV.size;replace rr1:=rr1.ext hxV;replace rr4:=rr4.ext hxV;replace sR:=sR.ext hxV;replace hxw:=hxw.trans hxV;have sT:=hS.mono (S':=fun b=>b ≠ g1) fun b _ h=>by omega
 clear hS;obtain⟨g8,hg8⟩:∃ g,V.heap.size=g:=⟨_,rfl⟩
 obtain⟨W8,hW8⟩:∃ X,V.alloc (.cells #[.slice T1 1 nT1,.slice T2 2 nT2,.slice T3 1 nT3] 26)=X:=⟨_,rfl⟩
 have hxa8:Ext V W8:=by rw [<- hW8];exact (Ext.refl V).alloc _
 have rr8:RowIs W8 g8 26 [.slice T1 1 nT1,.slice T2 2 nT2,.slice T3 1 nT3] []:=by rw [<- hW8,<- hg8];exact zaf V _ _
 have HW8:=zH hW8;have HG8:=zH hg8;replace rr1:=rr1.ext hxa8;replace rr4:=rr4.ext hxa8;replace sR:=sR.ext hxa8;replace sT:=sT.ext hxa8;replace hxw:=hxw.trans hxa8;have hlt8:g1 < g8:=by rw [<- hg8];exact hgV
 clear hW8 hg8 hxa8;have hsz1:g1 < W8.heap.size:=rr1.lt;clear hxV;go_wp2_with fail
 (try rw [HG8.out])
 (try rw [HW8.out])
 clear HW8 HG8;refine HK.out _ _ ?_;clear HK K;have hta:=fun W=>zoj (P:=Tryz.prog) (x:=20) (v:=I 2) W Tryz.underlying2 (by simp)
 have C:=zH (zzy (w:=W8) kN sT (lim_stT.small (n:=10) (by decide)).each);obtain⟨kt0,kt1,kt2⟩:=rr8.p3;refine wpH ?_;intro K HK;go_wp2_with fail;refine C.out.mono ?_;clear C kt0 kt1 kt2;rintro r V ⟨v,rfl,hv,hxV⟩;rw [ybw] at hv;unfold ValAt at hv;rw [ybx,zP rfl,yby] at hv;subst hv;have hgV:g1 < V.heap.size:=Qb hsz1 hxV.size;replace rr1:=rr1.ext hxV;replace rr4:=rr4.ext hxV;replace sR:=sR.ext hxV;replace sT:=sT.ext hxV;replace rr8:=rr8.ext hxV;replace hxw:=hxw.trans hxV;have hsz1:g1 < V.heap.size:=rr1.lt;obtain⟨W9,hW9⟩:∃ X,V=X:=⟨_,rfl⟩
 rw [hW9] at hxw hsz1 rr1 rr4 sR sT rr8 ⊢;clear hxV hgV hW9 V;go_wp2_with fail;clear hta;refine HK.out _ _ ?_;clear HK K;have C:=zH (ya5 (w:=W9) kS sT (lim_stT.small (n:=10) (by decide)).each);obtain⟨kt0,kt1,kt2⟩:=rr8.p3;refine wpH ?_;intro K HK;go_wp2_with fail;refine C.out.mono ?_;clear C kt0 kt1 kt2;rintro r V ⟨u1,u2,u3,rfl,hn,hxV⟩;rw [ybz] at hn ⊢;simp only [Option.getD_some,Option.isSome_some] at hn ⊢;obtain⟨X1,nX1,rfl,-,-⟩:∃ A c,u1=Value.slice A 1 c/\1<=c/\c<=9223372036854775807:=hn.seen.form;obtain⟨X2,nX2,rfl,-,-⟩:∃ A c,u2=Value.slice A 0 c/\0<=c/\c<=9223372036854775807:=hn.counts.form;obtain⟨X3,nX3,rfl,-,-⟩:∃ A c,u3=Value.slice A 1 c/\1<=c/\c<=9223372036854775807:=hn.items.form;have hgV:g1 < V.heap.size:=Qb hsz1 hxV.size;replace rr1:=rr1.ext hxV;replace rr4:=rr4.ext hxV;replace sR:=sR.ext hxV;replace sT:=sT.ext hxV;replace rr8:=rr8.ext hxV;replace hxw:=hxw.trans hxV;have eX:EntAt V (fun _=>True) eSt (.slice X1 1 nX1) (.slice X2 0 nX2) (.slice X3 1 nX3):=hn.at.mono (fun _ _ _=>trivial);clear hn;obtain⟨g12,hg12⟩:∃ g,V.heap.size=g:=⟨_,rfl⟩
 obtain⟨W12,hW12⟩:∃ X,V.alloc (.cells #[St eSt.key,.slice X1 1 nX1,.slice X2 0 nX2,.slice X3 1 nX3,U eSt.cell.1,St eSt.cell.2.1,.bool eSt.cell.2.2] 46)=X:=⟨_,rfl⟩
 have hxa12:Ext V W12:=by rw [<- hW12];exact (Ext.refl V).alloc _
 have rr12:RowIs W12 g12 46 [St eSt.key,.slice X1 1 nX1,.slice X2 0 nX2,.slice X3 1 nX3,U eSt.cell.1,St eSt.cell.2.1,.bool eSt.cell.2.2] []:=by rw [<- hW12,<- hg12];exact zaf V _ _
 have HW12:=zH hW12;have HG12:=zH hg12;replace rr1:=rr1.ext hxa12;replace rr4:=rr4.ext hxa12;replace sR:=sR.ext hxa12;replace sT:=sT.ext hxa12;replace rr8:=rr8.ext hxa12;replace eX:=eX.ext hxa12;replace hxw:=hxw.trans hxa12;have hlt12:g1 < g12:=by rw [<- hg12];exact hgV
 clear hW12 hg12 hxa12;have hsz1:g1 < W12.heap.size:=rr1.lt;clear hxV;go_wp2_with fail
 (try rw [HG12.out])
 (try rw [HW12.out])
 clear HW12 HG12;refine HK.out _ _ ?_;clear HK K;have C:=zH (zfk (w:=W12) q11 sT (lim_stT.small (by decide)));obtain⟨kt0,kt1,kt2⟩:=rr8.p3;refine wpH ?_;intro K HK;go_wp2_with fail;refine C.out.mono ?_;clear C kt0 kt1 kt2;rintro r V ⟨u1,u2,u3,rfl,hS,hxV⟩;rw [ybs] at hS;obtain⟨F1,nF1,rfl,-,-⟩:∃ A c,u1=Value.slice A 1 c/\1<=c/\c<=9223372036854775807:=hS.all.form;obtain⟨F2,nF2,rfl,-,-⟩:∃ A c,u2=Value.slice A 2 c/\2<=c/\c<=9223372036854775807:=hS.entries.form;obtain⟨F3,nF3,rfl,-,-⟩:∃ A c,u3=Value.slice A 0 c/\0<=c/\c<=9223372036854775807:=hS.pruned.form;have hgV:g1 < V.heap.size:=Qb hsz1 hxV.size;replace rr1:=rr1.ext hxV;replace rr4:=rr4.ext hxV;replace sR:=sR.ext hxV;replace sT:=sT.ext hxV;replace rr8:=rr8.ext hxV;replace eX:=eX.ext hxV;replace rr12:=rr12.ext hxV;replace hxw:=hxw.trans hxV;obtain⟨g14,hg14⟩:∃ g,V.heap.size=g:=⟨_,rfl⟩
 obtain⟨W14,hW14⟩:∃ X,V.alloc (.cells #[.slice F1 1 nF1,.slice F2 2 nF2,.slice F3 0 nF3] 26)=X:=⟨_,rfl⟩
 have hxa14:Ext V W14:=by rw [<- hW14];exact (Ext.refl V).alloc _
 have rr14:RowIs W14 g14 26 [.slice F1 1 nF1,.slice F2 2 nF2,.slice F3 0 nF3] []:=by rw [<- hW14,<- hg14];exact zaf V _ _
 have HW14:=zH hW14;have HG14:=zH hg14;replace rr1:=rr1.ext hxa14;replace rr4:=rr4.ext hxa14;replace sR:=sR.ext hxa14;replace sT:=sT.ext hxa14;replace rr8:=rr8.ext hxa14;replace eX:=eX.ext hxa14;replace rr12:=rr12.ext hxa14;replace hxw:=hxw.trans hxa14;have hlt14:g1 < g14:=by rw [<- hg14];exact hgV
 clear hW14 hg14 hxa14;have hsz1:g1 < W14.heap.size:=rr1.lt;clear hS hxV;go_wp2_with fail
 (try rw [HG14.out])
 (try rw [HW14.out])
 clear HW14 HG14;refine HK.out _ _ ?_;clear HK K;have hgV:=hsz1;obtain⟨ka0,ka1,ka2⟩:=rr1.p3;obtain⟨kp0,kp1,kp2,kp3⟩:=rr4.p4;obtain⟨gb,hgb⟩:∃ g,W14.heap.size=g:=⟨_,rfl⟩
 obtain⟨Wb,hWb⟩:∃ X,W14.alloc (.cells #[St q11,U 2,St q1,U 5,St q11,U 2,St q1,U 5] 29)=X:=⟨_,rfl⟩
 have hxab:Ext W14 Wb:=by rw [<- hWb];exact (Ext.refl W14).alloc _
 have rrb:RowIs Wb gb 29 [St q11,U 2,St q1,U 5,St q11,U 2,St q1,U 5] []:=by rw [<- hWb,<- hgb];exact zaf W14 _ _
 have HWb:=zH hWb;have HGb:=zH hgb;replace rr1:=rr1.ext hxab;replace rr4:=rr4.ext hxab;replace sR:=sR.ext hxab;replace sT:=sT.ext hxab;replace rr8:=rr8.ext hxab;replace eX:=eX.ext hxab;replace rr12:=rr12.ext hxab;replace rr14:=rr14.ext hxab;replace hxw:=hxw.trans hxab;have hltb:g1 < gb:=by rw [<- hgb];exact hgV
 clear hWb hgb hxab;have hsz1:g1 < Wb.heap.size:=rr1.lt;have C:=zH (zno (w:=Wb) (ps:=[pQ,pQ]) sR (zsd (a:=pQ) (b:=pQ) rrb) lim_stR (by decide));refine wpH ?_;intro K HK;have hx14:Ext W14 Wb:=by rw [<- HWb.out];exact (Ext.refl W14).alloc _
 go_wp2_with fail
 (try rw [HGb.out])
 (try rw [HWb.out])
 refine C.out.mono ?_;clear C HWb HGb ka0 ka1 ka2 kp0 kp1 kp2 kp3 rrb hx14;rintro r V ⟨u1,u2,u3,rfl,hS,hxV⟩;rw [ybt] at hS ⊢;obtain⟨Q1,nQ1,rfl,-,-⟩:∃ A c,u1=Value.slice A 1 c/\1<=c/\c<=9223372036854775807:=hS.all.form;obtain⟨Q2,nQ2,rfl,-,-⟩:∃ A c,u2=Value.slice A 2 c/\2<=c/\c<=9223372036854775807:=hS.entries.form;obtain⟨Q3,nQ3,rfl,-,-⟩:∃ A c,u3=Value.slice A 1 c/\1<=c/\c<=9223372036854775807:=hS.pruned.form;have hgV:g1 < V.heap.size:=Qb hsz1 hxV.size;replace rr1:=rr1.ext hxV;replace rr4:=rr4.ext hxV;replace sR:=sR.ext hxV;replace sT:=sT.ext hxV;replace rr8:=rr8.ext hxV;replace eX:=eX.ext hxV;replace rr12:=rr12.ext hxV;replace rr14:=rr14.ext hxV;replace hxw:=hxw.trans hxV;obtain⟨g15,hg15⟩:∃ g,V.heap.size=g:=⟨_,rfl⟩
 obtain⟨W15,hW15⟩:∃ X,V.alloc (.cells #[.slice Q1 1 nQ1,.slice Q2 2 nQ2,.slice Q3 1 nQ3] 26)=X:=⟨_,rfl⟩
 have hxa15:Ext V W15:=by rw [<- hW15];exact (Ext.refl V).alloc _
 have rr15:RowIs W15 g15 26 [.slice Q1 1 nQ1,.slice Q2 2 nQ2,.slice Q3 1 nQ3] []:=by rw [<- hW15,<- hg15];exact zaf V _ _
 have HW15:=zH hW15;have HG15:=zH hg15;replace rr1:=rr1.ext hxa15;replace rr4:=rr4.ext hxa15;replace sR:=sR.ext hxa15;replace sT:=sT.ext hxa15;replace rr8:=rr8.ext hxa15;replace eX:=eX.ext hxa15;replace rr12:=rr12.ext hxa15;replace rr14:=rr14.ext hxa15;replace hxw:=hxw.trans hxa15;have hlt15:g1 < g15:=by rw [<- hg15];exact hgV
 clear hW15 hg15 hxa15;have hsz1:g1 < W15.heap.size:=rr1.lt;clear hS hxV rr15;go_wp2_with fail
 (try rw [HG15.out])
 (try rw [HW15.out])
 clear HW15 HG15;refine HK.out _ _ ?_;clear HK K;refine wpH ?_;intro K HK;refine zc7 [some fun v=>v=.agg #[.slice R1 2 nR1,.slice R2 2 nR2,.slice R3 0 nR3],none,some fun v=>v=prV pQ,none,none,none,some fun v=>v=I 0,none,none] (fun st w=>BoxK W15.heap.size 83 yca (CDl stT) tupD agD 3 4 5 7 8 st w/\(st 8=none->SinK st w)) rfl (by kernel_rfl) ?hK ?h0 ?hstep ?hend
 case hK=>exact fun st w w' h he=>⟨h.1.ext CDl.keep he,fun h0=>(h.2 h0).ext he⟩
 case h0=>exact⟨BoxK.start _,fun _ v hv=>by cases hv⟩
 case hstep =>
  simp only [zS,zD,Nat.reduceAdd,zew,zf6]
  and_intros <;> intro x W st he hK
  ·intro f;have h0:x 1=.pointer (some ⟨g1,0,none⟩):=f.1;clear hK;obtain⟨q0,q1,q2⟩:=(rr1.ext he).p3;go_wp;exact sQ
  ·intro hn f;have h0:_=_:=f.1;have HC:=zH (zod (sR.ext he) (Sl.nil (T:=markT) (w:=W) (S:=fun _=>True) none 0 (by decide)) (lim_stR.small (by decide)) (by decide));have HK2:=zH hK;clear hK;go_wp;refine HC.out.mono ?_;rintro r W2b ⟨u0,u1,u2,u3,rfl,hO,hS,hx2⟩;rw [ybu] at hS;rw [ybf] at hO;have hO2:=(zbb (l:=[]) hO).mono (S':=fun _=>True) (by decide) (fun _ _ _=>trivial);have hS2:=hS.at.mono (S':=fun _=>True) (fun _ _ _=>trivial);have HO2:=zH hO2;have HS2:=zH hS2;clear hO hS hO2 hS2;dsimp only;go_wp;exact za2 (v:=dltV u0 u1 u2 u3) ⟨⟨(HK2.out.1.ext CDl.keep hx2).other (by decide),fun _ v hv=>by rw [zb2] at hv;cases hv;exact⟨u0,u1,u2,u3,rfl,HS2.out,HO2.out⟩⟩,he.trans hx2⟩
  ·intro f;have h0:x 4=.pointer (some ⟨g4,0,none⟩):=f.1;clear hK;obtain⟨q0,q1,q2,q3⟩:=(rr4.ext he).p4;go_wp;exact sQ
  ·intro hn f;have h74:st 1=some (x 74):=f.1;have h75:_=_:=f.2.1
   have h8:st 8=none:=Classical.byContradiction fun hne=>by obtain⟨xs,lo,hi,g,k1,k2,k3,k4,k5⟩:=hK.1;exact (k5 hne).1 hn
   obtain⟨u0,u1,u2,u3,e74,hS2,hO2⟩:=hK.2 h8 (x 74) h74;have HC:=zH (zvu pQ hS2 hO2 (lim_stR.small (by decide)) (by decide));have HK2:=zH hK;clear hK hO2 hS2 f;go_wp;refine HC.out.mono ?_;rintro r W2b ⟨y0,y1,y2,y3,rfl,hn2,hm2,hx2⟩;rw [ybv] at hn2 hm2 ⊢;obtain⟨C0,x0,rfl,-,-⟩:=hm2.form;obtain⟨C1,x1,C2,x2,C3,x3,rfl,rfl,rfl⟩:=hn2.fm;have HN:=zH hn2;clear hn2 hm2;dsimp only;go_wp;exact za2 ⟨⟨HK2.out.1.call (xs:=[.slice C0 0 x0,.slice C1 stT.all.length x1,.slice C2 stT.entries.length x2,.slice C3 stT.pruned.length x3]) (by decide) hn hx2 he.size ⟨C0,x0,C1,x1,C2,x2,C3,x3,rfl,HN.out.mono fun b hb h=>⟨h,hb⟩⟩,fun h=>((HK2.out.2 (by rwa [zah st _ (by decide)] at h)).ext hx2).other (by decide)⟩,he.trans hx2⟩
  ·intro hn f;have h0:st 3=some (x 76):=f.1;have HK2:=zH hK;clear hK;go_wp;exact za2 ⟨⟨HK2.out.1.move (by decide) h0,fun h=>(HK2.out.2 (by rwa [zah st _ (by decide)] at h)).other (by decide)⟩,he⟩
  ·intro hn f;have h0:st 4=some (x 72):=f.1;obtain⟨xs,S,hv,⟨C0,x0,C1,x1,C2,x2,C3,x3,rfl,-⟩,hK2⟩:=hK.1.part (by decide) h0;have HK2:=zH hK2;have HKD:=zH hK.2;clear hK hK2;go_wp;exact za2 ⟨⟨HK2.out,fun h=>(HKD.out (by rwa [zah st _ (by decide)] at h)).other (by decide)⟩,he⟩
  ·intro f;have h0:st 4=some (x 72):=f.1;obtain⟨xs,S,hv,⟨C0,x0,C1,x1,C2,x2,C3,x3,rfl,-⟩,hK2⟩:=hK.1.part (by decide) h0;have HK2:=zH hK2;have HKD:=zH hK.2;clear hK hK2;go_wp;exact sQ
  ·intro hn f;have HK2:=zH hK;clear hK;go_wp;exact za2 ⟨⟨HK2.out.1.alloc CDl.keep (by decide) hn he.size,fun h=>((HK2.out.2 (by rwa [zah st _ (by decide)] at h)).ext ((Ext.refl _).alloc _)).other (by decide)⟩,he.alloc _⟩
  ·intro hn f;have h0:st 7=some (x 17):=f.1;have h1:st 5=some (x 77):=f.2.1;obtain⟨xs,S,g5,hv,hp2,hg2,hr,⟨C0,x0,C1,x1,C2,x2,C3,x3,rfl,-⟩,hfin⟩:=hK.1.store CDl.keep (by decide) h1 h0 hn;obtain⟨r0,r1,r2,r3⟩:=hr.p4;obtain⟨y0,y1,y2,y3⟩:=hr.q4;have hfi:=hfin (zqw W g5 (.slice C0 0 x0) (.slice C1 stT.all.length x1) (.slice C2 stT.entries.length x2) (.slice C3 stT.pruned.length x3)) (.bool true) (zym hr) (by simp [World.size_setCell]) (fun y hy=>zvv W g5 (.slice C0 0 x0) (.slice C1 stT.all.length x1) (.slice C2 stT.entries.length x2) (.slice C3 stT.pruned.length x3) y hy);have hxe:=zyl he hg2 (.slice C0 0 x0) (.slice C1 stT.all.length x1) (.slice C2 stT.entries.length x2) (.slice C3 stT.pruned.length x3);have HK2:=zH hfi;have HXE:=zH hxe;clear hK hfin hfi hxe hr h0 h1;go_wp;exact za2 (v:=.bool true) ⟨⟨HK2.out,fun h=>by rw [zb2] at h;cases h⟩,HXE.out⟩
 case hend =>
  intro x W17 st hxV hK hn f;have h12:st 7=some (x 17):=f.2.2.2.2.2.2.2.1;have e78:x 78=I 0:=f.2.2.2.2.2.2.1;obtain⟨xs,S,g17,e17,hg2,rr17,⟨D0,nD0,D1,nD1,D2,nD2,D3,nD3,rfl,hst⟩,hSg⟩:=hK.1.done h12 (hn 8 (show 8 < 9 by decide) rfl);have sD:=hst.mono (S':=fun _=>True) fun _ _ _=>trivial
  replace rr1:=rr1.ext hxV;replace rr4:=rr4.ext hxV;replace sR:=sR.ext hxV;replace sT:=sT.ext hxV;replace rr8:=rr8.ext hxV;replace eX:=eX.ext hxV;replace rr12:=rr12.ext hxV;replace rr14:=rr14.ext hxV;replace hxw:=hxw.trans hxV;clear hxV hK hn f hst hSg h12;simp only [zS,zD,zU,Nat.reduceAdd,List.filterMap_cons,zav,Act.put,e17,e78]
  have REST:∀ ⦃u15 u19 u20 u21 u22 u23 u24 u25 u26 u27 u28 u29 u30 u31 u32 u33 u34 u35 u36 u37 u38 u39 u40 u41 u42 u43 u44 u45 u46 u47 u48 u49 u50 u51 u52 u53 u54 u55 u56 u57 u58 u59 u60 u61 u62 u63 u64 u65 u66 u67 u68 u69 u70 u71 u72 u73 u74 u75 u76 u77 u78:Value⦄,K ⟨#[.bool false,.pointer (some ⟨g1,0,none⟩),I 0,I 0,.pointer (some ⟨g4,0,none⟩),.pointer (some ⟨g5,0,none⟩),I 170,I 0,.pointer (some ⟨g8,0,none⟩),I 0,I 2,.bool true,.pointer (some ⟨g12,0,none⟩),.bool true,.pointer (some ⟨g14,0,none⟩),u15,I 0,.pointer (some ⟨g17,0,none⟩),I 0,u19,u20,u21,u22,u23,u24,u25,u26,u27,u28,u29,u30,u31,u32,u33,u34,u35,u36,u37,u38,u39,u40,u41,u42,u43,u44,u45,u46,u47,u48,u49,u50,u51,u52,u53,u54,u55,u56,u57,u58,u59,u60,u61,u62,u63,u64,u65,u66,u67,u68,u69,u70,u71,u72,u73,u74,u75,u76,u77,u78,Qa,Qa,Qa,Qa,Qa,Qa,Qa,Qa,Qa,Qa,Qa,Qa,Qa,Qa,Qa,Qa,Qa,Qa,Qa,Qa,Qa,Qa,Qa,Qa,Qa,Qa,Qa,Qa,Qa,Qa,Qa,Qa,Qa,Qa,Qa,Qa,Qa,Qa,Qa,Qa,Qa,Qa,Qa,Qa,Qa,Qa,Qa,Qa,Qa,Qa,Qa,Qa,Qa,Qa,Qa,Qa,Qa,Qa,Qa,Qa,Qa,Qa,Qa,Qa,Qa,Qa,Qa,Qa,Qa,Qa,Qa,Qa,Qa,Qa,Qa,Qa,Qa,Qa,Qa,Qa,Qa,Qa],[]⟩ W17:=by
   intro u15 u19 u20 u21 u22 u23 u24 u25 u26 u27 u28 u29 u30 u31 u32 u33 u34 u35 u36 u37 u38 u39 u40 u41 u42 u43 u44 u45 u46 u47 u48 u49 u50 u51 u52 u53 u54 u55 u56 u57 u58 u59 u60 u61 u62 u63 u64 u65 u66 u67 u68 u69 u70 u71 u72 u73 u74 u75 u76 u77 u78;refine HK.out _ _ ?_;clear HK K;refine wpH ?_;intro K HK;have hgV:=rr1.lt;have k0:=rr8.cell (j:=0) rfl;obtain⟨gm,hgm⟩:∃ g,W17.heap.size=g:=⟨_,rfl⟩
   obtain⟨Wm,hWm⟩:∃ X,W17.alloc (.cells #[St [49],.int .u64 7] 97)=X:=⟨_,rfl⟩
   have hxam:Ext W17 Wm:=(by rw [<- hWm];exact (Ext.refl W17).alloc _);have rrm:RowIs Wm gm 97 [St q1,U 7] []:=(by rw [<- hWm,<- hgm];exact zaf W17 _ _);have HWm:=zH hWm;have HGm:=zH hgm;replace rr1:=rr1.ext hxam;replace rr4:=rr4.ext hxam;replace sR:=sR.ext hxam;replace sT:=sT.ext hxam;replace rr8:=rr8.ext hxam;replace eX:=eX.ext hxam;replace rr12:=rr12.ext hxam;replace rr14:=rr14.ext hxam;replace rr17:=rr17.ext hxam;replace sD:=sD.ext hxam;replace hxw:=hxw.trans hxam;have hltm:g1 < gm:=(by rw [<- hgm];exact hgV);clear hWm hgm hxam;have C:=zH (zhf (A:=[(q1,7)]) (B:=[(q1,7)]) sT.all ((zbb (l:=[(q1,7)]) (zqe (m:=(q1,7)) (base:=0) rrm (Nat.zero_le _)))));rw [decide_eq_true rfl] at C;clear rrm;go_wp2_with fail
   (try rw [HGm.out])
   (try rw [HWm.out])
   clear HWm HGm;refine C.out.mono ?_;clear C k0;rintro r V ⟨rfl,hxV⟩;replace rr1:=rr1.ext hxV;replace rr4:=rr4.ext hxV;replace sR:=sR.ext hxV;replace sT:=sT.ext hxV;replace rr8:=rr8.ext hxV;replace eX:=eX.ext hxV;replace rr12:=rr12.ext hxV;replace rr14:=rr14.ext hxV;replace rr17:=rr17.ext hxV;replace sD:=sD.ext hxV;replace hxw:=hxw.trans hxV;have hgV:g1 < V.heap.size:=Qb rr1.lt (Qc _);have k3:=rr12.cell (j:=3) rfl;clear hxV;obtain⟨gd,hgd⟩:∃ g,V.heap.size=g:=⟨_,rfl⟩
   obtain⟨Wd,hWd⟩:∃ X,V.alloc (.cells #[St [49],.int .u64 7] 59)=X:=⟨_,rfl⟩
   have hxad:Ext V Wd:=(by rw [<- hWd];exact (Ext.refl V).alloc _);have rrd:RowIs Wd gd 59 [St q1,U 7] []:=(by rw [<- hWd,<- hgd];exact zaf V _ _);have HWd:=zH hWd;have HGd:=zH hgd;replace rr1:=rr1.ext hxad;replace rr4:=rr4.ext hxad;replace sR:=sR.ext hxad;replace sT:=sT.ext hxad;replace rr8:=rr8.ext hxad;replace eX:=eX.ext hxad;replace rr12:=rr12.ext hxad;replace rr14:=rr14.ext hxad;replace rr17:=rr17.ext hxad;replace sD:=sD.ext hxad;replace hxw:=hxw.trans hxad;have hltd:g1 < gd:=(by rw [<- hgd];exact hgV);clear hWd hgd hxad;have hgV:=rr1.lt;obtain⟨gi,hgi⟩:∃ g,Wd.heap.size=g:=⟨_,rfl⟩
   obtain⟨Wi,hWi⟩:∃ X,Wd.alloc (.cells #[St [97],.slice (some ⟨gd,0,none⟩) 1 1] 57)=X:=⟨_,rfl⟩
   have hxai:Ext Wd Wi:=(by rw [<- hWi];exact (Ext.refl Wd).alloc _);have rri:RowIs Wi gi 57 [St [97],.slice (some ⟨gd,0,none⟩) 1 1] []:=(by rw [<- hWi,<- hgi];exact zaf Wd _ _);have HWi:=zH hWi;have HGi:=zH hgi;replace rr1:=rr1.ext hxai;replace rr4:=rr4.ext hxai;replace sR:=sR.ext hxai;replace sT:=sT.ext hxai;replace rr8:=rr8.ext hxai;replace eX:=eX.ext hxai;replace rr12:=rr12.ext hxai;replace rr14:=rr14.ext hxai;replace rr17:=rr17.ext hxai;replace sD:=sD.ext hxai;replace rrd:=rrd.ext hxai;replace hxw:=hxw.trans hxai;have hlti:g1 < gi:=(by rw [<- hgi];exact hgV);clear hWi hgi hxai;have hgi:gi=gd+1:=(by rw [<- HGi.out,<- HWd.out,World.size_alloc,HGd.out]);subst hgi;have hds:Sl markT Wi (fun _=>True) (.slice (some ⟨gd,0,none⟩) 1 1) [(q1,7)]:=ybg rrd;have C:=zH (zl7 (A:=[([97],[(q1,7)])]) (B:=[([97],[(q1,7)])]) eX.items (yas rri hds));rw [decide_eq_true rfl] at C;clear rrd rri hds;go_wp2_with fail
   (try rw [HGd.out])
   (try rw [HWd.out])
   (try rw [HGi.out])
   (try rw [HWi.out])
   clear HWd HGd HWi HGi;refine C.out.mono ?_;clear C k3;rintro r V2 ⟨rfl,hxV⟩;replace rr1:=rr1.ext hxV;replace rr4:=rr4.ext hxV;replace sR:=sR.ext hxV;replace sT:=sT.ext hxV;replace rr8:=rr8.ext hxV;replace eX:=eX.ext hxV;replace rr12:=rr12.ext hxV;replace rr14:=rr14.ext hxV;replace rr17:=rr17.ext hxV;replace sD:=sD.ext hxV;replace hxw:=hxw.trans hxV;have hgV:g1 < V2.heap.size:=Qb rr1.lt (Qc _);have y2:=rr8.cell (j:=2) rfl;have y0:=rr8.cell (j:=0) rfl;have y1:=rr8.cell (j:=1) rfl;have z2:=rr14.cell (j:=2) rfl;have d1:=rr17.cell (j:=1) rfl;have d2:=rr17.cell (j:=2) rfl;have d3:=rr17.cell (j:=3) rfl;have C:=zH (zlc sD sT);rw [show zed stT stT=true from sameSt_iff.2 rfl] at C;clear hxV;go_wp2_with fail;refine C.out.mono ?_;clear C y0 y1 y2 z2 d1 d2 d3;rintro r V3 ⟨rfl,hxV⟩;replace rr1:=rr1.ext hxV;replace rr4:=rr4.ext hxV;replace sR:=sR.ext hxV;replace sT:=sT.ext hxV;replace rr8:=rr8.ext hxV;replace eX:=eX.ext hxV;replace rr12:=rr12.ext hxV;replace rr14:=rr14.ext hxV;replace rr17:=rr17.ext hxV;replace sD:=sD.ext hxV;replace hxw:=hxw.trans hxV;have hgV:g1 < V3.heap.size:=Qb rr1.lt (Qc _);clear hxV;obtain⟨kp0,kp1,kp2,kp3⟩:=rr4.p4;have C:=zH (zr5 pQ V3);rw [zsc] at C;go_wp2_with fail;refine C.out.mono ?_;clear C kp0 kp1 kp2 kp3;rintro r V4 ⟨rfl,hxV⟩;replace rr1:=rr1.ext hxV;replace rr4:=rr4.ext hxV;replace sR:=sR.ext hxV;replace sT:=sT.ext hxV;replace rr8:=rr8.ext hxV;replace eX:=eX.ext hxV;replace rr12:=rr12.ext hxV;replace rr14:=rr14.ext hxV;replace rr17:=rr17.ext hxV;replace sD:=sD.ext hxV;replace hxw:=hxw.trans hxV;have hgV:g1 < V4.heap.size:=Qb rr1.lt (Qc _);clear hxV;obtain⟨kp0,kp1,kp2,kp3⟩:=rr4.p4;obtain⟨ka0,ka1,ka2⟩:=rr1.p3;have C:=zH (zk6 pQ zsc sR);rw [yb0] at C;go_wp2_with fail;refine C.out.mono ?_;clear C kp0 kp1 kp2 kp3 ka0 ka1 ka2;rintro r V5 ⟨rfl,hxV⟩;replace rr1:=rr1.ext hxV;replace rr4:=rr4.ext hxV;replace sR:=sR.ext hxV;replace sT:=sT.ext hxV;replace rr8:=rr8.ext hxV;replace eX:=eX.ext hxV;replace rr12:=rr12.ext hxV;replace rr14:=rr14.ext hxV;replace rr17:=rr17.ext hxV;replace sD:=sD.ext hxV;replace hxw:=hxw.trans hxV;have hgV:g1 < V5.heap.size:=Qb rr1.lt (Qc _);clear hxV;obtain⟨kp0,kp1,kp2,kp3⟩:=rr4.p4;obtain⟨ka0,ka1,ka2⟩:=rr8.p3;have C:=zH (zk6 pQ zsc sT);rw [yb1] at C;go_wp2_with fail;refine C.out.mono ?_;clear C kp0 kp1 kp2 kp3 ka0 ka1 ka2;rintro r V6 ⟨rfl,hxV⟩;have HX:=zH (hxw.trans hxV);clear hxV hxw rr1 rr4 sR sT rr8 eX rr12 rr14 rr17 sD;go_wp2_with fail;refine HK.out _ _ ?_;clear HK K;go_wp2_with fail;go_ret;exact⟨rfl,HX.out⟩
  have HRST:=zH REST;clear REST rr1 rr4 sR sT rr8 eX rr12 rr14 rr17 sD;go_wp2_with fail
  apply HRST.out
end
end Go.Proofs.YtaabaflgeljbjaaGreat
