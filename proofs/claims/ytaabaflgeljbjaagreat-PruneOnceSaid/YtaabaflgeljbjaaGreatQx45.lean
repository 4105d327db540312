/- gossamerlaw17.meet: the walk. Printed by pp.py out of src/Meet1.src, src/Meet1.py. -/
import Derived.Test.YtaabaflgeljbjaaGreatQx40
import Derived.Test.YtaabaflgeljbjaaGreatQx39
import Derived.Test.YtaabaflgeljbjaaGreatQx44
import Derived.Test.YtaabaflgeljbjaaGreatQx42
set_option linter.unusedVariables false
set_option linter.unusedSimpArgs false
set_option maxRecDepth 100000
set_option maxHeartbeats 40000000
namespace Go.Proofs.YtaabaflgeljbjaaGreat
open List renaming getElem?_eq_some_iff→Qa,getElem?_eq_getElem→Qb,getElem?_set_self→Qd,filterMap_cons→Qe,length_map→Qg,mem_of_getElem?→Qi,getElem?_set_ne→Qj,mem_singleton→Qk
open Nat renaming reduceAdd→Qc,le_trans→Qh,le_refl→Ql
open Go.RowKit.Below renaming heap_setCell→Qf
section
open Go.RowKit Go.Shelf
structure Keep (N0 R:Nat) (F:Nat->Prop) (w0:World) (rows:List (Nat × Nat × List Value)) (W:World):Prop where
 rows:∀ r ∈ rows,N0<=r.1/\r.1 ≠ R/\RowIs W r.1 r.2.1 r.2.2 []
 size:N0<=W.heap.size
 same:∀ b,F b->b < N0->W.heap[b]? = w0.heap[b]?
section
variable {N0 R:Nat} {F:Nat->Prop} {w0 W W':World} {rows:List (Nat × Nat × List Value)}
theorem Keep.ext (h:Keep N0 R F w0 rows W) (he:Ext W W'):Keep N0 R F w0 rows W':=⟨fun r hr=>⟨(h.rows r hr).1,(h.rows r hr).2.1,(h.rows r hr).2.2.ext he⟩,Qh h.size he.size,fun b hb hl=>(he.block b (Nat.lt_of_lt_of_le hl h.size)).trans (h.same b hb hl)⟩
theorem Keep.set (h:Keep N0 R F w0 rows W) {g j:Nat} (hg:g < N0 ∨ g=R) (hf:¬ F g) (v:Value):Keep N0 R F w0 rows (W.setCell ⟨g,j,none⟩ v):=⟨fun r hr=>by
 obtain⟨h1,h2,h3⟩:=h.rows r hr;exact⟨h1,h2,h3.other (by rintro rfl;rcases hg with hg | hg;omega;exact h2 hg) v⟩,by rw [World.size_setCell];exact h.size,fun b hb hl=>(Qf _ _ _ b (by rintro rfl;exact hf hb)).trans (h.same b hb hl)⟩
end
def KnOld (N0:Nat) (F:Nat->Prop) (vs:List RepV):Prop:=∀ v ∈ vs,∀ b,zad v.kn b->b < N0/\¬ F b
theorem KnOld.set {N0:Nat} {F:Nat->Prop} {vs:List RepV} (h:KnOld N0 F vs) {k:Nat} {v:RepV} (hv:vs[k]? = some v) (s1 s2 s3:Value):KnOld N0 F (vs.set k { v with s1:=s1,s2:=s2,s3:=s3 }):=fun u hu=>by
 rcases zmj hu with rfl | hu
 ·exact h v (Qi hv)
 ·exact h u hu
theorem ydo {rs:List Rep} {m:Nat} (h1:2<=m) (h2:m < 4):meetA rs (m+1)=zmi (meetA rs m) 1 m:=by
 rcases (show m=2 ∨ m=3 by omega) with rfl | rfl <;> rfl
theorem yds {E:List Ev} {rs:List Rep} {vs:List RepV} {va:Value} {base R:Nat} {w:World} (hM:Mem w base R vs rs va E) (hR:RepsOk E 4 rs) (hE:E.length < 200) :
  Calls Tryz.prog 22 #[.slice (some ⟨R,0,none⟩) 4 4,va] w fun r W'=>∃ r0 a b c vs',meetA rs 4 = [r0,a,b,c]/\r=.returned (.tuple #[prV (yc1 a),.bool true])/\Mem W' base R vs' (yc3 r0 a b c 4) va E/\Below base w W'/\∀ b,Free R vs va b->b < w.heap.size->W'.heap[b]? = w.heap[b]?:=by
 obtain⟨AE,nE,rfl,-,-⟩:=hM.ev.form;have hlo:=hM.lo;have hR0:=hM.row.lt;obtain⟨q4,hq4⟩:∃ q,w.heap.size=q:=⟨_,rfl⟩
 have hx0:=(Ext.refl w).alloc (.cells #[.string ⟨#[]⟩,.int .u64 0,.string ⟨#[]⟩,.int .u64 0] 29);have HEV:Hid (¬ zad (.slice AE E.length nE) q4):=zH fun ho=>by have:=(hM.ev.base_le ho).2;omega
 obtain⟨F0,hF0⟩:∃ F:Nat->Prop,Free R vs (.slice AE E.length nE)=F:=⟨_,rfl⟩
 have HFR:Hid (¬ F0 R):=zH (by rw [<- hF0];exact fun h=>h.1 rfl);have HKN:=zH (show KnOld q4 F0 vs from fun v hv b hb=>⟨by rw [<- hq4];exact hM.lt_kn hv hb,by rw [<- hF0];exact fun h=>h.2.1 v hv hb⟩)
 have hkp:Keep q4 R F0 w [(q4,29,[St [],U 0,St [],U 0])] (w.alloc (.cells #[.string ⟨#[]⟩,.int .u64 0,.string ⟨#[]⟩,.int .u64 0] 29)):=⟨fun r hr=>by obtain rfl:=Qk.1 hr;exact⟨Ql _,by show q4 ≠ R;omega,by rw [<- hq4];exact zaf w _ _⟩,by simp;omega,fun b _ hl=>hx0.block b (by omega)⟩
 have hm0:MemX (fun b=>b=q4) (w.alloc (.cells #[.string ⟨#[]⟩,.int .u64 0,.string ⟨#[]⟩,.int .u64 0] 29)) base R vs rs (.slice AE E.length nE) E:=(hM.guard hx0 (q:=q4) (by omega) (by simp;omega)).free fun b hb=>.inr hb
 have hb0:=zcw (Below.refl base w) hM.bl hx0;obtain⟨W0,hW0⟩:∃ X,w.alloc (.cells #[.string ⟨#[]⟩,.int .u64 0,.string ⟨#[]⟩,.int .u64 0] 29)=X:=⟨_,rfl⟩
 rw [hW0] at hkp hm0 hb0;have HM0:=zH hm0;have HB0:=zH hb0;have HKP0:=zH hkp;have HREP:=zH hR;have HEL:=zH hE;have hRq:R < q4:=by omega
 clear hM hR hE hx0 hkp hm0 hb0 hR0;go_enter Tryz.func22,Tryz.ntmps22;refine wpH ?_;intro K HK;go_wp2_with fail
 (try rw [hW0])
 (try rw [hq4])
 clear hW0;have hq4l:w.heap.size<=q4:=by omega
 clear hq4;refine HK.out _ _ ?_;clear HK K;refine wpH ?_;intro K HK;go_wp2_with fail
 go_loopw [6] (fun i wr=>∃ (m:Nat) (us:List RepV),i=I m/\2<=m/\m<=4/\MemX (fun b=>b=q4) wr base R us (meetA rs m) (.slice AE E.length nE) E/\KnOld q4 F0 us/\Keep q4 R F0 w [(q4,29,[St [],U 0,St [],U 0])] wr/\Below base w wr) (fun i _=>4 - (intOf i).toNat)
 case atStart=>exact⟨2,_,rfl,Ql _,by decide,HM0.out,HKN.out,HKP0.out,HB0.out⟩
 case round =>
  obtain⟨m,us,rfl,hm2,hm4,hm,hkn,hkp,hb⟩:=hrel;have HM:=zH hm;have HKN:=zH hkn;have HKP:=zH hkp;have HB:=zH hb;clear hm hkn hkp hb HM0 HKP0 HB0
  by_cases hlt:m < 4
  ·skip
   have HMN:=zH (ydo (rs:=rs) hm2 hlt);have HREP1:=zH (HREP.out.meetA m);obtain⟨rs1,hrs1⟩:∃ x,meetA rs m=x:=⟨_,rfl⟩
   rw [hrs1] at HM HMN HREP1;clear hrs1;obtain⟨r,hr⟩:∃ r,rs1[1]? = some r:=⟨_,Qb (by rw [HREP1.out.len];decide)⟩
   obtain⟨q,hq⟩:∃ q,rs1[m]? = some q:=⟨_,Qb (by rw [HREP1.out.len];exact hlt)⟩
   obtain⟨⟨v1,v2,v3,vk,vq⟩,hv,hrv⟩:=HM.out.get hr;obtain⟨⟨u1,u2,u3,uk,uq⟩,hu,hqv⟩:=HM.out.get hq;obtain⟨A1,a1,A2,a2,A3,a3,rfl,rfl,rfl⟩:=hrv.st.fm;obtain⟨B1,b1,B2,b2,B3,b3,rfl,rfl,rfl⟩:=hqv.st.fm;have HR1:=zH hr;have HQ1:=zH hq;have HV:=zH hv;have HSR:=zH hrv.st;have HSQ:=zH hqv.st;have HLR:=zH (show r.knew.length=E.length by have h:=congrArg List.length (HREP1.out.each 1 _ hr).knew;rw [Qg] at h;exact h);have HLQ:=zH (show q.knew.length=E.length by have h:=congrArg List.length (HREP1.out.each m _ hq).knew;rw [Qg] at h;exact h);have SM1:=zH (((HREP1.out.each 1 _ hr).is.lim HREP1.out.hist ((HREP1.out.each 1 _ hr).vec HREP1.out.few HREP1.out.hist.most)).small (n:=400) (by decide));have SM2:=zH (((HREP1.out.each m _ hq).is.lim HREP1.out.hist ((HREP1.out.each m _ hq).vec HREP1.out.few HREP1.out.hist.most)).small (n:=400) (by decide));have HRC:=zH (fun (X:World) (he:Ext wr X)=>(show X.cell? ⟨R,5,none⟩=some (.slice A1 r.s.all.length a1)/\X.cell? ⟨R,5+1,none⟩=some (.slice A2 r.s.entries.length a2)/\X.cell? ⟨R,5+2,none⟩=some (.slice A3 r.s.pruned.length a3) from ⟨he.cell (HM.out.cell (j:=0) hv rfl),he.cell (HM.out.cell (j:=1) hv rfl),he.cell (HM.out.cell (j:=2) hv rfl)⟩));have HQC:=zH (fun (X:World) (he:Ext wr X)=>(show X.cell? ⟨R,m * 5,none⟩=some (.slice B1 q.s.all.length b1)/\X.cell? ⟨R,m * 5+1,none⟩=some (.slice B2 q.s.entries.length b2)/\X.cell? ⟨R,m * 5+2,none⟩=some (.slice B3 q.s.pruned.length b3) from ⟨he.cell (HM.out.cell (j:=0) hu rfl),he.cell (HM.out.cell (j:=1) hu rfl),he.cell (HM.out.cell (j:=2) hu rfl)⟩));obtain⟨J,hJ⟩:∃ x,zb9 r.s q.s=x:=⟨_,rfl⟩
   have hjr:=yah hr hq;rw [hJ] at hjr;rw [hjr] at HMN;have HJ:=zH hJ;clear hr hq hv hu hrv hqv hJ hjr;go_wp2_with fail;rename_i K9 hK9 K hK;have HK9:=zH hK9;have HK:=zH hK;clear hK hK9;refine zat [fun v _=>v=.slice (some ⟨R,0,none⟩) 4 4,fun v _=>v=.slice (some ⟨R,0,none⟩) 4 4,fun v _=>v=.pointer (some ⟨R,5,none⟩),fun v _=>v=.pointer (some ⟨R,5,none⟩),fun v _=>v=stV (.slice A1 r.s.all.length a1) (.slice A2 r.s.entries.length a2) (.slice A3 r.s.pruned.length a3),fun v _=>v=.slice (some ⟨R,0,none⟩) 4 4,fun v _=>v=I m,fun v _=>v=.pointer (some ⟨R,m * 5,none⟩),fun v _=>v=.pointer (some ⟨R,m * 5,none⟩),fun v _=>v=stV (.slice B1 q.s.all.length b1) (.slice B2 q.s.entries.length b2) (.slice B3 q.s.pruned.length b3),fun v W=>∃ C1 x1 C2 x2 C3 x3,v=stV (.slice C1 J.all.length x1) (.slice C2 J.entries.length x2) (.slice C3 J.pruned.length x3)/\StAt W (fun b=>wr.heap.size<=b) J (.slice C1 J.all.length x1) (.slice C2 J.entries.length x2) (.slice C3 J.pruned.length x3),fun v _=>v=.pointer (some ⟨R,5,none⟩),fun v _=>v=.pointer (some ⟨R,5,none⟩)] rfl (by kernel_rfl) ?hR ?hstep ?hend
   case hR=>simp only [zM];exact⟨kP,kP,kP,kP,kP,kP,kP,kP,kP,kP,fun v _ _ h he=>by obtain⟨C1,x1,C2,x2,C3,x3,e,h⟩:=h;exact⟨C1,x1,C2,x2,C3,x3,e,h.ext he⟩,kP,kP⟩
   case hstep =>
    simp only [zS,zD,Qc,zbj]
    and_intros <;> intro x W he f
    ·have h0:x 0=.slice (some ⟨R,0,none⟩) 4 4:=f.1;go_wp;exact sQ
    ·have h0:x 0=.slice (some ⟨R,0,none⟩) 4 4:=f.1;go_wp;exact sQ
    iterate 2 · have h0:_=_:=f.1;go_wp;exact sQ
    ·have h0:_=_:=f.1;obtain⟨c0,c1,c2⟩:=HRC.out W he;go_wp;exact sQ
    ·have h0:x 0=.slice (some ⟨R,0,none⟩) 4 4:=f.1;go_wp;exact sQ
    ·have h0:x 6=I m:=f.1;go_wp;exact sQ
    ·have h0:_=_:=f.1;have h1:_=_:=f.2.1;go_wp;exact sQ
    ·have h0:_=_:=f.1;go_wp;exact sQ
    ·have h0:_=_:=f.1;obtain⟨c0,c1,c2⟩:=HQC.out W he;go_wp;exact sQ
    ·have h0:_=_:=f.1;have h1:_=_:=f.2.1;have HC:=zH (zib (HSR.out.ext he) (HSQ.out.ext he) SM1.out SM2.out);rw [HJ.out] at HC;go_wp;refine HC.out.mono ?_;rintro e X ⟨z1,z2,z3,rfl,hn,hx2⟩;obtain⟨C1,x1,C2,x2,C3,x3,rfl,rfl,rfl⟩:=hn.fm;have HN:=zH hn.at;clear hn;dsimp only;go_wp;exact zaa ⟨C1,x1,C2,x2,C3,x3,rfl,HN.out.mono fun b _ h=>Qh he.size h⟩ hx2
    iterate 2 · have h0:_=_:=f.1;go_wp;exact sQ
   case hend =>
    intro x Wz hxz f;have e32:x 32=.pointer (some ⟨R,5,none⟩):=f.2.2.2.2.2.2.2.2.2.2.2.2.1;obtain⟨C1,x1,C2,x2,C3,x3,e30,hst⟩:=f.2.2.2.2.2.2.2.2.2.2.1;clear f;have HNS:=zH (hst.mono fun b _ hb=>HM.out.free_new hb);have HB:=zH (zcw HB.out HM.out.bl hxz);have HKP:=zH (HKP.out.ext hxz);have HM:=zH (HM.out.ext hxz);have c0:Wz.cell? ⟨R,5,none⟩=_:=HM.out.cell (j:=0) HV.out rfl;have c1:Wz.cell? ⟨R,5+1,none⟩=_:=HM.out.cell (j:=1) HV.out rfl;have c2:Wz.cell? ⟨R,5+2,none⟩=_:=HM.out.cell (j:=2) HV.out rfl;have z0:=HM.out.row.frozen (5);have z1:=HM.out.row.frozen (5+1);have z2:=HM.out.row.frozen (5+2);clear hst hxz;simp only [zS,zD,zU,Qc,Qe,zav,Act.put,e30,e32];go_wp;refine HK.out _ _ ?_;clear HK K c0 c1 c2 z0 z1 z2 HRC HQC;have hlR:=HM.out.lo;have hm3:MemX (fun b=>b=q4) (((Wz.setCell ⟨R,5,none⟩ (.slice C1 J.all.length x1)).setCell ⟨R,6,none⟩ (.slice C2 J.entries.length x2)).setCell ⟨R,7,none⟩ (.slice C3 J.pruned.length x3)) base R _ _ (.slice AE E.length nE) E:=HM.out.putS (k:=1) HV.out HR1.out HNS.out;have hb3:Below base w (((Wz.setCell ⟨R,5,none⟩ (.slice C1 J.all.length x1)).setCell ⟨R,6,none⟩ (.slice C2 J.entries.length x2)).setCell ⟨R,7,none⟩ (.slice C3 J.pruned.length x3)):=((HB.out.setCell hlR _).setCell hlR _).setCell hlR _;have hkp3:Keep q4 R F0 w [(q4,29,[St [],U 0,St [],U 0])] (((Wz.setCell ⟨R,5,none⟩ (.slice C1 J.all.length x1)).setCell ⟨R,6,none⟩ (.slice C2 J.entries.length x2)).setCell ⟨R,7,none⟩ (.slice C3 J.pruned.length x3)):=((HKP.out.set (.inr rfl) HFR.out _).set (.inr rfl) HFR.out _).set (.inr rfl) HFR.out _;have hkn3:=HKN.out.set HV.out (.slice C1 J.all.length x1) (.slice C2 J.entries.length x2) (.slice C3 J.pruned.length x3);obtain⟨W3,hW3⟩:∃ X,(((Wz.setCell ⟨R,5,none⟩ (.slice C1 J.all.length x1)).setCell ⟨R,6,none⟩ (.slice C2 J.entries.length x2)).setCell ⟨R,7,none⟩ (.slice C3 J.pruned.length x3))=X:=⟨_,rfl⟩
    rw [hW3] at hm3 hb3 hkp3 ⊢;clear hW3;have HM:=zH hm3;have HB:=zH hb3;have HKP:=zH hkp3;obtain⟨us2,hus2⟩:∃ x,us.set 1 (⟨.slice C1 J.all.length x1,.slice C2 J.entries.length x2,.slice C3 J.pruned.length x3,vk,vq⟩:RepV)=x:=⟨_,rfl⟩
    replace hkn3:KnOld q4 F0 us2:=hus2 ▸ hkn3;have HKN:=zH hkn3;obtain⟨rs2,hrs2⟩:∃ x,rs1.set 1 { r with s:=J }=x:=⟨_,rfl⟩
    have h2:rs2[1]? = some { r with s:=J }:=(by rw [<- hrs2];exact Qd (Qa.1 HR1.out).1);have hq2:rs2[m]? = some q:=(by rw [<- hrs2,Qj (by omega)];exact HQ1.out);obtain⟨r2,hr2⟩:∃ x:Rep,({ r with s:=J }:Rep)=x:=⟨_,rfl⟩
    rw [hr2] at h2;have hrk:r2.knew=r.knew:=(by rw [<- hr2]);have HR2:=zH h2;have HQ2:=zH hq2;have HLR:=zH (show r2.knew.length=E.length by rw [hrk];exact HLR.out);have HFIN:=zH (show rs2.set 1 { r2 with knew:=orL r2.knew q.knew }=rs1.set 1 { r with s:=J,knew:=orL r.knew q.knew } by rw [hrk,<- hrs2,<- hr2,zhu]);rw [hrs2] at HM;replace HM:Hid (MemX (fun b=>b=q4) W3 base R us2 rs2 (.slice AE E.length nE) E):=hus2 ▸ HM;clear hus2 hm3 hb3 hkp3 hkn3 hlR h2 hq2 hrk hr2 hrs2 HNS HV HR1 HQ1 HSR HSQ SM1 SM2 HJ HREP1 e30 e32;go_wp2_with fail
    go_loopw [7] (fun i wr=>∃ (j:Nat),i=I j/\j<=E.length/\MemX (fun b=>b=q4) wr base R us2 (rs2.set 1 { r2 with knew:=orP r2.knew q.knew j }) (.slice AE E.length nE) E/\Keep q4 R F0 w [(q4,29,[St [],U 0,St [],U 0])] wr/\Below base w wr) (fun i _=>E.length - (intOf i).toNat)
    case atStart=>exact⟨0,rfl,Nat.zero_le _,by rw [zr1,zrw HR2.out];exact HM.out,HKP.out,HB.out⟩
    case round =>
     clear HKP HB HM;obtain⟨j,rfl,hjn,hm,hkp,hb⟩:=hrel;have hel:=HEL.out
     by_cases hj:j < E.length
     ·obtain⟨x,hx⟩:∃ x,r2.knew[j]? = some x:=⟨_,Qb (by rw [HLR.out];exact hj)⟩
      obtain⟨y,hy⟩:∃ y,q.knew[j]? = some y:=⟨_,Qb (by rw [HLQ.out];exact hj)⟩
      obtain⟨q3,hq3,hy3⟩:=zp7 HR2.out HQ2.out hx hy;have hr3:(rs2.set 1 { r2 with knew:=orP r2.knew q.knew j })[1]? = some { r2 with knew:=orP r2.knew q.knew j }:=Qd (Qa.1 HR2.out).1;have HSC:=zH (zr3 hx hy);have hx3:(orP r2.knew q.knew j)[j]? = some x:=(by rw [zr2];exact hx);have hdr:Ext wr wr.drew:=(Ext.refl wr).drew;have hmd:=hm.drew;have hkd:=hkp.ext hdr;obtain⟨Wd,hWd⟩:∃ X,wr.drew=X:=⟨_,rfl⟩
      rw [hWd] at hmd hdr hkd;obtain⟨vb,hvb,hrb⟩:=hmd.get hr3;obtain⟨vc,hvc,hrc⟩:=hmd.get hq3;obtain⟨g1,c1,e1,-,-,b1,z1⟩:=hrb.bit hx3;obtain⟨g2,c2,e2,-,-,b2,-⟩:=hrc.bit hy3;simp only [zem] at e1;have k1:Wd.cell? ⟨R,8,none⟩=some vb.kn:=hmd.cell (j:=3) hvb rfl;have k2:Wd.cell? ⟨R,m * 5+3,none⟩=some vc.kn:=hmd.cell (j:=3) hvc rfl;rw [e1] at k1;rw [e2] at k2;have HMD:=zH hmd;have HVB:=zH hvb;have HE1:=zH e1;have HR3:=zH hr3;have HKP:=zH hkd;have hsz:=hm.bl;have HB:=zH (zcw hb hsz hdr);have hjr:j < r2.knew.length:=(by rw [HLR.out];exact hj);have hjq:j < q3.knew.length:=(Qa.1 hy3).1;have hob:zad vb.kn g1:=⟨g1,_,c1,e1,by obtain⟨A,c,e,h1,h2⟩:=hrb.kn.form;rw [e1] at e;injection e with _ _ e3;subst e3;simp only [zem] at h1;omega,rfl⟩
      have hgb:base<=g1:=(hrb.kn.base_le hob).1;obtain⟨hgq,hgf⟩:=HKN.out vb (Qi hvb) g1 hob;have HWD:=zH hWd;clear hm hb hx hy hq3 hy3 hvc hrb hrc hdr hmd hkd hkp hvb hob e1 e2 hr3 hx3 hWd hsz;go_wp2_with fail
      cases x with
      | true =>
       refine wp_region_still_tail 22 (by kernel_rfl) (by kernel_rfl) ?_;simp only [zD];change wpStill _ _ (wr).drew (fun a'=>wpList _ _ _ _ a' (wr).drew) _ _;rw [HWD.out];generalize hA:Act.mk _ _=A0;repeat (refine wpStill_step (fun K2 hK2=>?_);subst hA;go_simp;(try rw [zN (by decide)]);generalize hA:Act.mk _ _=A0;refine hK2 A0 ?_;clear hK2 K2)
       refine wpStill_nil ?_;subst hA;go_wp2_with fail;go_roundw
       case rel=>exact⟨j+1,by simp,hj,by have h:=HMD.out.setKnew HVB.out HR3.out (by simp only [zem];exact hjr) (by simp only [zem];exact HE1.out) true;have h2:=HSC.out;simp only [Bool.true_or] at h2;simp only [h2,zhu] at h;exact h,HKP.out.set (.inl hgq) hgf _,HB.out.setCell hgb _⟩
       case measure=>simp [intOf];omega
      | false =>
       refine wp_region_still_tail 22 (by kernel_rfl) (by kernel_rfl) ?_;simp only [zD];change wpStill _ _ (wr).drew (fun a'=>wpList _ _ _ _ a' (wr).drew) _ _;rw [HWD.out];generalize hA:Act.mk _ _=A0;repeat (refine wpStill_step (fun K2 hK2=>?_);subst hA;go_simp;(try rw [zN (by decide)]);generalize hA:Act.mk _ _=A0;refine hK2 A0 ?_;clear hK2 K2)
       refine wpStill_nil ?_;subst hA;go_wp2_with fail;go_roundw
       case rel=>exact⟨j+1,by simp,hj,by have h:=HMD.out.setKnew HVB.out HR3.out (by simp only [zem];exact hjr) (by simp only [zem];exact HE1.out) y;have h2:=HSC.out;simp only [Bool.false_or] at h2;simp only [h2,zhu] at h;exact h,HKP.out.set (.inl hgq) hgf _,HB.out.setCell hgb _⟩
       case measure=>simp [intOf];omega
     ·obtain rfl:j=E.length:=by omega
      have HM5:=zH hm;have HKP:=zH hkp;have HB:=zH hb;clear hm hkp hb;go_wp2_with fail;refine HK9.out _ _ ?_;clear HK9;go_wp2_with fail;go_roundw
      case measure=>simp [intOf];omega
      case rel=>exact⟨m+1,us2,by simp,by omega,by omega,by rw [HMN.out,<- HFIN.out];have h:=HM5.out;rwa [zt0 HLR.out HLQ.out] at h,HKN.out,HKP.out,HB.out⟩
  ·obtain rfl:m=4:=by omega
   obtain⟨r0,a,b,c,hrs4⟩:=yax (HREP.out.meetA 4).len;have HMT:=zH (HREP.out.met hrs4);have hrep4:=HREP.out.meetA 4;rw [hrs4] at hrep4 HM;have HRS4:=zH hrs4;have HH:=zH hrep4.hist;have hra:=hrep4.each 1 a rfl;have hrb:=hrep4.each 2 b rfl;have hrc:=hrep4.each 3 c rfl;have SMa:=zH ((hra.is.lim HH.out (hra.vec hrep4.few HH.out.most)).small (n:=400) (by decide));have SMb:=zH ((hrb.is.lim HH.out (hrb.vec hrep4.few HH.out.most)).small (n:=400) (by decide));have SMc:=zH ((hrc.is.lim HH.out (hrc.vec hrep4.few HH.out.most)).small (n:=400) (by decide));have hnb:ofM a.s.all (zac 0) < 18446744073709551616:=(by have:=hra.most (zac 0);have:=HH.out.most;omega);have HLa:=zH (show a.knew.length=E.length by rw [hra.knew,Qg]);have HLb:=zH (show b.knew.length=E.length by rw [hrb.knew,Qg]);have HLc:=zH (show c.knew.length=E.length by rw [hrc.knew,Qg]);obtain⟨⟨v1,v2,v3,vk,vq⟩,hv,hrv⟩:=HM.out.get (k:=1) (r:=a) rfl;obtain⟨A1,a1,A2,a2,A3,a3,rfl,rfl,rfl⟩:=hrv.st.fm;have HV:=zH hv;have HSA:=zH hrv.st;have HRC:=zH (fun (X:World) (he:Ext wr X)=>(show X.cell? ⟨R,5,none⟩=some (.slice A1 a.s.all.length a1)/\X.cell? ⟨R,5+1,none⟩=some (.slice A2 a.s.entries.length a2)/\X.cell? ⟨R,5+2,none⟩=some (.slice A3 a.s.pruned.length a3) from ⟨he.cell (HM.out.cell (j:=0) hv rfl),he.cell (HM.out.cell (j:=1) hv rfl),he.cell (HM.out.cell (j:=2) hv rfl)⟩));have hqw:q4<=wr.heap.size:=Nat.le_of_lt (HKP.out.rows _ (Qk.2 rfl)).2.2.lt;obtain⟨W4,rfl⟩:∃ X:World,X=wr:=⟨_,rfl⟩
   clear hrep4 hrs4 hra hrb hrc hv hrv hm2 hm4 hlt HREP
   (try rw [show ((4:Nat):Int)=4 from rfl])
   go_wp2_with fail;refine HK.out _ _ ?_;clear HK;refine wpH ?_;intro K HK;refine zat [fun v _=>v=.slice (some ⟨R,0,none⟩) 4 4,fun v _=>v=.pointer (some ⟨R,5,none⟩),fun v _=>v=.pointer (some ⟨R,5,none⟩),fun v _=>v=.pointer (some ⟨R,5,none⟩),fun v _=>v=.slice A1 a.s.all.length a1,fun v _=>v=U (ofM a.s.all (zac 0)),fun v _=>v=.slice (some ⟨R,0,none⟩) 4 4,fun v _=>v=.pointer (some ⟨R,5,none⟩),fun v _=>v=.pointer (some ⟨R,5,none⟩),fun v _=>v=.pointer (some ⟨R,5,none⟩),fun v _=>v=.slice A1 a.s.all.length a1,fun v _=>v=U (ofM a.s.all (zac 1)),fun v _=>v=.agg #[St (zac 0),U (ofM a.s.all (zac 0)),St (zac 1),U (ofM a.s.all (zac 1))],fun v W=>∃ g,v=.pointer (some ⟨g,0,none⟩)/\W4.heap.size<=g/\RowIs W g 29 [St [],U 0,St [],U 0] []] rfl (by kernel_rfl) ?hR ?hstep ?hend
   case hR=>simp only [zM];exact⟨kP,kP,kP,kP,kP,kP,kP,kP,kP,kP,kP,kP,kP,fun v _ _ h he=>by obtain⟨g,e,h1,h2⟩:=h;exact⟨g,e,h1,h2.ext he⟩⟩
   case hstep =>
    simp only [zS,zD,Qc,zbj]
    and_intros <;> intro x W he f
    ·have h0:x 0=.slice (some ⟨R,0,none⟩) 4 4:=f.1;go_wp;exact sQ
    iterate 3 · have h0:_=_:=f.1;go_wp;exact sQ
    ·have h0:_=_:=f.1;obtain⟨c0,c1,c2⟩:=HRC.out W he;go_wp;exact sQ
    ·have h0:_=_:=f.1;have HC:=zH (ze1 (zac 0) (HSA.out.all.ext (by decide) he));go_wp;refine HC.out.mono ?_;rintro r W3 ⟨rfl,hx3⟩;dsimp only;go_wp;exact zaa rfl hx3
    ·have h0:x 0=.slice (some ⟨R,0,none⟩) 4 4:=f.1;go_wp;exact sQ
    iterate 3 · have h0:_=_:=f.1;go_wp;exact sQ
    ·have h0:_=_:=f.1;obtain⟨c0,c1,c2⟩:=HRC.out W he;go_wp;exact sQ
    ·have h0:_=_:=f.1;have HC:=zH (ze1 (zac 1) (HSA.out.all.ext (by decide) he));go_wp;refine HC.out.mono ?_;rintro r W3 ⟨rfl,hx3⟩;dsimp only;go_wp;exact zaa rfl hx3
    ·have h0:_=_:=f.1;have h1:_=_:=f.2.1;go_wp;exact sQ
    ·have hs:=he.size;have hrow:=zaf W 29 [St [],U 0,St [],U 0];go_wp;exact zaa ⟨_,rfl,hs,hrow⟩ ((Ext.refl W).alloc _)
   case hend =>
    intro x W2 hx1 f;have e74:x 74=.agg #[St (zac 0),U (ofM a.s.all (zac 0)),St (zac 1),U (ofM a.s.all (zac 1))]:=f.2.2.2.2.2.2.2.2.2.2.2.2.1;obtain⟨g8,e8,hg8,r8⟩:=f.2.2.2.2.2.2.2.2.2.2.2.2.2.1;obtain⟨s0,r1,r2,r3⟩:=r8.p4;obtain⟨y0,y1,y2,y3⟩:=r8.q4;have k0:RowIs ((((W2.setCell ⟨g8,0,none⟩ (St (zac 0))).setCell ⟨g8,1,none⟩ (U (ofM a.s.all (zac 0)))).setCell ⟨g8,2,none⟩ (St (zac 1))).setCell ⟨g8,3,none⟩ (U (ofM a.s.all (zac 1)))) g8 29 [St (zac 0),U (ofM a.s.all (zac 0)),St (zac 1),U (ofM a.s.all (zac 1))] []:=ybj r8;have kx:Ext W4 ((((W2.setCell ⟨g8,0,none⟩ (St (zac 0))).setCell ⟨g8,1,none⟩ (U (ofM a.s.all (zac 0)))).setCell ⟨g8,2,none⟩ (St (zac 1))).setCell ⟨g8,3,none⟩ (U (ofM a.s.all (zac 1)))):=(((hx1.set hg8 _).set hg8 _).set hg8 _).set hg8 _;obtain⟨W5,hW5⟩:∃ X,((((W2.setCell ⟨g8,0,none⟩ (St (zac 0))).setCell ⟨g8,1,none⟩ (U (ofM a.s.all (zac 0)))).setCell ⟨g8,2,none⟩ (St (zac 1))).setCell ⟨g8,3,none⟩ (U (ofM a.s.all (zac 1))))=X:=⟨_,rfl⟩
    rw [hW5] at k0 kx;have HW5:=zH hW5;have HR8:=zH k0;have HX5:=zH kx;clear hx1 f r8 k0 kx hW5;simp only [zS,zD,zU,Qc,Qe,zav,Act.put,e74,e8];go_wp
    (try rw [HW5.out])
    refine HK.out _ _ ?_;clear HK K s0 r1 r2 r3 y0 y1 y2 y3 HW5 e74 e8;have HM:=zH (HM.out.ext HX5.out);have HB:=zH (zcw HB.out (show base<=W4.heap.size by omega) HX5.out);have HKP:=zH (HKP.out.ext HX5.out);have HSA:=zH (HSA.out.ext HX5.out);have HRC:=zH (fun (X:World) (he:Ext W5 X)=>HRC.out X (HX5.out.trans he));have hq5:=Qh hqw HX5.out.size;obtain⟨SS,hSS⟩:∃ x,yc0 a=x:=⟨_,rfl⟩
    have HRES:=zH (show zee a.s (zac 1) (ofM a.s.all (zac 0))=(SS,0) by rw [<- hSS];exact HMT.out.res);have hg8R:g8 ≠ R:=(by omega);have hg8q:q4<=g8:=(by omega);clear HX5;refine wpH ?_;intro K HK;refine zc7 [some fun v=>v=.slice (some ⟨R,0,none⟩) 4 4,some fun v=>v=.pointer (some ⟨R,5,none⟩),some fun v=>v=.pointer (some ⟨R,5,none⟩),some fun v=>v=stV (.slice A1 a.s.all.length a1) (.slice A2 a.s.entries.length a2) (.slice A3 a.s.pruned.length a3),some fun v=>v=.pointer (some ⟨g8,2,none⟩),some fun v=>v=St (zac 1),some fun v=>v=.pointer (some ⟨g8,1,none⟩),some fun v=>v=U (ofM a.s.all (zac 0)),none,none,none,some fun v=>v=I 0,none,none] (fun st w'=>BoxK W5.heap.size 26 zol (CSt W5.heap.size SS) (tupS 0) agS 8 9 10 12 13 st w') rfl (by kernel_rfl) ?hK ?h0 ?hstep ?hend
    case hK=>exact fun st w w' h he=>h.ext CSt.keep he
    case h0=>exact BoxK.start _
    case hstep =>
     simp only [zS,zD,Qc,zew,zf6]
     and_intros <;> intro x W st he hK
     ·intro f;have h0:x 0=.slice (some ⟨R,0,none⟩) 4 4:=f.1;clear hK;go_wp;exact sQ
     ·intro f;have h0:_=_:=f.1;clear hK;go_wp;exact sQ
     ·intro f;have h0:_=_:=f.1;clear hK;go_wp;exact sQ
     ·intro f;have h0:_=_:=f.1;clear hK;obtain⟨c0,c1,c2⟩:=HRC.out W he;go_wp;exact sQ
     ·intro f;have h0:x 8=.pointer (some ⟨g8,0,none⟩):=f.1;clear hK;go_wp;exact sQ
     ·intro f;have h0:_=_:=f.1;clear hK;have d2:=(HR8.out.ext he).cell (j:=2) rfl;go_wp;exact sQ
     ·intro f;have h0:x 8=.pointer (some ⟨g8,0,none⟩):=f.1;clear hK;go_wp;exact sQ
     ·intro f;have h0:_=_:=f.1;clear hK;have d1:=(HR8.out.ext he).cell (j:=1) rfl;go_wp;exact sQ
     ·intro hn f;have h0:_=_:=f.1;have h1:_=_:=f.2.1;have h2:_=_:=f.2.2.1;have HC:=zH (zl0 (zac 1) (ofM a.s.all (zac 0)) hnb (HSA.out.ext he) SMa.out);rw [HRES.out] at HC;have HK2:=zH hK;clear hK f;go_wp;refine HC.out.mono ?_;rintro r X ⟨u1,u2,u3,rfl,hn2,hx2⟩;obtain⟨C1,x1,C2,x2,C3,x3,rfl,rfl,rfl⟩:=hn2.fm;have HN:=zH hn2;clear hn2;dsimp only;go_wp;exact za2 ⟨HK2.out.call (xs:=[.slice C1 SS.all.length x1,.slice C2 SS.entries.length x2,.slice C3 SS.pruned.length x3]) (by decide) hn hx2 he.size ⟨C1,x1,C2,x2,C3,x3,rfl,HN.out.mono fun b hb h=>⟨⟨h,hb⟩,Qh he.size h⟩⟩,he.trans hx2⟩
     ·intro hn f;have h0:st 8=some (x 84):=f.1;have HK2:=zH (hK.move (by decide) h0);clear hK;go_wp;exact za2 ⟨HK2.out,he⟩
     ·intro hn f;have h0:st 9=some (x 75):=f.1;obtain⟨xs,S,hv,⟨C1,x1,C2,x2,C3,x3,rfl,-⟩,hK2⟩:=hK.part (by decide) h0;have HK2:=zH hK2;clear hK hK2;go_wp;exact za2 ⟨HK2.out,he⟩
     ·intro f;have h0:st 9=some (x 75):=f.1;obtain⟨xs,S,hv,⟨C1,x1,C2,x2,C3,x3,rfl,-⟩,hK2⟩:=hK.part (by decide) h0;have HK2:=zH hK2;clear hK hK2;go_wp;exact sQ
     ·intro hn f;have HK2:=zH hK;clear hK;go_wp;exact za2 ⟨HK2.out.alloc CSt.keep (by decide) hn he.size,he.alloc _⟩
     ·intro hn f;have h0:st 12=some (x 9):=f.1;have h1:st 10=some (x 85):=f.2.1;obtain⟨xs,S,g5,hv,hp2,hg2,hr,⟨C1,x1,C2,x2,C3,x3,rfl,-⟩,hfin⟩:=hK.store CSt.keep (by decide) h1 h0 hn;obtain⟨r0,r1,r2⟩:=hr.p3;obtain⟨y0,y1,y2⟩:=hr.q3;have hfi:=hfin (((W.setCell ⟨g5,0,none⟩ (.slice C1 SS.all.length x1)).setCell ⟨g5,1,none⟩ (.slice C2 SS.entries.length x2)).setCell ⟨g5,2,none⟩ (.slice C3 SS.pruned.length x3)) (.bool true) (zi0 hr) (Nat.le_of_eq (zjl W g5 (.slice C1 SS.all.length x1) (.slice C2 SS.entries.length x2) (.slice C3 SS.pruned.length x3)).symm) (fun y hy=>zht W g5 (.slice C1 SS.all.length x1) (.slice C2 SS.entries.length x2) (.slice C3 SS.pruned.length x3) y hy);have hxe:=zi1 he hg2 (.slice C1 SS.all.length x1) (.slice C2 SS.entries.length x2) (.slice C3 SS.pruned.length x3);have HK2:=zH hfi;have HXE:=zH hxe;clear hK hfin hfi hxe hr h0 h1;go_wp;exact za2 (v:=.bool true) ⟨HK2.out,HXE.out⟩
    case hend =>
     intro x W6 st hx1 hK hn f;have h12:st 12=some (x 9):=f.2.2.2.2.2.2.2.2.2.2.2.2.1;have e11:x 86=I 0:=f.2.2.2.2.2.2.2.2.2.2.2.1;obtain⟨xs,S,g9,e12,hg2,hrow,⟨B1,b1,B2,b2,B3,b3,rfl,hst⟩,hSg⟩:=hK.done h12 (hn 13 (show 13 < 14 by decide) rfl);have HR9:=zH hrow;have HSS:=zH (hst.mono fun b _ hb=>HM.out.free_new hb.2);have HX6:=zH hx1;clear hK hn f hrow hst hSg h12 hx1;simp only [zS,zD,zU,Qc,Qe,zav,Act.put,e12,e11];go_wp;refine HK.out _ _ ?_;clear HK K e12 e11;have hsz6:=HX6.out.size;have HB:=zH (zcw HB.out (show base<=W5.heap.size by omega) HX6.out);have HKP:=zH (HKP.out.ext HX6.out);have HR8:=zH (HR8.out.ext HX6.out);have HM:=zH (HM.out.ext HX6.out)
     have hkp6:Keep q4 R F0 w [(q4,29,[St [],U 0,St [],U 0]),(g8,29,prC (yc1 a)),(g9,26,[.slice B1 SS.all.length b1,.slice B2 SS.entries.length b2,.slice B3 SS.pruned.length b3])] W6:=⟨fun r hr=>by
      simp only [List.mem_cons,List.not_mem_nil,or_false] at hr;rcases hr with rfl | rfl | rfl
      ·exact HKP.out.rows _ (Qk.2 rfl)
      ·exact⟨hg8q,hg8R,HR8.out⟩
      ·exact⟨by show q4<=g9;omega,by show g9 ≠ R;omega,HR9.out⟩,HKP.out.size,HKP.out.same⟩
     have HKP:=zH hkp6;clear hkp6 HX6 HR8 HRC HSA HRES;refine wpH ?_;intro K HK;go_wp2_with fail;refine HK.out _ _ ?_;clear HK K;have HSE:=zH hSS;have hlR:=HM.out.lo
     have hm3:MemX (fun b=>b=q4) (((W6.setCell ⟨R,5,none⟩ (.slice B1 SS.all.length b1)).setCell ⟨R,6,none⟩ (.slice B2 SS.entries.length b2)).setCell ⟨R,7,none⟩ (.slice B3 SS.pruned.length b3)) base R (us.set 1 ⟨.slice B1 SS.all.length b1,.slice B2 SS.entries.length b2,.slice B3 SS.pruned.length b3,vk,vq⟩) (yc3 r0 a b c 2) (.slice AE E.length nE) E:=by have h:=HM.out.putS (k:=1) (r:=a) HV.out rfl HSS.out;rw [show yc3 r0 a b c 2 = [r0,{ a with s:=SS },b,c] by rw [<- hSS];rfl];exact h
     have hb3:Below base w (((W6.setCell ⟨R,5,none⟩ (.slice B1 SS.all.length b1)).setCell ⟨R,6,none⟩ (.slice B2 SS.entries.length b2)).setCell ⟨R,7,none⟩ (.slice B3 SS.pruned.length b3)):=((HB.out.setCell hlR _).setCell hlR _).setCell hlR _;have hkp3:Keep q4 R F0 w [(q4,29,[St [],U 0,St [],U 0]),(g8,29,prC (yc1 a)),(g9,26,[.slice B1 SS.all.length b1,.slice B2 SS.entries.length b2,.slice B3 SS.pruned.length b3])] (((W6.setCell ⟨R,5,none⟩ (.slice B1 SS.all.length b1)).setCell ⟨R,6,none⟩ (.slice B2 SS.entries.length b2)).setCell ⟨R,7,none⟩ (.slice B3 SS.pruned.length b3)):=((HKP.out.set (.inr rfl) HFR.out _).set (.inr rfl) HFR.out _).set (.inr rfl) HFR.out _;have hkn3:=HKN.out.set HV.out (.slice B1 SS.all.length b1) (.slice B2 SS.entries.length b2) (.slice B3 SS.pruned.length b3);have hv3:=Qd (a:=(⟨.slice B1 SS.all.length b1,.slice B2 SS.entries.length b2,.slice B3 SS.pruned.length b3,vk,vq⟩:RepV)) (Qa.1 HV.out).1;have c0:W6.cell? ⟨R,5,none⟩=_:=HM.out.cell (j:=0) HV.out rfl;have c1:W6.cell? ⟨R,6,none⟩=_:=HM.out.cell (j:=1) HV.out rfl;have c2:W6.cell? ⟨R,7,none⟩=_:=HM.out.cell (j:=2) HV.out rfl;have z0:=HM.out.row.frozen 5;have z1:=HM.out.row.frozen 6;have z2:=HM.out.row.frozen 7;obtain⟨d0,d1,d2⟩:=HR9.out.p3;obtain⟨W7,hW7⟩:∃ X,(((W6.setCell ⟨R,5,none⟩ (.slice B1 SS.all.length b1)).setCell ⟨R,6,none⟩ (.slice B2 SS.entries.length b2)).setCell ⟨R,7,none⟩ (.slice B3 SS.pruned.length b3))=X:=⟨_,rfl⟩
     rw [hW7] at hm3 hb3 hkp3;have HM:=zH hm3;have HB:=zH hb3;have HKP:=zH hkp3;have HKN:=zH hkn3;have HV3:=zH hv3;clear hm3 hb3 hkp3 hkn3 hv3 hlR HV HSS hSS;refine wpH ?_;intro K HK;go_wp2_with fail
     (try rw [hW7])
     refine HK.out _ _ ?_;clear HK K;clear hW7 c0 c1 c2 z0 z1 z2 d0 d1 d2 HR9 SMa hnb;refine wpH ?_;intro K HK;go_wp2_with fail
     go_loopw [11] (fun i wr=>∃ (m:Nat) (us:List RepV) (vk vq:Value),i=I m/\2<=m/\m<=4/\MemX (fun b=>b=q4) wr base R us (yc3 r0 a b c m) (.slice AE E.length nE) E/\us[1]? = some ⟨.slice B1 SS.all.length b1,.slice B2 SS.entries.length b2,.slice B3 SS.pruned.length b3,vk,vq⟩/\KnOld q4 F0 us/\Keep q4 R F0 w [(q4,29,[St [],U 0,St [],U 0]),(g8,29,prC (yc1 a)),(g9,26,[.slice B1 SS.all.length b1,.slice B2 SS.entries.length b2,.slice B3 SS.pruned.length b3])] wr/\Below base w wr) (fun i _=>4 - (intOf i).toNat)
     case atStart=>exact⟨2,_,_,_,rfl,Ql _,by decide,HM.out,HV3.out,HKN.out,HKP.out,HB.out⟩
     case round =>
      clear HM HV3 HKN HKP HB;obtain⟨m,us,vk,vq,rfl,hm2,hm4,hm,hu,hkn,hkp,hb⟩:=hrel;have HM:=zH hm;have HKN:=zH hkn;have HKP:=zH hkp;have HB:=zH hb;have HU:=zH hu;clear hm hkn hkp hb hu
      by_cases hlt:m < 4
      ·skip
       obtain⟨r,hr,hmn,hbc⟩:∃ r,(yc3 r0 a b c m)[m]? = some r/\yc3 r0 a b c (m+1)=(yc3 r0 a b c m).set m { r with s:=zb9 r.s SS,knew:=orL r.knew a.knew }/\(r=b ∨ r=c):=by
        rw [<- HSE.out];rcases (show m=2 ∨ m=3 by omega) with rfl | rfl
        ·exact⟨b,rfl,rfl,.inl rfl⟩
        ·exact⟨c,rfl,rfl,.inr rfl⟩
       obtain⟨q,hq0⟩:∃ x:Rep,(⟨SS,a.knew,a.asked⟩:Rep)=x:=⟨_,rfl⟩
       have hq:(yc3 r0 a b c m)[1]? = some q:=by rw [<- hq0,<- HSE.out];rcases (show m=2 ∨ m=3 by omega) with rfl | rfl <;> rfl
       have hqk:q.knew=a.knew:=(by rw [<- hq0]);have hqs:q.s=SS:=(by rw [<- hq0]);obtain⟨rs1,hrs1⟩:∃ x,yc3 r0 a b c m=x:=⟨_,rfl⟩
       rw [hrs1] at HM hmn hr hq;clear hrs1 hq0;obtain⟨⟨v1,v2,v3,wk,wq⟩,hv,hrv⟩:=HM.out.get hr;obtain⟨A1,a1,A2,a2,A3,a3,rfl,rfl,rfl⟩:=hrv.st.fm;have hsq:=(HM.out.rep 1 _ _ HU.out hq).st;rw [hqs] at hsq;have HR1:=zH hr;have HV:=zH hv;have HSR:=zH hrv.st;have HSQ:=zH hsq;have HLR:=zH (show r.knew.length=E.length by rcases hbc with rfl | rfl;exact HLb.out;exact HLc.out);have HLQ:=zH (show q.knew.length=E.length by rw [hqk];exact HLa.out);have SM1:=zH (show SmallS r.s by rcases hbc with rfl | rfl;exact SMb.out;exact SMc.out);have SM2:=zH (show SmallS SS by rw [<- HSE.out];exact (HMT.out.is.lim HH.out HMT.out.vec).small (n:=400) (by decide));have HRC:=zH (fun (X:World) (he:Ext wr X)=>(show X.cell? ⟨R,m * 5,none⟩=some (.slice A1 r.s.all.length a1)/\X.cell? ⟨R,m * 5+1,none⟩=some (.slice A2 r.s.entries.length a2)/\X.cell? ⟨R,m * 5+2,none⟩=some (.slice A3 r.s.pruned.length a3) from ⟨he.cell (HM.out.cell (j:=0) hv rfl),he.cell (HM.out.cell (j:=1) hv rfl),he.cell (HM.out.cell (j:=2) hv rfl)⟩));have HQC:=zH trivial;obtain⟨J,hJ⟩:∃ x,zb9 r.s SS=x:=⟨_,rfl⟩
       rw [hJ,<- hqk] at hmn;have HMN:=zH hmn;have HJ:=zH hJ;have HQ1:=zH hq;clear hr hv hrv hsq hJ hmn hbc hqk hqs hq;go_wp2_with fail;rename_i K9 hK9 K hK;have HK9:=zH hK9;have HK:=zH hK;clear hK hK9;refine zat [fun v _=>v=.slice (some ⟨R,0,none⟩) 4 4,fun v _=>v=I m,fun v _=>v=.slice (some ⟨R,0,none⟩) 4 4,fun v _=>v=I m,fun v _=>v=.pointer (some ⟨R,m * 5,none⟩),fun v _=>v=.pointer (some ⟨R,m * 5,none⟩),fun v _=>v=stV (.slice A1 r.s.all.length a1) (.slice A2 r.s.entries.length a2) (.slice A3 r.s.pruned.length a3),fun v _=>v=stV (.slice B1 SS.all.length b1) (.slice B2 SS.entries.length b2) (.slice B3 SS.pruned.length b3),fun v W=>∃ C1 x1 C2 x2 C3 x3,v=stV (.slice C1 J.all.length x1) (.slice C2 J.entries.length x2) (.slice C3 J.pruned.length x3)/\StAt W (fun b=>wr.heap.size<=b) J (.slice C1 J.all.length x1) (.slice C2 J.entries.length x2) (.slice C3 J.pruned.length x3),fun v _=>v=.pointer (some ⟨R,m * 5,none⟩),fun v _=>v=.pointer (some ⟨R,m * 5,none⟩)] rfl (by kernel_rfl) ?hR ?hstep ?hend
       case hR=>simp only [zM];exact⟨kP,kP,kP,kP,kP,kP,kP,kP,fun v _ _ h he=>by obtain⟨C1,x1,C2,x2,C3,x3,e,h⟩:=h;exact⟨C1,x1,C2,x2,C3,x3,e,h.ext he⟩,kP,kP⟩
       case hstep =>
        simp only [zS,zD,Qc,zbj]
        and_intros <;> intro x W he f
        ·have h0:x 0=.slice (some ⟨R,0,none⟩) 4 4:=f.1;go_wp;exact sQ
        ·have h0:x 11=I m:=f.1;go_wp;exact sQ
        ·have h0:x 0=.slice (some ⟨R,0,none⟩) 4 4:=f.1;go_wp;exact sQ
        ·have h0:x 11=I m:=f.1;go_wp;exact sQ
        ·have h0:_=_:=f.1;have h1:_=_:=f.2.1;go_wp;exact sQ
        ·have h0:_=_:=f.1;go_wp;exact sQ
        ·have h0:_=_:=f.1;obtain⟨c0,c1,c2⟩:=HRC.out W he;go_wp;exact sQ
        ·have h0:x 9=.pointer (some ⟨g9,0,none⟩):=f.1;have d:=HKP.out.ext he;have d9:=(d.rows (g9,26,[.slice B1 SS.all.length b1,.slice B2 SS.entries.length b2,.slice B3 SS.pruned.length b3]) (by simp)).2.2;obtain⟨d0,d1,d2⟩:=d9.p3;clear d d9;go_wp;exact sQ
        ·have h0:_=_:=f.1;have h1:_=_:=f.2.1;have HC:=zH (zib (HSR.out.ext he) (HSQ.out.ext he) SM1.out SM2.out);rw [HJ.out] at HC;go_wp;refine HC.out.mono ?_;rintro e X ⟨z1,z2,z3,rfl,hn,hx2⟩;obtain⟨C1,x1,C2,x2,C3,x3,rfl,rfl,rfl⟩:=hn.fm;have HN:=zH hn.at;clear hn;dsimp only;go_wp;exact zaa ⟨C1,x1,C2,x2,C3,x3,rfl,HN.out.mono fun b _ h=>Qh he.size h⟩ hx2
        ·have h0:_=_:=f.1;have h1:_=_:=f.2.1;go_wp;exact sQ
        ·have h0:_=_:=f.1;go_wp;exact sQ
       case hend =>
        intro x Wz hxz f;have e110:x 110=.pointer (some ⟨R,m * 5,none⟩):=f.2.2.2.2.2.2.2.2.2.2.1;obtain⟨C1,x1,C2,x2,C3,x3,e108,hst⟩:=f.2.2.2.2.2.2.2.2.1;clear f;have HNS:=zH (hst.mono fun b _ hb=>HM.out.free_new hb);have HB:=zH (zcw HB.out HM.out.bl hxz);have HKP:=zH (HKP.out.ext hxz);have HM:=zH (HM.out.ext hxz);have c0:Wz.cell? ⟨R,m * 5,none⟩=_:=HM.out.cell (j:=0) HV.out rfl;have c1:Wz.cell? ⟨R,m * 5+1,none⟩=_:=HM.out.cell (j:=1) HV.out rfl;have c2:Wz.cell? ⟨R,m * 5+2,none⟩=_:=HM.out.cell (j:=2) HV.out rfl;have z0:=HM.out.row.frozen (m * 5);have z1:=HM.out.row.frozen (m * 5+1);have z2:=HM.out.row.frozen (m * 5+2);clear hst hxz;simp only [zS,zD,zU,Qc,Qe,zav,Act.put,e108,e110];go_wp;refine HK.out _ _ ?_;clear HK K c0 c1 c2 z0 z1 z2 HRC HQC;have hlR:=HM.out.lo;have hm3:MemX (fun b=>b=q4) (((Wz.setCell ⟨R,m * 5,none⟩ (.slice C1 J.all.length x1)).setCell ⟨R,m * 5+1,none⟩ (.slice C2 J.entries.length x2)).setCell ⟨R,m * 5+2,none⟩ (.slice C3 J.pruned.length x3)) base R _ _ (.slice AE E.length nE) E:=HM.out.putS (k:=m) HV.out HR1.out HNS.out;have hb3:Below base w (((Wz.setCell ⟨R,m * 5,none⟩ (.slice C1 J.all.length x1)).setCell ⟨R,m * 5+1,none⟩ (.slice C2 J.entries.length x2)).setCell ⟨R,m * 5+2,none⟩ (.slice C3 J.pruned.length x3)):=((HB.out.setCell hlR _).setCell hlR _).setCell hlR _;have hkp3:Keep q4 R F0 w [(q4,29,[St [],U 0,St [],U 0]),(g8,29,prC (yc1 a)),(g9,26,[.slice B1 SS.all.length b1,.slice B2 SS.entries.length b2,.slice B3 SS.pruned.length b3])] (((Wz.setCell ⟨R,m * 5,none⟩ (.slice C1 J.all.length x1)).setCell ⟨R,m * 5+1,none⟩ (.slice C2 J.entries.length x2)).setCell ⟨R,m * 5+2,none⟩ (.slice C3 J.pruned.length x3)):=((HKP.out.set (.inr rfl) HFR.out _).set (.inr rfl) HFR.out _).set (.inr rfl) HFR.out _;have hkn3:=HKN.out.set HV.out (.slice C1 J.all.length x1) (.slice C2 J.entries.length x2) (.slice C3 J.pruned.length x3);obtain⟨W3,hW3⟩:∃ X,(((Wz.setCell ⟨R,m * 5,none⟩ (.slice C1 J.all.length x1)).setCell ⟨R,m * 5+1,none⟩ (.slice C2 J.entries.length x2)).setCell ⟨R,m * 5+2,none⟩ (.slice C3 J.pruned.length x3))=X:=⟨_,rfl⟩
        rw [hW3] at hm3 hb3 hkp3 ⊢;clear hW3;obtain⟨us2,hus2⟩:∃ x,us.set m (⟨.slice C1 J.all.length x1,.slice C2 J.entries.length x2,.slice C3 J.pruned.length x3,wk,wq⟩:RepV)=x:=⟨_,rfl⟩
        replace hkn3:KnOld q4 F0 us2:=hus2 ▸ hkn3;have HU:Hid (us2[1]? = some ⟨.slice B1 SS.all.length b1,.slice B2 SS.entries.length b2,.slice B3 SS.pruned.length b3,vk,vq⟩):=zH (by rw [<- hus2,Qj (by omega)];exact HU.out);have HM:=zH hm3;have HB:=zH hb3;have HKP:=zH hkp3;have HKN:=zH hkn3;obtain⟨rs2,hrs2⟩:∃ x,rs1.set m { r with s:=J }=x:=⟨_,rfl⟩
        have h2:rs2[m]? = some { r with s:=J }:=(by rw [<- hrs2];exact Qd (Qa.1 HR1.out).1);have hq2:rs2[1]? = some q:=(by rw [<- hrs2,Qj (by omega)];exact HQ1.out);obtain⟨r2,hr2⟩:∃ x:Rep,({ r with s:=J }:Rep)=x:=⟨_,rfl⟩
        rw [hr2] at h2;have hrk:r2.knew=r.knew:=(by rw [<- hr2]);have HR2:=zH h2;have HQ2:=zH hq2;have HLR:=zH (show r2.knew.length=E.length by rw [hrk];exact HLR.out);have HFIN:=zH (show rs2.set m { r2 with knew:=orL r2.knew q.knew }=rs1.set m { r with s:=J,knew:=orL r.knew q.knew } by rw [hrk,<- hrs2,<- hr2,zhu]);rw [hrs2] at HM;replace HM:Hid (MemX (fun b=>b=q4) W3 base R us2 rs2 (.slice AE E.length nE) E):=hus2 ▸ HM;clear hus2 hm3 hb3 hkp3 hkn3 hlR h2 hq2 hrk hr2 hrs2 HNS HV HR1 HQ1 HSR HSQ SM1 SM2 HJ e108 e110;go_wp2_with fail
        go_loopw [12] (fun i wr=>∃ (j:Nat),i=I j/\j<=E.length/\MemX (fun b=>b=q4) wr base R us2 (rs2.set m { r2 with knew:=orP r2.knew q.knew j }) (.slice AE E.length nE) E/\Keep q4 R F0 w [(q4,29,[St [],U 0,St [],U 0]),(g8,29,prC (yc1 a)),(g9,26,[.slice B1 SS.all.length b1,.slice B2 SS.entries.length b2,.slice B3 SS.pruned.length b3])] wr/\Below base w wr) (fun i _=>E.length - (intOf i).toNat)
        case atStart=>exact⟨0,rfl,Nat.zero_le _,by rw [zr1,zrw HR2.out];exact HM.out,HKP.out,HB.out⟩
        case round =>
         clear HKP HB HM;obtain⟨j,rfl,hjn,hm,hkp,hb⟩:=hrel;have hel:=HEL.out
         by_cases hj:j < E.length
         ·obtain⟨x,hx⟩:∃ x,r2.knew[j]? = some x:=⟨_,Qb (by rw [HLR.out];exact hj)⟩
          obtain⟨y,hy⟩:∃ y,q.knew[j]? = some y:=⟨_,Qb (by rw [HLQ.out];exact hj)⟩
          obtain⟨q3,hq3,hy3⟩:=zp7 HR2.out HQ2.out hx hy;have hr3:(rs2.set m { r2 with knew:=orP r2.knew q.knew j })[m]? = some { r2 with knew:=orP r2.knew q.knew j }:=Qd (Qa.1 HR2.out).1;have HSC:=zH (zr3 hx hy);have hx3:(orP r2.knew q.knew j)[j]? = some x:=(by rw [zr2];exact hx);have hdr:Ext wr wr.drew:=(Ext.refl wr).drew;have hmd:=hm.drew;have hkd:=hkp.ext hdr;obtain⟨Wd,hWd⟩:∃ X,wr.drew=X:=⟨_,rfl⟩
          rw [hWd] at hmd hdr hkd;obtain⟨vb,hvb,hrb⟩:=hmd.get hr3;obtain⟨vc,hvc,hrc⟩:=hmd.get hq3;obtain⟨g1,c1,e1,-,-,b1,z1⟩:=hrb.bit hx3;obtain⟨g2,c2,e2,-,-,b2,-⟩:=hrc.bit hy3;simp only [zem] at e1;have k1:Wd.cell? ⟨R,m * 5+3,none⟩=some vb.kn:=hmd.cell (j:=3) hvb rfl;have k2:Wd.cell? ⟨R,8,none⟩=some vc.kn:=hmd.cell (j:=3) hvc rfl;rw [e1] at k1;rw [e2] at k2;have HMD:=zH hmd;have HVB:=zH hvb;have HE1:=zH e1;have HR3:=zH hr3;have HKP:=zH hkd;have hsz:=hm.bl;have HB:=zH (zcw hb hsz hdr);have hjr:j < r2.knew.length:=(by rw [HLR.out];exact hj);have hjq:j < q3.knew.length:=(Qa.1 hy3).1;have hob:zad vb.kn g1:=⟨g1,_,c1,e1,by obtain⟨A,c,e,h1,h2⟩:=hrb.kn.form;rw [e1] at e;injection e with _ _ e3;subst e3;simp only [zem] at h1;omega,rfl⟩
          have hgb:base<=g1:=(hrb.kn.base_le hob).1;obtain⟨hgq,hgf⟩:=HKN.out vb (Qi hvb) g1 hob;have HWD:=zH hWd;clear hm hb hx hy hq3 hy3 hvc hrb hrc hdr hmd hkd hkp hvb hob e1 e2 hr3 hx3 hWd hsz;go_wp2_with fail
          cases x with
          | true =>
           refine wp_region_still_tail 23 (by kernel_rfl) (by kernel_rfl) ?_;simp only [zD];change wpStill _ _ (wr).drew (fun a'=>wpList _ _ _ _ a' (wr).drew) _ _;rw [HWD.out];generalize hA:Act.mk _ _=A0;repeat (refine wpStill_step (fun K2 hK2=>?_);subst hA;go_simp;(try rw [zN (by decide)]);generalize hA:Act.mk _ _=A0;refine hK2 A0 ?_;clear hK2 K2)
           refine wpStill_nil ?_;subst hA;go_wp2_with fail;go_roundw
           case rel=>exact⟨j+1,by simp,hj,by have h:=HMD.out.setKnew HVB.out HR3.out (by simp only [zem];exact hjr) (by simp only [zem];exact HE1.out) true;have h2:=HSC.out;simp only [Bool.true_or] at h2;simp only [h2,zhu] at h;exact h,HKP.out.set (.inl hgq) hgf _,HB.out.setCell hgb _⟩
           case measure=>simp [intOf];omega
          | false =>
           refine wp_region_still_tail 23 (by kernel_rfl) (by kernel_rfl) ?_;simp only [zD];change wpStill _ _ (wr).drew (fun a'=>wpList _ _ _ _ a' (wr).drew) _ _;rw [HWD.out];generalize hA:Act.mk _ _=A0;repeat (refine wpStill_step (fun K2 hK2=>?_);subst hA;go_simp;(try rw [zN (by decide)]);generalize hA:Act.mk _ _=A0;refine hK2 A0 ?_;clear hK2 K2)
           refine wpStill_nil ?_;subst hA;go_wp2_with fail;go_roundw
           case rel=>exact⟨j+1,by simp,hj,by have h:=HMD.out.setKnew HVB.out HR3.out (by simp only [zem];exact hjr) (by simp only [zem];exact HE1.out) y;have h2:=HSC.out;simp only [Bool.false_or] at h2;simp only [h2,zhu] at h;exact h,HKP.out.set (.inl hgq) hgf _,HB.out.setCell hgb _⟩
           case measure=>simp [intOf];omega
         ·obtain rfl:j=E.length:=by omega
          have HM5:=zH hm;have HKP:=zH hkp;have HB:=zH hb;clear hm hkp hb;go_wp2_with fail;refine HK9.out _ _ ?_;clear HK9;go_wp2_with fail;go_roundw
          case measure=>simp [intOf];omega
          case rel=>exact⟨m+1,us2,vk,vq,by simp,by omega,by omega,by rw [HMN.out,<- HFIN.out];have h:=HM5.out;rwa [zt0 HLR.out HLQ.out] at h,HU.out,HKN.out,HKP.out,HB.out⟩
      ·obtain rfl:m=4:=by omega
       have HMP:=zH (prOk_iff.2 HMT.out.ok);have hbt:=HM.out.bl;obtain⟨Wt,rfl⟩:∃ X:World,X=wr:=⟨_,rfl⟩
       clear SMb SMc HLa HLb HLc HU hm2 hm4 hlt
       (try rw [show ((4:Nat):Int)=4 from rfl])
       go_wp2_with fail;refine HK.out _ _ ?_;clear HK;refine wpH ?_;intro K HK;go_wp2_with fail
       go_loopw [13] (fun i wr=>∃ m:Nat,i=I m/\1<=m/\m<=4/\Ext Wt wr) (fun i _=>4 - (intOf i).toNat)
       case atStart=>exact⟨1,rfl,Ql _,by decide,Ext.refl _⟩
       case round =>
        obtain⟨m,rfl,hm1,hm4,hx⟩:=hrel;have HX:=zH hx;clear hx
        by_cases hlt:m < 4
        ·skip
         obtain⟨r,hr,hrs⟩:∃ r,(yc3 r0 a b c 4)[m]? = some r/\r.s=SS:=by
          rw [<- HSE.out];rcases (show m=1 ∨ m=2 ∨ m=3 by omega) with rfl | rfl | rfl
          ·exact⟨_,rfl,rfl⟩
          ·exact⟨_,rfl,HMT.out.jb⟩
          ·exact⟨_,rfl,HMT.out.jc⟩
         obtain⟨⟨v1,v2,v3,wk,wq⟩,hv,hrv⟩:=HM.out.get hr;obtain⟨A1,a1,A2,a2,A3,a3,rfl,rfl,rfl⟩:=hrv.st.fm;have HSR:=zH (hrv.st.ext HX.out);have HRD:=zH (show zc3 r.s.all (yc1 a)=true by rw [hrs,<- HSE.out];exact HMT.out.ready);have HRC:=zH (fun (X:World) (he:Ext wr X)=>(show X.cell? ⟨R,m * 5,none⟩=some (.slice A1 r.s.all.length a1)/\X.cell? ⟨R,m * 5+1,none⟩=some (.slice A2 r.s.entries.length a2)/\X.cell? ⟨R,m * 5+2,none⟩=some (.slice A3 r.s.pruned.length a3) from ⟨(HX.out.trans he).cell (HM.out.cell (j:=0) hv rfl),(HX.out.trans he).cell (HM.out.cell (j:=1) hv rfl),(HX.out.trans he).cell (HM.out.cell (j:=2) hv rfl)⟩));have HKP:=zH (HKP.out.ext HX.out);clear hr hv hrv hrs;go_wp2_with fail;rename_i K9 hK9 K hK;have HK9:=zH hK9;have HK:=zH hK;clear hK hK9;refine zat [fun v _=>v=.slice (some ⟨R,0,none⟩) 4 4,fun v _=>v=I m,fun v _=>v=.pointer (some ⟨R,m * 5,none⟩),fun v _=>v=.pointer (some ⟨R,m * 5,none⟩),fun v _=>v=stV (.slice A1 r.s.all.length a1) (.slice A2 r.s.entries.length a2) (.slice A3 r.s.pruned.length a3),fun v _=>v=prV (yc1 a),fun v _=>v=.bool true,fun v _=>v=.bool false,fun v _=>v=.bool false,fun _ _=>True,fun _ _=>True,fun _ _=>True] rfl (by kernel_rfl) ?hR ?hstep ?hend
         case hR=>simp only [zM];exact⟨kP,kP,kP,kP,kP,kP,kP,kP,kP,fun _ _ _ _ _=>trivial,fun _ _ _ _ _=>trivial,fun _ _ _ _ _=>trivial⟩
         case hstep =>
          simp only [zS,zD,Qc,zbj]
          and_intros <;> intro x W he f
          ·have h0:x 0=.slice (some ⟨R,0,none⟩) 4 4:=f.1;go_wp;exact sQ
          ·have h0:x 13=I m:=f.1;go_wp;exact sQ
          ·have h0:_=_:=f.1;have h1:_=_:=f.2.1;go_wp;exact sQ
          ·have h0:_=_:=f.1;go_wp;exact sQ
          ·have h0:_=_:=f.1;obtain⟨c0,c1,c2⟩:=HRC.out W he;go_wp;exact sQ
          ·have h0:x 8=.pointer (some ⟨g8,0,none⟩):=f.1;have d:=HKP.out.ext he;have d9:=(d.rows (g8,29,prC (yc1 a)) (by simp)).2.2;obtain⟨d0,d1,d2,d3⟩:=d9.p4;clear d d9;go_wp;exact sQ
          ·have h0:_=_:=f.1;have h1:_=_:=f.2.1;have HC:=zH (zk6 (yc1 a) HMP.out (HSR.out.ext he));rw [HRD.out] at HC;go_wp;refine HC.out.mono ?_;rintro e X ⟨rfl,hx2⟩;dsimp only;go_wp;exact zaa rfl hx2
          iterate 2 · have h0:_=_:=f.1;go_wp;exact sQ
          ·have hg:_=_:=f.2.1;go_wp;exact zaa trivial (Ext.refl _)
          ·have hg:_=_:=f.2.1;go_wp;exact zaa trivial (Ext.refl _)
          ·have hg:_=_:=f.2.1;go_wp;exact zaa trivial (Ext.refl _)
         case hend =>
          intro x Wz hxz f;have e155:x 155=.bool false:=f.2.2.2.2.2.2.2.2.1;clear f;simp only [zS,zD,zU,Qc,Qe,zav,Act.put,e155];go_wp;refine HK.out _ _ ?_;clear HK K HRC;go_wp2_with fail;refine HK9.out _ _ ?_;clear HK9;go_wp2_with fail;go_roundw
          case rel=>exact⟨m+1,by simp,by omega,by omega,HX.out.trans hxz⟩
          case measure=>simp [intOf];omega
        ·obtain rfl:m=4:=by omega
         have HM:=zH (HM.out.ext HX.out);have HKP:=zH (HKP.out.ext HX.out);have HB:=zH (zcw HB.out hbt HX.out);obtain⟨Wu,rfl⟩:∃ X:World,X=wr:=⟨_,rfl⟩
         have r8:=(HKP.out.rows (g8,29,prC (yc1 a)) (by simp)).2.2;have r4:=(HKP.out.rows (q4,29,[St [],U 0,St [],U 0]) (by simp)).2.2;obtain⟨d0,d1,d2,d3⟩:=r8.p4;obtain⟨e0,e1,e2,e3⟩:=r4.p4;obtain⟨y0,y1,y2,y3⟩:=r4.q4;have hm5:=fun (j:Nat) (v:Value) (X:World) (h:MemX (fun b=>b=q4) X base R us (yc3 r0 a b c 4) (.slice AE E.length nE) E)=>h.beside (q:=q4) (j:=j) rfl (by omega) (fun v hv ho=>Nat.lt_irrefl _ (HKN.out v hv _ ho).1) HEV.out v
         have HM5:=zH hm5
         (try rw [show ((4:Nat):Int)=4 from rfl])
         go_wp2_with fail;refine HK.out _ _ ?_;clear HK;go_wp2_with fail;obtain⟨Wf,hWf⟩:∃ X,((((Wu.setCell ⟨q4,0,none⟩ (St (yc1 a).1)).setCell ⟨q4,1,none⟩ (U (yc1 a).2.1)).setCell ⟨q4,2,none⟩ (St (yc1 a).2.2.1)).setCell ⟨q4,3,none⟩ (U (yc1 a).2.2.2))=X:=⟨_,rfl⟩
         have rf:RowIs Wf q4 29 (prC (yc1 a)) []:=(by rw [<- hWf];exact ybj r4);have hmf:MemX (fun b=>b=q4) Wf base R us (yc3 r0 a b c 4) (.slice AE E.length nE) E:=(by rw [<- hWf];exact HM5.out _ _ _ (HM5.out _ _ _ (HM5.out _ _ _ (HM5.out _ _ _ HM.out))));have hqb:base<=q4:=(by omega);have hbf:Below base w Wf:=(by rw [<- hWf];exact (((HB.out.setCell hqb _).setCell hqb _).setCell hqb _).setCell hqb _);obtain⟨f0,f1,f2,f3⟩:=rf.p4;rw [hWf];refine bodyPost_ret (v:=.tuple #[prV (yc1 a),.bool true]) (by simp [results,Tryz.f22,go_sem,f0,f1,f2,f3]) rfl ?_
         exact⟨r0,a,b,c,us,HRS4.out,rfl,hmf.free (fun b h=>h.elim),hbf,fun b hb hl=>by have hl4:b < q4:=(by omega);have hne:b ≠ q4:=(by omega);rw [<- hWf,Qf _ _ _ b hne,Qf _ _ _ b hne,Qf _ _ _ b hne,Qf _ _ _ b hne];exact HKP.out.same b (by rw [<- hF0];exact hb) hl4⟩
end
end Go.Proofs.YtaabaflgeljbjaaGreat
