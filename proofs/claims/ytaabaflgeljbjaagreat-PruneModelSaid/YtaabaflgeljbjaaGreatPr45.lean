/- gossamerlaw17.meet: the walk. Printed by pp.py out of src/Meet1.src, src/Meet1.py. -/
import Derived.Test.YtaabaflgeljbjaaGreatPr40
import Derived.Test.YtaabaflgeljbjaaGreatPr39
import Derived.Test.YtaabaflgeljbjaaGreatPr44
import Derived.Test.YtaabaflgeljbjaaGreatPr42
set_option linter.unusedVariables false
set_option linter.unusedSimpArgs false
set_option maxRecDepth 100000
set_option maxHeartbeats 40000000
namespace Go.Proofs.YtaabaflgeljbjaaGreat
open Go.Value renaming slice→Xa,pointer→Xb,bool→Xc
open Go renaming World→Xd,Value→Xe
open Ext renaming refl→Xf
open List renaming getElem?_eq_some_iff→Qa,getElem?_eq_getElem→Qb,getElem?_set_self→Qd,filterMap_cons→Qe,length_map→Qg,mem_of_getElem?→Qi,getElem?_set_ne→Qj,mem_singleton→Qk
open Nat renaming reduceAdd→Qc,le_trans→Qh,le_refl→Ql
open Go.RowKit.Below renaming heap_setCell→Qf
section
open Go.RowKit Go.Shelf
structure Keep (N0 R:Nat) (F:Nat->Prop) (w0:Xd) (rows:List (Nat×Nat×List Xe)) (W:Xd):Prop where
 rows:∀r∈rows,N0<=r.1/\r.1≠R/\RowIs W r.1 r.2.1 r.2.2 []
 size:N0<=W.heap.size
 same:∀b,F b->b<N0->W.heap[b]? = w0.heap[b]?
section
variable {N0 R:Nat} {F:Nat->Prop} {w0 W W':Xd} {rows:List (Nat × Nat × List Xe)}
theorem Keep.ext (a:Keep N0 R F w0 rows W)(c:Ext W W'):Keep N0 R F w0 rows W':=⟨fun r d=>⟨(a.rows r d).1,(a.rows r d).2.1,(a.rows r d).2.2.ext c⟩,Qh a.size c.size,fun b hb e=>(c.block b (Nat.lt_of_lt_of_le e a.size)).trans (a.same b hb e)⟩
theorem Keep.set (c:Keep N0 R F w0 rows W){g j:Nat}(a:g<N0 ∨ g=R)(f:¬F g)(v:Xe):Keep N0 R F w0 rows (W.setCell ⟨g,j,none⟩ v):=⟨fun r i=>by
 obtain⟨h1,d,e⟩:=c.rows r i;exact⟨h1,d,e.other (by rintro rfl;rcases a with a|a;omega;exact d a) v⟩,by rw[World.size_setCell];exact c.size,fun b hb h=>(Qf _ _ _ b (by rintro rfl;exact f hb)).trans (c.same b hb h)⟩
end
def KnOld (N0:Nat)(F:Nat->Prop)(vs:List RepV):Prop:=∀v∈vs,∀b,zad v.kn b->b<N0/\¬F b
theorem KnOld.set {N0:Nat}{F:Nat->Prop}{vs:List RepV}(b:KnOld N0 F vs){k:Nat}{v:RepV}(c:vs[k]? = some v)(s1 s2 s3:Xe):KnOld N0 F (vs.set k { v with s1:=s1,s2:=s2,s3:=s3 }):=fun u a=>by
 rcases zmj a with rfl|a
 ·exact b v (Qi c)
 exact b u a
theorem yje {rs:List Rep}{m:Nat}(h1:2<=m)(a:m<4):meetA rs (m+1)=zmi (meetA rs m) 1 m:=by
 rcases(show m=2 ∨ m=3 by omega)with rfl|rfl<;>rfl
theorem yj8 {E:List Ev}{rs:List Rep}{vs:List RepV}{ej:Xe}{base R:Nat}{w:Xd}(b4:Mem w base R vs rs ej E)(hR:RepsOk E 4 rs)(f4:E.length<200) :
  Calls Tryz.prog 22 #[Xa (some ⟨R,0,none⟩) 4 4,ej] w fun r W'=>∃r0 a b c hh,meetA rs 4 = [r0,a,b,c]/\r=.returned (.tuple #[prV (ygr a),Xc true])/\Mem W' base R hh (ygz r0 a b c 4) ej E/\Below base w W'/\∀b,Free R vs ej b->b<w.heap.size->W'.heap[b]? = w.heap[b]?:=by
 obtain⟨aq,aw,rfl,-,-⟩:=b4.ev.form;have hl:=b4.lo;have gw:=b4.row.lt;obtain⟨q4,ee⟩:∃q,w.heap.size=q:=⟨_,rfl⟩
 have ei:=(Xf w).alloc (.cells #[.string ⟨#[]⟩,.int .u64 0,.string ⟨#[]⟩,.int .u64 0] 29);have gi:Hid (¬zad (Xa aq E.length aw) q4):=zH fun ez=>by have:=(b4.ev.base_le ez).2;omega
 obtain⟨ak,eq⟩:∃F:Nat->Prop,Free R vs (Xa aq E.length aw)=F:=⟨_,rfl⟩
 have bj:Hid (¬ak R):=zH (by rw[<- eq];exact fun u=>u.1 rfl);have ah:=zH (show KnOld q4 ak vs from fun v N b hb=>⟨by rw[<- ee];exact b4.lt_kn N hb,by rw[<- eq];exact fun u=>u.2.1 v N hb⟩)
 have ad:Keep q4 R ak w [(q4,29,[St [],U 0,St [],U 0])] (w.alloc (.cells #[.string ⟨#[]⟩,.int .u64 0,.string ⟨#[]⟩,.int .u64 0] 29)):=⟨fun r Q=>by obtain rfl:=Qk.1 Q;exact⟨Ql _,by show q4≠R;omega,by rw[<- ee];exact zaf w _ _⟩,by simp;omega,fun b _ g5=>ei.block b (by omega)⟩
 have ex:MemX (fun b=>b=q4) (w.alloc (.cells #[.string ⟨#[]⟩,.int .u64 0,.string ⟨#[]⟩,.int .u64 0] 29)) base R vs rs (Xa aq E.length aw) E:=(b4.guard ei (q:=q4) (by omega) (by simp;omega)).free fun b hb=>.inr hb
 have eu:=zcw (Below.refl base w) b4.bl ei;obtain⟨hj,er⟩:∃t,w.alloc (.cells #[.string ⟨#[]⟩,.int .u64 0,.string ⟨#[]⟩,.int .u64 0] 29)=t:=⟨_,rfl⟩
 rw[er]at ad ex eu;have fj:=zH ex;have fd:=zH eu;have ff:=zH ad;have c8:=zH hR;have fe:=zH f4;have hRq:R<q4:=by omega
 clear b4 hR f4 ei ad ex eu gw;go_enter Tryz.func22,Tryz.ntmps22;refine wpH ?_;intro K M;go_wp2_with fail
 (try rw[er])
 (try rw[ee])
 clear er;have ho:w.heap.size<=q4:=by omega
 clear ee;refine M.out _ _ ?_;clear M K;refine wpH ?_;intro K M;go_wp2_with fail
 go_loopw [6] (fun i wr=>∃(m:Nat) (ax:List RepV),i=I m/\2<=m/\m<=4/\MemX (fun b=>b=q4) wr base R ax (meetA rs m) (Xa aq E.length aw) E/\KnOld q4 ak ax/\Keep q4 R ak w [(q4,29,[St [],U 0,St [],U 0])] wr/\Below base w wr) (fun i _=>4-(intOf i).toNat)
 case atStart=>exact⟨2,_,rfl,Ql _,by decide,fj.out,ah.out,ff.out,fd.out⟩
 obtain⟨m,ax,rfl,d9,ea,ag,dt,ad,hb⟩:=hrel;have h:=zH ag;have ah:=zH dt;have z:=zH ad;have L:=zH hb;clear ag dt ad hb fj ff fd
 by_cases ct:m<4
 ·skip
  have cz:=zH (yje (rs:=rs) d9 ct);have ai:=zH (c8.out.meetA m);obtain⟨cm,dx⟩:∃x,meetA rs m=x:=⟨_,rfl⟩
  rw[dx]at h cz ai;clear dx;obtain⟨r,Q⟩:∃r,cm[1]? = some r:=⟨_,Qb (by rw[ai.out.len];decide)⟩
  obtain⟨q,a5⟩:∃q,cm[m]? = some q:=⟨_,Qb (by rw[ai.out.len];exact ct)⟩
  obtain⟨⟨v1,v2,v3,bv,bw⟩,N,ap⟩:=h.out.get Q;obtain⟨⟨he,hf,hg,hr,hs⟩,ck,e2⟩:=h.out.get a5;obtain⟨ay,a1,a7,a2,a8,a3,rfl,rfl,rfl⟩:=ap.st.fm;obtain⟨Z,X,aa,Y,ab,ac,rfl,rfl,rfl⟩:=e2.st.fm;have b9:=zH Q;have c5:=zH a5;have V:=zH N;have cb:=zH ap.st;have db:=zH e2.st;have a9:=zH (show r.knew.length=E.length by have u:=congrArg List.length (ai.out.each 1 _ Q).knew;rw[Qg]at u;exact u);have cx:=zH (show q.knew.length=E.length by have u:=congrArg List.length (ai.out.each m _ a5).knew;rw[Qg]at u;exact u);have dg:=zH (((ai.out.each 1 _ Q).is.lim ai.out.hist ((ai.out.each 1 _ Q).vec ai.out.few ai.out.hist.most)).small (n:=400) (by decide));have dh:=zH (((ai.out.each m _ a5).is.lim ai.out.hist ((ai.out.each m _ a5).vec ai.out.few ai.out.hist.most)).small (n:=400) (by decide));have am:=zH (fun(t:Xd) (o:Ext wr t)=>(show t.cell? ⟨R,5,none⟩=some (Xa ay r.s.all.length a1)/\t.cell? ⟨R,5+1,none⟩=some (Xa a7 r.s.entries.length a2)/\t.cell? ⟨R,5+2,none⟩=some (Xa a8 r.s.pruned.length a3)from⟨o.cell (h.out.cell (j:=0) N rfl),o.cell (h.out.cell (j:=1) N rfl),o.cell (h.out.cell (j:=2) N rfl)⟩));have d4:=zH (fun(t:Xd) (o:Ext wr t)=>(show t.cell? ⟨R,m * 5,none⟩=some (Xa Z q.s.all.length X)/\t.cell? ⟨R,m * 5+1,none⟩=some (Xa aa q.s.entries.length Y)/\t.cell? ⟨R,m * 5+2,none⟩=some (Xa ab q.s.pruned.length ac)from⟨o.cell (h.out.cell (j:=0) ck rfl),o.cell (h.out.cell (j:=1) ck rfl),o.cell (h.out.cell (j:=2) ck rfl)⟩));obtain⟨p,hJ⟩:∃x,zb9 r.s q.s=x:=⟨_,rfl⟩
  have bp:=yah Q a5;rw[hJ]at bp;rw[bp]at cz;have cw:=zH hJ;clear Q a5 N ck ap e2 hJ bp;go_wp2_with fail;rename_i fp b3 K hK;have b0:=zH b3;have M:=zH hK;clear hK b3;refine zat [fun v _=>v=Xa (some ⟨R,0,none⟩) 4 4,fun v _=>v=Xa (some ⟨R,0,none⟩) 4 4,fun v _=>v=Xb (some ⟨R,5,none⟩),fun v _=>v=Xb (some ⟨R,5,none⟩),fun v _=>v=stV (Xa ay r.s.all.length a1) (Xa a7 r.s.entries.length a2) (Xa a8 r.s.pruned.length a3),fun v _=>v=Xa (some ⟨R,0,none⟩) 4 4,fun v _=>v=I m,fun v _=>v=Xb (some ⟨R,m * 5,none⟩),fun v _=>v=Xb (some ⟨R,m * 5,none⟩),fun v _=>v=stV (Xa Z q.s.all.length X) (Xa aa q.s.entries.length Y) (Xa ab q.s.pruned.length ac),fun v W=>∃B G C H D J,v=stV (Xa B p.all.length G) (Xa C p.entries.length H) (Xa D p.pruned.length J)/\StAt W (fun b=>wr.heap.size<=b) p (Xa B p.all.length G) (Xa C p.entries.length H) (Xa D p.pruned.length J),fun v _=>v=Xb (some ⟨R,5,none⟩),fun v _=>v=Xb (some ⟨R,5,none⟩)] rfl (by kernel_rfl) ?hR ?hstep ?hend
  case hR=>simp only[zM];exact⟨kP,kP,kP,kP,kP,kP,kP,kP,kP,kP,fun v _ _ u o=>by obtain⟨B,G,C,H,D,J,e,u⟩:=u;exact⟨B,G,C,H,D,J,e,u.ext o⟩,kP,kP⟩
  case hstep =>
   simp only[zS,zD,Qc,zbj]
   and_intros<;>intro x W o f
   ·have h0:x 0=Xa (some ⟨R,0,none⟩) 4 4:=f.1;go_wp;exact sQ
   ·have h0:x 0=Xa (some ⟨R,0,none⟩) 4 4:=f.1;go_wp;exact sQ
   iterate 2 · have h0:_=_:=f.1;go_wp;exact sQ
   ·have h0:_=_:=f.1;obtain⟨a0,c1,c2⟩:=am.out W o;go_wp;exact sQ
   ·have h0:x 0=Xa (some ⟨R,0,none⟩) 4 4:=f.1;go_wp;exact sQ
   ·have h0:x 6=I m:=f.1;go_wp;exact sQ
   ·have h0:_=_:=f.1;have h1:_=_:=f.2.1;go_wp;exact sQ
   ·have h0:_=_:=f.1;go_wp;exact sQ
   ·have h0:_=_:=f.1;obtain⟨a0,c1,c2⟩:=d4.out W o;go_wp;exact sQ
   ·have h0:_=_:=f.1;have h1:_=_:=f.2.1;have al:=zH (zib (cb.out.ext o) (db.out.ext o) dg.out dh.out);rw[cw.out]at al;go_wp;refine al.out.mono ?_;rintro e t⟨bx,co,hi,rfl,ae,b7⟩;obtain⟨B,G,C,H,D,J,rfl,rfl,rfl⟩:=ae.fm;have c0:=zH ae.at;clear ae;dsimp only;go_wp;exact zaa ⟨B,G,C,H,D,J,rfl,c0.out.mono fun b _ u=>Qh o.size u⟩ b7
   iterate 2 · have h0:_=_:=f.1;go_wp;exact sQ
  case hend =>
   intro x aj bf f;have fy:x 32=Xb (some ⟨R,5,none⟩):=f.2.2.2.2.2.2.2.2.2.2.2.2.1;obtain⟨B,G,C,H,D,J,fx,b5⟩:=f.2.2.2.2.2.2.2.2.2.2.1;clear f;have c3:=zH (b5.mono fun b _ hb=>h.out.free_new hb);have L:=zH (zcw L.out h.out.bl bf);have z:=zH (z.out.ext bf);have h:=zH (h.out.ext bf);have a0:aj.cell? ⟨R,5,none⟩=_:=h.out.cell (j:=0) V.out rfl;have c1:aj.cell? ⟨R,5+1,none⟩=_:=h.out.cell (j:=1) V.out rfl;have c2:aj.cell? ⟨R,5+2,none⟩=_:=h.out.cell (j:=2) V.out rfl;have d3:=h.out.row.frozen (5);have bx:=h.out.row.frozen (5+1);have co:=h.out.row.frozen (5+2);clear b5 bf;simp only[zS,zD,zU,Qc,Qe,zav,Act.put,fx,fy];go_wp;refine M.out _ _ ?_;clear M K a0 c1 c2 d3 bx co am d4;have au:=h.out.lo;have bd:MemX (fun b=>b=q4) (((aj.setCell ⟨R,5,none⟩ (Xa B p.all.length G)).setCell ⟨R,6,none⟩ (Xa C p.entries.length H)).setCell ⟨R,7,none⟩ (Xa D p.pruned.length J)) base R _ _ (Xa aq E.length aw) E:=h.out.putS (k:=1) V.out b9.out c3.out;have ba:Below base w (((aj.setCell ⟨R,5,none⟩ (Xa B p.all.length G)).setCell ⟨R,6,none⟩ (Xa C p.entries.length H)).setCell ⟨R,7,none⟩ (Xa D p.pruned.length J)):=((L.out.setCell au _).setCell au _).setCell au _;have bc:Keep q4 R ak w [(q4,29,[St [],U 0,St [],U 0])] (((aj.setCell ⟨R,5,none⟩ (Xa B p.all.length G)).setCell ⟨R,6,none⟩ (Xa C p.entries.length H)).setCell ⟨R,7,none⟩ (Xa D p.pruned.length J)):=((z.out.set (.inr rfl) bj.out _).set (.inr rfl) bj.out _).set (.inr rfl) bj.out _;have a4:=ah.out.set V.out (Xa B p.all.length G) (Xa C p.entries.length H) (Xa D p.pruned.length J);obtain⟨di,dn⟩:∃t,(((aj.setCell ⟨R,5,none⟩ (Xa B p.all.length G)).setCell ⟨R,6,none⟩ (Xa C p.entries.length H)).setCell ⟨R,7,none⟩ (Xa D p.pruned.length J))=t:=⟨_,rfl⟩
   rw[dn]at bd ba bc ⊢;clear dn;have h:=zH bd;have L:=zH ba;have z:=zH bc;obtain⟨bi,b6⟩:∃x,ax.set 1 (⟨Xa B p.all.length G,Xa C p.entries.length H,Xa D p.pruned.length J,bv,bw⟩:RepV)=x:=⟨_,rfl⟩
   replace a4:KnOld q4 ak bi:=b6▸a4;have ah:=zH a4;obtain⟨az,be⟩:∃x,cm.set 1 { r with s:=p }=x:=⟨_,rfl⟩
   have T:az[1]? = some { r with s:=p }:=(by rw[<- be];exact Qd (Qa.1 b9.out).1);have du:az[m]? = some q:=(by rw[<- be,Qj (by omega)];exact c5.out);obtain⟨O,bq⟩:∃x:Rep,({ r with s:=p }:Rep)=x:=⟨_,rfl⟩
   rw[bq]at T;have cj:O.knew=r.knew:=(by rw[<- bq]);have ca:=zH T;have el:=zH du;have a9:=zH (show O.knew.length=E.length by rw[cj];exact a9.out);have ek:=zH (show az.set 1 { O with knew:=orL O.knew q.knew }=cm.set 1 { r with s:=p,knew:=orL r.knew q.knew } by rw[cj,<- be,<- bq,zhu]);rw[be]at h;replace h:Hid (MemX (fun b=>b=q4) di base R bi az (Xa aq E.length aw) E):=b6▸h;clear b6 bd ba bc a4 au T du cj bq be c3 V b9 c5 cb db dg dh cw ai fx fy;go_wp2_with fail
   go_loopw [7] (fun i wr=>∃(j:Nat),i=I j/\j<=E.length/\MemX (fun b=>b=q4) wr base R bi (az.set 1 { O with knew:=orP O.knew q.knew j }) (Xa aq E.length aw) E/\Keep q4 R ak w [(q4,29,[St [],U 0,St [],U 0])] wr/\Below base w wr) (fun i _=>E.length-(intOf i).toNat)
   case atStart=>exact⟨0,rfl,Nat.zero_le _,by rw[zr1,zrw ca.out];exact h.out,z.out,L.out⟩
   clear z L h;obtain⟨j,rfl,g3,ag,ad,hb⟩:=hrel;have g0:=fe.out
   by_cases bb:j<E.length
   ·obtain⟨x,a6⟩:∃x,O.knew[j]? = some x:=⟨_,Qb (by rw[a9.out];exact bb)⟩
    obtain⟨y,bu⟩:∃y,q.knew[j]? = some y:=⟨_,Qb (by rw[cx.out];exact bb)⟩
    obtain⟨q3,dv,cl⟩:=zp7 ca.out el.out a6 bu;have ci:(az.set 1 { O with knew:=orP O.knew q.knew j })[1]? = some { O with knew:=orP O.knew q.knew j }:=Qd (Qa.1 ca.out).1;have c9:=zH (zr3 a6 bu);have bt:(orP O.knew q.knew j)[j]? = some x:=(by rw[zr2];exact a6);have bo:Ext wr wr.drew:=(Xf wr).drew;have ao:=ag.drew;have cg:=ad.ext bo;obtain⟨dj,cf⟩:∃t,wr.drew=t:=⟨_,rfl⟩
    rw[cf]at ao bo cg;obtain⟨cn,bs,av⟩:=ao.get ci;obtain⟨e9,dz,bh⟩:=ao.get dv;obtain⟨bm,c1,ar,-,-,X,bx⟩:=av.bit bt;obtain⟨gv,c2,cs,-,-,Y,-⟩:=bh.bit cl;simp only[zem]at ar;have e5:dj.cell? ⟨R,8,none⟩=some cn.kn:=ao.cell (j:=3) bs rfl;have e6:dj.cell? ⟨R,m * 5+3,none⟩=some e9.kn:=ao.cell (j:=3) dz rfl;rw[ar]at e5;rw[cs]at e6;have cy:=zH ao;have de:=zH bs;have cv:=zH ar;have c6:=zH ci;have z:=zH cg;have dy:=ag.bl;have L:=zH (zcw hb dy bo);have bp:j<O.knew.length:=(by rw[a9.out];exact bb);have g4:j<q3.knew.length:=(Qa.1 cl).1;have ch:zad cn.kn bm:=⟨bm,_,c1,ar,by obtain⟨A,c,e,h1,T⟩:=av.kn.form;rw[ar]at e;injection e with _ _ d6;subst d6;simp only[zem]at h1;omega,rfl⟩
    have dq:base<=bm:=(av.kn.base_le ch).1;obtain⟨ds,dr⟩:=ah.out cn (Qi bs) bm ch;have df:=zH cf;clear ag hb a6 bu dv cl dz av bh bo ao cg ad bs ch ar cs ci bt cf dy;go_wp2_with fail
    cases x
    case true=>
     refine wp_region_still_tail 22 (by kernel_rfl) (by kernel_rfl) ?_;simp only[zD];change wpStill _ _ (wr).drew (fun ce=>wpList _ _ _ _ ce (wr).drew) _ _;rw[df.out];generalize an:Act.mk _ _=A0;repeat (refine wpStill_step (fun cd af=>?_);subst an;go_simp;(try rw[zN (by decide)]);generalize an:Act.mk _ _=A0;refine af A0 ?_;clear af cd)
     refine wpStill_nil ?_;subst an;go_wp2_with fail;go_roundw
     case rel=>exact⟨j+1,by simp,bb,by have u:=cy.out.setKnew de.out c6.out (by simp only[zem];exact bp) (by simp only[zem];exact cv.out) true;have T:=c9.out;simp only[Bool.true_or]at T;simp only[T,zhu]at u;exact u,z.out.set (.inl ds) dr _,L.out.setCell dq _⟩
     case measure=>simp[intOf];omega
    refine wp_region_still_tail 22 (by kernel_rfl) (by kernel_rfl) ?_;simp only[zD];change wpStill _ _ (wr).drew (fun ce=>wpList _ _ _ _ ce (wr).drew) _ _;rw[df.out];generalize an:Act.mk _ _=A0;repeat (refine wpStill_step (fun cd af=>?_);subst an;go_simp;(try rw[zN (by decide)]);generalize an:Act.mk _ _=A0;refine af A0 ?_;clear af cd)
    refine wpStill_nil ?_;subst an;go_wp2_with fail;go_roundw
    case rel=>exact⟨j+1,by simp,bb,by have u:=cy.out.setKnew de.out c6.out (by simp only[zem];exact bp) (by simp only[zem];exact cv.out) y;have T:=c9.out;simp only[Bool.false_or]at T;simp only[T,zhu]at u;exact u,z.out.set (.inl ds) dr _,L.out.setCell dq _⟩
    case measure=>simp[intOf];omega
   obtain rfl:j=E.length:=by omega
   have b1:=zH ag;have z:=zH ad;have L:=zH hb;clear ag ad hb;go_wp2_with fail;refine b0.out _ _ ?_;clear b0;go_wp2_with fail;go_roundw
   case measure=>simp[intOf];omega
   case rel=>exact⟨m+1,bi,by simp,by omega,by omega,by rw[cz.out,<- ek.out];have u:=b1.out;rwa[zt0 a9.out cx.out]at u,ah.out,z.out,L.out⟩
 obtain rfl:m=4:=by omega
 obtain⟨r0,a,b,c,eh⟩:=yax (c8.out.meetA 4).len;have b8:=zH (c8.out.met eh);have br:=c8.out.meetA 4;rw[eh]at br h;have gm:=zH eh;have bz:=zH br.hist;have dw:=br.each 1 a rfl;have av:=br.each 2 b rfl;have bh:=br.each 3 c rfl;have fq:=zH ((dw.is.lim bz.out (dw.vec br.few bz.out.most)).small (n:=400) (by decide));have fr:=zH ((av.is.lim bz.out (av.vec br.few bz.out.most)).small (n:=400) (by decide));have fs:=zH ((bh.is.lim bz.out (bh.vec br.few bz.out.most)).small (n:=400) (by decide));have ga:ofM a.s.all (zac 0)<18446744073709551616:=(by have:=dw.most (zac 0);have:=bz.out.most;omega);have fg:=zH (show a.knew.length=E.length by rw[dw.knew,Qg]);have fh:=zH (show b.knew.length=E.length by rw[av.knew,Qg]);have fi:=zH (show c.knew.length=E.length by rw[bh.knew,Qg]);obtain⟨⟨v1,v2,v3,bv,bw⟩,N,ap⟩:=h.out.get (k:=1) (r:=a) rfl;obtain⟨ay,a1,a7,a2,a8,a3,rfl,rfl,rfl⟩:=ap.st.fm;have V:=zH N;have cq:=zH ap.st;have am:=zH (fun(t:Xd) (o:Ext wr t)=>(show t.cell? ⟨R,5,none⟩=some (Xa ay a.s.all.length a1)/\t.cell? ⟨R,5+1,none⟩=some (Xa a7 a.s.entries.length a2)/\t.cell? ⟨R,5+2,none⟩=some (Xa a8 a.s.pruned.length a3)from⟨o.cell (h.out.cell (j:=0) N rfl),o.cell (h.out.cell (j:=1) N rfl),o.cell (h.out.cell (j:=2) N rfl)⟩));have g9:q4<=wr.heap.size:=Nat.le_of_lt (z.out.rows _ (Qk.2 rfl)).2.2.lt;obtain⟨eo,rfl⟩:∃t:Xd,t=wr:=⟨_,rfl⟩
 clear br eh dw av bh N ap d9 ea ct c8
 (try rw[show((4:Nat):Int)=4 from rfl])
 go_wp2_with fail;refine M.out _ _ ?_;clear M;refine wpH ?_;intro K M;refine zat [fun v _=>v=Xa (some ⟨R,0,none⟩) 4 4,fun v _=>v=Xb (some ⟨R,5,none⟩),fun v _=>v=Xb (some ⟨R,5,none⟩),fun v _=>v=Xb (some ⟨R,5,none⟩),fun v _=>v=Xa ay a.s.all.length a1,fun v _=>v=U (ofM a.s.all (zac 0)),fun v _=>v=Xa (some ⟨R,0,none⟩) 4 4,fun v _=>v=Xb (some ⟨R,5,none⟩),fun v _=>v=Xb (some ⟨R,5,none⟩),fun v _=>v=Xb (some ⟨R,5,none⟩),fun v _=>v=Xa ay a.s.all.length a1,fun v _=>v=U (ofM a.s.all (zac 1)),fun v _=>v=.agg #[St (zac 0),U (ofM a.s.all (zac 0)),St (zac 1),U (ofM a.s.all (zac 1))],fun v W=>∃g,v=Xb (some ⟨g,0,none⟩)/\eo.heap.size<=g/\RowIs W g 29 [St [],U 0,St [],U 0] []] rfl (by kernel_rfl) ?hR ?hstep ?hend
 case hR=>simp only[zM];exact⟨kP,kP,kP,kP,kP,kP,kP,kP,kP,kP,kP,kP,kP,fun v _ _ u o=>by obtain⟨g,e,h1,T⟩:=u;exact⟨g,e,h1,T.ext o⟩⟩
 case hstep =>
  simp only[zS,zD,Qc,zbj]
  and_intros<;>intro x W o f
  ·have h0:x 0=Xa (some ⟨R,0,none⟩) 4 4:=f.1;go_wp;exact sQ
  iterate 3 · have h0:_=_:=f.1;go_wp;exact sQ
  ·have h0:_=_:=f.1;obtain⟨a0,c1,c2⟩:=am.out W o;go_wp;exact sQ
  ·have h0:_=_:=f.1;have al:=zH (ze1 (zac 0) (cq.out.all.ext (by decide) o));go_wp;refine al.out.mono ?_;rintro r di⟨rfl,bt⟩;dsimp only;go_wp;exact zaa rfl bt
  ·have h0:x 0=Xa (some ⟨R,0,none⟩) 4 4:=f.1;go_wp;exact sQ
  iterate 3 · have h0:_=_:=f.1;go_wp;exact sQ
  ·have h0:_=_:=f.1;obtain⟨a0,c1,c2⟩:=am.out W o;go_wp;exact sQ
  ·have h0:_=_:=f.1;have al:=zH (ze1 (zac 1) (cq.out.all.ext (by decide) o));go_wp;refine al.out.mono ?_;rintro r di⟨rfl,bt⟩;dsimp only;go_wp;exact zaa rfl bt
  ·have h0:_=_:=f.1;have h1:_=_:=f.2.1;go_wp;exact sQ
  have ha:=o.size;have eg:=zaf W 29 [St [],U 0,St [],U 0];go_wp;exact zaa ⟨_,rfl,ha,eg⟩ ((Xf W).alloc _)
 case hend =>
  intro x en d2 f;have fz:x 74=.agg #[St (zac 0),U (ofM a.s.all (zac 0)),St (zac 1),U (ofM a.s.all (zac 1))]:=f.2.2.2.2.2.2.2.2.2.2.2.2.1;obtain⟨P,f2,d8,cu⟩:=f.2.2.2.2.2.2.2.2.2.2.2.2.2.1;obtain⟨s0,r1,O,hc⟩:=cu.p4;obtain⟨fa,fb,fc,gh⟩:=cu.q4;have e4:RowIs ((((en.setCell ⟨P,0,none⟩ (St (zac 0))).setCell ⟨P,1,none⟩ (U (ofM a.s.all (zac 0)))).setCell ⟨P,2,none⟩ (St (zac 1))).setCell ⟨P,3,none⟩ (U (ofM a.s.all (zac 1)))) P 29 [St (zac 0),U (ofM a.s.all (zac 0)),St (zac 1),U (ofM a.s.all (zac 1))] []:=ybj cu;have e7:Ext eo ((((en.setCell ⟨P,0,none⟩ (St (zac 0))).setCell ⟨P,1,none⟩ (U (ofM a.s.all (zac 0)))).setCell ⟨P,2,none⟩ (St (zac 1))).setCell ⟨P,3,none⟩ (U (ofM a.s.all (zac 1)))):=(((d2.set d8 _).set d8 _).set d8 _).set d8 _;obtain⟨d5,es⟩:∃t,((((en.setCell ⟨P,0,none⟩ (St (zac 0))).setCell ⟨P,1,none⟩ (U (ofM a.s.all (zac 0)))).setCell ⟨P,2,none⟩ (St (zac 1))).setCell ⟨P,3,none⟩ (U (ofM a.s.all (zac 1))))=t:=⟨_,rfl⟩
  rw[es]at e4 e7;have fo:=zH es;have cp:=zH e4;have cc:=zH e7;clear d2 f cu e4 e7 es;simp only[zS,zD,zU,Qc,Qe,zav,Act.put,fz,f2];go_wp
  (try rw[fo.out])
  refine M.out _ _ ?_;clear M K s0 r1 O hc fa fb fc gh fo fz f2;have h:=zH (h.out.ext cc.out);have L:=zH (zcw L.out (show base<=eo.heap.size by omega) cc.out);have z:=zH (z.out.ext cc.out);have cq:=zH (cq.out.ext cc.out);have am:=zH (fun(t:Xd) (o:Ext d5 t)=>am.out t (cc.out.trans o));have hp:=Qh g9 cc.out.size;obtain⟨l,d7⟩:∃x,ygo a=x:=⟨_,rfl⟩
  have fk:=zH (show zee a.s (zac 1) (ofM a.s.all (zac 0))=(l,0) by rw[<- d7];exact b8.out.res);have g1:P≠R:=(by omega);have g2:q4<=P:=(by omega);clear cc;refine wpH ?_;intro K M;refine zc7 [some fun v=>v=Xa (some ⟨R,0,none⟩) 4 4,some fun v=>v=Xb (some ⟨R,5,none⟩),some fun v=>v=Xb (some ⟨R,5,none⟩),some fun v=>v=stV (Xa ay a.s.all.length a1) (Xa a7 a.s.entries.length a2) (Xa a8 a.s.pruned.length a3),some fun v=>v=Xb (some ⟨P,2,none⟩),some fun v=>v=St (zac 1),some fun v=>v=Xb (some ⟨P,1,none⟩),some fun v=>v=U (ofM a.s.all (zac 0)),none,none,none,some fun v=>v=I 0,none,none] (fun st w'=>BoxK d5.heap.size 26 zol (CSt d5.heap.size l) (tupS 0) agS 8 9 10 12 13 st w') rfl (by kernel_rfl) ?hK ?h0 ?hstep ?hend
  case hK=>exact fun st w w' u o=>u.ext CSt.keep o
  case h0=>exact BoxK.start _
  case hstep =>
   simp only[zS,zD,Qc,zew,zf6]
   and_intros<;>intro x W st o hK
   ·intro f;have h0:x 0=Xa (some ⟨R,0,none⟩) 4 4:=f.1;clear hK;go_wp;exact sQ
   ·intro f;have h0:_=_:=f.1;clear hK;go_wp;exact sQ
   ·intro f;have h0:_=_:=f.1;clear hK;go_wp;exact sQ
   ·intro f;have h0:_=_:=f.1;clear hK;obtain⟨a0,c1,c2⟩:=am.out W o;go_wp;exact sQ
   ·intro f;have h0:x 8=Xb (some ⟨P,0,none⟩):=f.1;clear hK;go_wp;exact sQ
   ·intro f;have h0:_=_:=f.1;clear hK;have dk:=(cp.out.ext o).cell (j:=2) rfl;go_wp;exact sQ
   ·intro f;have h0:x 8=Xb (some ⟨P,0,none⟩):=f.1;clear hK;go_wp;exact sQ
   ·intro f;have h0:_=_:=f.1;clear hK;have d1:=(cp.out.ext o).cell (j:=1) rfl;go_wp;exact sQ
   ·intro ae f;have h0:_=_:=f.1;have h1:_=_:=f.2.1;have T:_=_:=f.2.2.1;have al:=zH (zl0 (zac 1) (ofM a.s.all (zac 0)) ga (cq.out.ext o) fq.out);rw[fk.out]at al;have bg:=zH hK;clear hK f;go_wp;refine al.out.mono ?_;rintro r t⟨he,hf,hg,rfl,ey,b7⟩;obtain⟨B,G,C,H,D,J,rfl,rfl,rfl⟩:=ey.fm;have c0:=zH ey;clear ey;dsimp only;go_wp;exact za2 ⟨bg.out.call (xs:=[Xa B l.all.length G,Xa C l.entries.length H,Xa D l.pruned.length J]) (by decide) ae b7 o.size ⟨B,G,C,H,D,J,rfl,c0.out.mono fun b hb u=>⟨⟨u,hb⟩,Qh o.size u⟩⟩,o.trans b7⟩
   ·intro ae f;have h0:st 8=some (x 84):=f.1;have bg:=zH (hK.move (by decide) h0);clear hK;go_wp;exact za2 ⟨bg.out,o⟩
   ·intro ae f;have h0:st 9=some (x 75):=f.1;obtain⟨xs,S,N,⟨B,G,C,H,D,J,rfl,-⟩,af⟩:=hK.part (by decide) h0;have bg:=zH af;clear hK af;go_wp;exact za2 ⟨bg.out,o⟩
   ·intro f;have h0:st 9=some (x 75):=f.1;obtain⟨xs,S,N,⟨B,G,C,H,D,J,rfl,-⟩,af⟩:=hK.part (by decide) h0;have bg:=zH af;clear hK af;go_wp;exact sQ
   ·intro ae f;have bg:=zH hK;clear hK;go_wp;exact za2 ⟨bg.out.alloc CSt.keep (by decide) ae o.size,o.alloc _⟩
   intro ae f;have h0:st 12=some (x 9):=f.1;have h1:st 10=some (x 85):=f.2.1;obtain⟨xs,S,dm,N,hn,f8,Q,⟨B,G,C,H,D,J,rfl,-⟩,f6⟩:=hK.store CSt.keep (by decide) h1 h0 ae;obtain⟨r0,r1,O⟩:=Q.p3;obtain⟨fa,fb,fc⟩:=Q.q3;have f5:=f6 (((W.setCell ⟨dm,0,none⟩ (Xa B l.all.length G)).setCell ⟨dm,1,none⟩ (Xa C l.entries.length H)).setCell ⟨dm,2,none⟩ (Xa D l.pruned.length J)) (Xc true) (zi0 Q) (Nat.le_of_eq (zjl W dm (Xa B l.all.length G) (Xa C l.entries.length H) (Xa D l.pruned.length J)).symm) (fun y bu=>zht W dm (Xa B l.all.length G) (Xa C l.entries.length H) (Xa D l.pruned.length J) y bu);have ge:=zi1 o f8 (Xa B l.all.length G) (Xa C l.entries.length H) (Xa D l.pruned.length J);have bg:=zH f5;have gn:=zH ge;clear hK f6 f5 ge Q h0 h1;go_wp;exact za2 (v:=Xc true) ⟨bg.out,gn.out⟩
  case hend =>
   intro x b2 st d2 hK ae f;have f3:st 12=some (x 9):=f.2.2.2.2.2.2.2.2.2.2.2.2.1;have fu:x 86=I 0:=f.2.2.2.2.2.2.2.2.2.2.2.1;obtain⟨xs,S,bn,fw,f8,eg,⟨Z,X,aa,Y,ab,ac,rfl,b5⟩,gx⟩:=hK.done f3 (ae 13 (show 13<14 by decide) rfl);have em:=zH eg;have fl:=zH (b5.mono fun b _ hb=>h.out.free_new hb.2);have cr:=zH d2;clear hK ae f eg b5 gx f3 d2;simp only[zS,zD,zU,Qc,Qe,zav,Act.put,fw,fu];go_wp;refine M.out _ _ ?_;clear M K fw fu;have hq:=cr.out.size;have L:=zH (zcw L.out (show base<=d5.heap.size by omega) cr.out);have z:=zH (z.out.ext cr.out);have cp:=zH (cp.out.ext cr.out);have h:=zH (h.out.ext cr.out)
   have f9:Keep q4 R ak w [(q4,29,[St [],U 0,St [],U 0]),(P,29,prC (ygr a)),(bn,26,[Xa Z l.all.length X,Xa aa l.entries.length Y,Xa ab l.pruned.length ac])] b2:=⟨fun r Q=>by
    simp only[List.mem_cons,List.not_mem_nil,or_false]at Q;rcases Q with rfl|rfl|rfl
    ·exact z.out.rows _ (Qk.2 rfl)
    ·exact⟨g2,g1,cp.out⟩
    exact⟨by show q4<=bn;omega,by show bn≠R;omega,em.out⟩,z.out.size,z.out.same⟩
   have z:=zH f9;clear f9 cr cp am cq fk;refine wpH ?_;intro K M;go_wp2_with fail;refine M.out _ _ ?_;clear M K;have da:=zH d7;have au:=h.out.lo
   have bd:MemX (fun b=>b=q4) (((b2.setCell ⟨R,5,none⟩ (Xa Z l.all.length X)).setCell ⟨R,6,none⟩ (Xa aa l.entries.length Y)).setCell ⟨R,7,none⟩ (Xa ab l.pruned.length ac)) base R (ax.set 1 ⟨Xa Z l.all.length X,Xa aa l.entries.length Y,Xa ab l.pruned.length ac,bv,bw⟩) (ygz r0 a b c 2) (Xa aq E.length aw) E:=by have u:=h.out.putS (k:=1) (r:=a) V.out rfl fl.out;rw[show ygz r0 a b c 2 = [r0,{ a with s:=l },b,c] by rw[<- d7];rfl];exact u
   have ba:Below base w (((b2.setCell ⟨R,5,none⟩ (Xa Z l.all.length X)).setCell ⟨R,6,none⟩ (Xa aa l.entries.length Y)).setCell ⟨R,7,none⟩ (Xa ab l.pruned.length ac)):=((L.out.setCell au _).setCell au _).setCell au _;have bc:Keep q4 R ak w [(q4,29,[St [],U 0,St [],U 0]),(P,29,prC (ygr a)),(bn,26,[Xa Z l.all.length X,Xa aa l.entries.length Y,Xa ab l.pruned.length ac])] (((b2.setCell ⟨R,5,none⟩ (Xa Z l.all.length X)).setCell ⟨R,6,none⟩ (Xa aa l.entries.length Y)).setCell ⟨R,7,none⟩ (Xa ab l.pruned.length ac)):=((z.out.set (.inr rfl) bj.out _).set (.inr rfl) bj.out _).set (.inr rfl) bj.out _;have a4:=ah.out.set V.out (Xa Z l.all.length X) (Xa aa l.entries.length Y) (Xa ab l.pruned.length ac);have gd:=Qd (a:=(⟨Xa Z l.all.length X,Xa aa l.entries.length Y,Xa ab l.pruned.length ac,bv,bw⟩:RepV)) (Qa.1 V.out).1;have a0:b2.cell? ⟨R,5,none⟩=_:=h.out.cell (j:=0) V.out rfl;have c1:b2.cell? ⟨R,6,none⟩=_:=h.out.cell (j:=1) V.out rfl;have c2:b2.cell? ⟨R,7,none⟩=_:=h.out.cell (j:=2) V.out rfl;have d3:=h.out.row.frozen 5;have bx:=h.out.row.frozen 6;have co:=h.out.row.frozen 7;obtain⟨d0,d1,dk⟩:=em.out.p3;obtain⟨hk,et⟩:∃t,(((b2.setCell ⟨R,5,none⟩ (Xa Z l.all.length X)).setCell ⟨R,6,none⟩ (Xa aa l.entries.length Y)).setCell ⟨R,7,none⟩ (Xa ab l.pruned.length ac))=t:=⟨_,rfl⟩
   rw[et]at bd ba bc;have h:=zH bd;have L:=zH ba;have z:=zH bc;have ah:=zH a4;have fn:=zH gd;clear bd ba bc a4 gd au V fl d7;refine wpH ?_;intro K M;go_wp2_with fail
   (try rw[et])
   refine M.out _ _ ?_;clear M K;clear et a0 c1 c2 d3 bx co d0 d1 dk em fq ga;refine wpH ?_;intro K M;go_wp2_with fail
   go_loopw [11] (fun i wr=>∃(m:Nat) (ax:List RepV) (bv bw:Xe),i=I m/\2<=m/\m<=4/\MemX (fun b=>b=q4) wr base R ax (ygz r0 a b c m) (Xa aq E.length aw) E/\ax[1]? = some ⟨Xa Z l.all.length X,Xa aa l.entries.length Y,Xa ab l.pruned.length ac,bv,bw⟩/\KnOld q4 ak ax/\Keep q4 R ak w [(q4,29,[St [],U 0,St [],U 0]),(P,29,prC (ygr a)),(bn,26,[Xa Z l.all.length X,Xa aa l.entries.length Y,Xa ab l.pruned.length ac])] wr/\Below base w wr) (fun i _=>4-(intOf i).toNat)
   case atStart=>exact⟨2,_,_,_,rfl,Ql _,by decide,h.out,fn.out,ah.out,z.out,L.out⟩
   clear h fn ah z L;obtain⟨m,ax,bv,bw,rfl,d9,ea,ag,ck,dt,ad,hb⟩:=hrel;have h:=zH ag;have ah:=zH dt;have z:=zH ad;have L:=zH hb;have dc:=zH ck;clear ag dt ad hb ck
   by_cases ct:m<4
   ·skip
    obtain⟨r,Q,eb,ew⟩:∃r,(ygz r0 a b c m)[m]? = some r/\ygz r0 a b c (m+1)=(ygz r0 a b c m).set m { r with s:=zb9 r.s l,knew:=orL r.knew a.knew }/\(r=b ∨ r=c):=by
     rw[<- da.out];rcases(show m=2 ∨ m=3 by omega)with rfl|rfl
     ·exact⟨b,rfl,rfl,.inl rfl⟩
     exact⟨c,rfl,rfl,.inr rfl⟩
    obtain⟨q,ed⟩:∃x:Rep,(⟨l,a.knew,a.asked⟩:Rep)=x:=⟨_,rfl⟩
    have a5:(ygz r0 a b c m)[1]? = some q:=by rw[<- ed,<- da.out];rcases(show m=2 ∨ m=3 by omega)with rfl|rfl<;>rfl
    have e1:q.knew=a.knew:=(by rw[<- ed]);have gb:q.s=l:=(by rw[<- ed]);obtain⟨cm,dx⟩:∃x,ygz r0 a b c m=x:=⟨_,rfl⟩
    rw[dx]at h eb Q a5;clear dx ed;obtain⟨⟨v1,v2,v3,gf,gg⟩,N,ap⟩:=h.out.get Q;obtain⟨ay,a1,a7,a2,a8,a3,rfl,rfl,rfl⟩:=ap.st.fm;have e3:=(h.out.rep 1 _ _ dc.out a5).st;rw[gb]at e3;have b9:=zH Q;have V:=zH N;have cb:=zH ap.st;have db:=zH e3;have a9:=zH (show r.knew.length=E.length by rcases ew with rfl|rfl;exact fh.out;exact fi.out);have cx:=zH (show q.knew.length=E.length by rw[e1];exact fg.out);have dg:=zH (show SmallS r.s by rcases ew with rfl|rfl;exact fr.out;exact fs.out);have dh:=zH (show SmallS l by rw[<- da.out];exact(b8.out.is.lim bz.out b8.out.vec).small (n:=400) (by decide));have am:=zH (fun(t:Xd) (o:Ext wr t)=>(show t.cell? ⟨R,m * 5,none⟩=some (Xa ay r.s.all.length a1)/\t.cell? ⟨R,m * 5+1,none⟩=some (Xa a7 r.s.entries.length a2)/\t.cell? ⟨R,m * 5+2,none⟩=some (Xa a8 r.s.pruned.length a3)from⟨o.cell (h.out.cell (j:=0) N rfl),o.cell (h.out.cell (j:=1) N rfl),o.cell (h.out.cell (j:=2) N rfl)⟩));have d4:=zH trivial;obtain⟨p,hJ⟩:∃x,zb9 r.s l=x:=⟨_,rfl⟩
    rw[hJ,<- e1]at eb;have cz:=zH eb;have cw:=zH hJ;have c5:=zH a5;clear Q N ap e3 hJ eb ew e1 gb a5;go_wp2_with fail;rename_i fp b3 K hK;have b0:=zH b3;have M:=zH hK;clear hK b3;refine zat [fun v _=>v=Xa (some ⟨R,0,none⟩) 4 4,fun v _=>v=I m,fun v _=>v=Xa (some ⟨R,0,none⟩) 4 4,fun v _=>v=I m,fun v _=>v=Xb (some ⟨R,m * 5,none⟩),fun v _=>v=Xb (some ⟨R,m * 5,none⟩),fun v _=>v=stV (Xa ay r.s.all.length a1) (Xa a7 r.s.entries.length a2) (Xa a8 r.s.pruned.length a3),fun v _=>v=stV (Xa Z l.all.length X) (Xa aa l.entries.length Y) (Xa ab l.pruned.length ac),fun v W=>∃B G C H D J,v=stV (Xa B p.all.length G) (Xa C p.entries.length H) (Xa D p.pruned.length J)/\StAt W (fun b=>wr.heap.size<=b) p (Xa B p.all.length G) (Xa C p.entries.length H) (Xa D p.pruned.length J),fun v _=>v=Xb (some ⟨R,m * 5,none⟩),fun v _=>v=Xb (some ⟨R,m * 5,none⟩)] rfl (by kernel_rfl) ?hR ?hstep ?hend
    case hR=>simp only[zM];exact⟨kP,kP,kP,kP,kP,kP,kP,kP,fun v _ _ u o=>by obtain⟨B,G,C,H,D,J,e,u⟩:=u;exact⟨B,G,C,H,D,J,e,u.ext o⟩,kP,kP⟩
    case hstep =>
     simp only[zS,zD,Qc,zbj]
     and_intros<;>intro x W o f
     ·have h0:x 0=Xa (some ⟨R,0,none⟩) 4 4:=f.1;go_wp;exact sQ
     ·have h0:x 11=I m:=f.1;go_wp;exact sQ
     ·have h0:x 0=Xa (some ⟨R,0,none⟩) 4 4:=f.1;go_wp;exact sQ
     ·have h0:x 11=I m:=f.1;go_wp;exact sQ
     ·have h0:_=_:=f.1;have h1:_=_:=f.2.1;go_wp;exact sQ
     ·have h0:_=_:=f.1;go_wp;exact sQ
     ·have h0:_=_:=f.1;obtain⟨a0,c1,c2⟩:=am.out W o;go_wp;exact sQ
     ·have h0:x 9=Xb (some ⟨bn,0,none⟩):=f.1;have d:=z.out.ext o;have dl:=(d.rows (bn,26,[Xa Z l.all.length X,Xa aa l.entries.length Y,Xa ab l.pruned.length ac]) (by simp)).2.2;obtain⟨d0,d1,dk⟩:=dl.p3;clear d dl;go_wp;exact sQ
     ·have h0:_=_:=f.1;have h1:_=_:=f.2.1;have al:=zH (zib (cb.out.ext o) (db.out.ext o) dg.out dh.out);rw[cw.out]at al;go_wp;refine al.out.mono ?_;rintro e t⟨bx,co,hi,rfl,ae,b7⟩;obtain⟨B,G,C,H,D,J,rfl,rfl,rfl⟩:=ae.fm;have c0:=zH ae.at;clear ae;dsimp only;go_wp;exact zaa ⟨B,G,C,H,D,J,rfl,c0.out.mono fun b _ u=>Qh o.size u⟩ b7
     ·have h0:_=_:=f.1;have h1:_=_:=f.2.1;go_wp;exact sQ
     have h0:_=_:=f.1;go_wp;exact sQ
    case hend =>
     intro x aj bf f;have fv:x 110=Xb (some ⟨R,m * 5,none⟩):=f.2.2.2.2.2.2.2.2.2.2.1;obtain⟨B,G,C,H,D,J,ft,b5⟩:=f.2.2.2.2.2.2.2.2.1;clear f;have c3:=zH (b5.mono fun b _ hb=>h.out.free_new hb);have L:=zH (zcw L.out h.out.bl bf);have z:=zH (z.out.ext bf);have h:=zH (h.out.ext bf);have a0:aj.cell? ⟨R,m * 5,none⟩=_:=h.out.cell (j:=0) V.out rfl;have c1:aj.cell? ⟨R,m * 5+1,none⟩=_:=h.out.cell (j:=1) V.out rfl;have c2:aj.cell? ⟨R,m * 5+2,none⟩=_:=h.out.cell (j:=2) V.out rfl;have d3:=h.out.row.frozen (m * 5);have bx:=h.out.row.frozen (m * 5+1);have co:=h.out.row.frozen (m * 5+2);clear b5 bf;simp only[zS,zD,zU,Qc,Qe,zav,Act.put,ft,fv];go_wp;refine M.out _ _ ?_;clear M K a0 c1 c2 d3 bx co am d4;have au:=h.out.lo;have bd:MemX (fun b=>b=q4) (((aj.setCell ⟨R,m * 5,none⟩ (Xa B p.all.length G)).setCell ⟨R,m * 5+1,none⟩ (Xa C p.entries.length H)).setCell ⟨R,m * 5+2,none⟩ (Xa D p.pruned.length J)) base R _ _ (Xa aq E.length aw) E:=h.out.putS (k:=m) V.out b9.out c3.out;have ba:Below base w (((aj.setCell ⟨R,m * 5,none⟩ (Xa B p.all.length G)).setCell ⟨R,m * 5+1,none⟩ (Xa C p.entries.length H)).setCell ⟨R,m * 5+2,none⟩ (Xa D p.pruned.length J)):=((L.out.setCell au _).setCell au _).setCell au _;have bc:Keep q4 R ak w [(q4,29,[St [],U 0,St [],U 0]),(P,29,prC (ygr a)),(bn,26,[Xa Z l.all.length X,Xa aa l.entries.length Y,Xa ab l.pruned.length ac])] (((aj.setCell ⟨R,m * 5,none⟩ (Xa B p.all.length G)).setCell ⟨R,m * 5+1,none⟩ (Xa C p.entries.length H)).setCell ⟨R,m * 5+2,none⟩ (Xa D p.pruned.length J)):=((z.out.set (.inr rfl) bj.out _).set (.inr rfl) bj.out _).set (.inr rfl) bj.out _;have a4:=ah.out.set V.out (Xa B p.all.length G) (Xa C p.entries.length H) (Xa D p.pruned.length J);obtain⟨di,dn⟩:∃t,(((aj.setCell ⟨R,m * 5,none⟩ (Xa B p.all.length G)).setCell ⟨R,m * 5+1,none⟩ (Xa C p.entries.length H)).setCell ⟨R,m * 5+2,none⟩ (Xa D p.pruned.length J))=t:=⟨_,rfl⟩
     rw[dn]at bd ba bc ⊢;clear dn;obtain⟨bi,b6⟩:∃x,ax.set m (⟨Xa B p.all.length G,Xa C p.entries.length H,Xa D p.pruned.length J,gf,gg⟩:RepV)=x:=⟨_,rfl⟩
     replace a4:KnOld q4 ak bi:=b6▸a4;have dc:Hid (bi[1]? = some ⟨Xa Z l.all.length X,Xa aa l.entries.length Y,Xa ab l.pruned.length ac,bv,bw⟩):=zH (by rw[<- b6,Qj (by omega)];exact dc.out);have h:=zH bd;have L:=zH ba;have z:=zH bc;have ah:=zH a4;obtain⟨az,be⟩:∃x,cm.set m { r with s:=p }=x:=⟨_,rfl⟩
     have T:az[m]? = some { r with s:=p }:=(by rw[<- be];exact Qd (Qa.1 b9.out).1);have du:az[1]? = some q:=(by rw[<- be,Qj (by omega)];exact c5.out);obtain⟨O,bq⟩:∃x:Rep,({ r with s:=p }:Rep)=x:=⟨_,rfl⟩
     rw[bq]at T;have cj:O.knew=r.knew:=(by rw[<- bq]);have ca:=zH T;have el:=zH du;have a9:=zH (show O.knew.length=E.length by rw[cj];exact a9.out);have ek:=zH (show az.set m { O with knew:=orL O.knew q.knew }=cm.set m { r with s:=p,knew:=orL r.knew q.knew } by rw[cj,<- be,<- bq,zhu]);rw[be]at h;replace h:Hid (MemX (fun b=>b=q4) di base R bi az (Xa aq E.length aw) E):=b6▸h;clear b6 bd ba bc a4 au T du cj bq be c3 V b9 c5 cb db dg dh cw ft fv;go_wp2_with fail
     go_loopw [12] (fun i wr=>∃(j:Nat),i=I j/\j<=E.length/\MemX (fun b=>b=q4) wr base R bi (az.set m { O with knew:=orP O.knew q.knew j }) (Xa aq E.length aw) E/\Keep q4 R ak w [(q4,29,[St [],U 0,St [],U 0]),(P,29,prC (ygr a)),(bn,26,[Xa Z l.all.length X,Xa aa l.entries.length Y,Xa ab l.pruned.length ac])] wr/\Below base w wr) (fun i _=>E.length-(intOf i).toNat)
     case atStart=>exact⟨0,rfl,Nat.zero_le _,by rw[zr1,zrw ca.out];exact h.out,z.out,L.out⟩
     clear z L h;obtain⟨j,rfl,g3,ag,ad,hb⟩:=hrel;have g0:=fe.out
     by_cases bb:j<E.length
     ·obtain⟨x,a6⟩:∃x,O.knew[j]? = some x:=⟨_,Qb (by rw[a9.out];exact bb)⟩
      obtain⟨y,bu⟩:∃y,q.knew[j]? = some y:=⟨_,Qb (by rw[cx.out];exact bb)⟩
      obtain⟨q3,dv,cl⟩:=zp7 ca.out el.out a6 bu;have ci:(az.set m { O with knew:=orP O.knew q.knew j })[m]? = some { O with knew:=orP O.knew q.knew j }:=Qd (Qa.1 ca.out).1;have c9:=zH (zr3 a6 bu);have bt:(orP O.knew q.knew j)[j]? = some x:=(by rw[zr2];exact a6);have bo:Ext wr wr.drew:=(Xf wr).drew;have ao:=ag.drew;have cg:=ad.ext bo;obtain⟨dj,cf⟩:∃t,wr.drew=t:=⟨_,rfl⟩
      rw[cf]at ao bo cg;obtain⟨cn,bs,av⟩:=ao.get ci;obtain⟨e9,dz,bh⟩:=ao.get dv;obtain⟨bm,c1,ar,-,-,X,bx⟩:=av.bit bt;obtain⟨gv,c2,cs,-,-,Y,-⟩:=bh.bit cl;simp only[zem]at ar;have e5:dj.cell? ⟨R,m * 5+3,none⟩=some cn.kn:=ao.cell (j:=3) bs rfl;have e6:dj.cell? ⟨R,8,none⟩=some e9.kn:=ao.cell (j:=3) dz rfl;rw[ar]at e5;rw[cs]at e6;have cy:=zH ao;have de:=zH bs;have cv:=zH ar;have c6:=zH ci;have z:=zH cg;have dy:=ag.bl;have L:=zH (zcw hb dy bo);have bp:j<O.knew.length:=(by rw[a9.out];exact bb);have g4:j<q3.knew.length:=(Qa.1 cl).1;have ch:zad cn.kn bm:=⟨bm,_,c1,ar,by obtain⟨A,c,e,h1,T⟩:=av.kn.form;rw[ar]at e;injection e with _ _ d6;subst d6;simp only[zem]at h1;omega,rfl⟩
      have dq:base<=bm:=(av.kn.base_le ch).1;obtain⟨ds,dr⟩:=ah.out cn (Qi bs) bm ch;have df:=zH cf;clear ag hb a6 bu dv cl dz av bh bo ao cg ad bs ch ar cs ci bt cf dy;go_wp2_with fail
      cases x
      case true=>
       refine wp_region_still_tail 23 (by kernel_rfl) (by kernel_rfl) ?_;simp only[zD];change wpStill _ _ (wr).drew (fun ce=>wpList _ _ _ _ ce (wr).drew) _ _;rw[df.out];generalize an:Act.mk _ _=A0;repeat (refine wpStill_step (fun cd af=>?_);subst an;go_simp;(try rw[zN (by decide)]);generalize an:Act.mk _ _=A0;refine af A0 ?_;clear af cd)
       refine wpStill_nil ?_;subst an;go_wp2_with fail;go_roundw
       case rel=>exact⟨j+1,by simp,bb,by have u:=cy.out.setKnew de.out c6.out (by simp only[zem];exact bp) (by simp only[zem];exact cv.out) true;have T:=c9.out;simp only[Bool.true_or]at T;simp only[T,zhu]at u;exact u,z.out.set (.inl ds) dr _,L.out.setCell dq _⟩
       case measure=>simp[intOf];omega
      refine wp_region_still_tail 23 (by kernel_rfl) (by kernel_rfl) ?_;simp only[zD];change wpStill _ _ (wr).drew (fun ce=>wpList _ _ _ _ ce (wr).drew) _ _;rw[df.out];generalize an:Act.mk _ _=A0;repeat (refine wpStill_step (fun cd af=>?_);subst an;go_simp;(try rw[zN (by decide)]);generalize an:Act.mk _ _=A0;refine af A0 ?_;clear af cd)
      refine wpStill_nil ?_;subst an;go_wp2_with fail;go_roundw
      case rel=>exact⟨j+1,by simp,bb,by have u:=cy.out.setKnew de.out c6.out (by simp only[zem];exact bp) (by simp only[zem];exact cv.out) y;have T:=c9.out;simp only[Bool.false_or]at T;simp only[T,zhu]at u;exact u,z.out.set (.inl ds) dr _,L.out.setCell dq _⟩
      case measure=>simp[intOf];omega
     obtain rfl:j=E.length:=by omega
     have b1:=zH ag;have z:=zH ad;have L:=zH hb;clear ag ad hb;go_wp2_with fail;refine b0.out _ _ ?_;clear b0;go_wp2_with fail;go_roundw
     case measure=>simp[intOf];omega
     case rel=>exact⟨m+1,bi,bv,bw,by simp,by omega,by omega,by rw[cz.out,<- ek.out];have u:=b1.out;rwa[zt0 a9.out cx.out]at u,dc.out,ah.out,z.out,L.out⟩
   obtain rfl:m=4:=by omega
   have gj:=zH (prOk_iff.2 b8.out.ok);have gz:=h.out.bl;obtain⟨gp,rfl⟩:∃t:Xd,t=wr:=⟨_,rfl⟩
   clear fr fs fg fh fi dc d9 ea ct
   (try rw[show((4:Nat):Int)=4 from rfl])
   go_wp2_with fail;refine M.out _ _ ?_;clear M;refine wpH ?_;intro K M;go_wp2_with fail
   go_loopw [13] (fun i wr=>∃m:Nat,i=I m/\1<=m/\m<=4/\Ext gp wr) (fun i _=>4-(intOf i).toNat)
   case atStart=>exact⟨1,rfl,Ql _,by decide,Xf _⟩
   obtain⟨m,rfl,hm,ea,a6⟩:=hrel;have bk:=zH a6;clear a6
   by_cases ct:m<4
   ·skip
    obtain⟨r,Q,gc⟩:∃r,(ygz r0 a b c 4)[m]? = some r/\r.s=l:=by
     rw[<- da.out];rcases(show m=1 ∨ m=2 ∨ m=3 by omega)with rfl|rfl|rfl
     ·exact⟨_,rfl,rfl⟩
     ·exact⟨_,rfl,b8.out.jb⟩
     exact⟨_,rfl,b8.out.jc⟩
    obtain⟨⟨v1,v2,v3,gf,gg⟩,N,ap⟩:=h.out.get Q;obtain⟨ay,a1,a7,a2,a8,a3,rfl,rfl,rfl⟩:=ap.st.fm;have cb:=zH (ap.st.ext bk.out);have gl:=zH (show zc3 r.s.all (ygr a)=true by rw[gc,<- da.out];exact b8.out.ready);have am:=zH (fun(t:Xd) (o:Ext wr t)=>(show t.cell? ⟨R,m * 5,none⟩=some (Xa ay r.s.all.length a1)/\t.cell? ⟨R,m * 5+1,none⟩=some (Xa a7 r.s.entries.length a2)/\t.cell? ⟨R,m * 5+2,none⟩=some (Xa a8 r.s.pruned.length a3)from⟨(bk.out.trans o).cell (h.out.cell (j:=0) N rfl),(bk.out.trans o).cell (h.out.cell (j:=1) N rfl),(bk.out.trans o).cell (h.out.cell (j:=2) N rfl)⟩));have z:=zH (z.out.ext bk.out);clear Q N ap gc;go_wp2_with fail;rename_i fp b3 K hK;have b0:=zH b3;have M:=zH hK;clear hK b3;refine zat [fun v _=>v=Xa (some ⟨R,0,none⟩) 4 4,fun v _=>v=I m,fun v _=>v=Xb (some ⟨R,m * 5,none⟩),fun v _=>v=Xb (some ⟨R,m * 5,none⟩),fun v _=>v=stV (Xa ay r.s.all.length a1) (Xa a7 r.s.entries.length a2) (Xa a8 r.s.pruned.length a3),fun v _=>v=prV (ygr a),fun v _=>v=Xc true,fun v _=>v=Xc false,fun v _=>v=Xc false,fun _ _=>True,fun _ _=>True,fun _ _=>True] rfl (by kernel_rfl) ?hR ?hstep ?hend
    case hR=>simp only[zM];exact⟨kP,kP,kP,kP,kP,kP,kP,kP,kP,fun _ _ _ _ _=>trivial,fun _ _ _ _ _=>trivial,fun _ _ _ _ _=>trivial⟩
    case hstep =>
     simp only[zS,zD,Qc,zbj]
     and_intros<;>intro x W o f
     ·have h0:x 0=Xa (some ⟨R,0,none⟩) 4 4:=f.1;go_wp;exact sQ
     ·have h0:x 13=I m:=f.1;go_wp;exact sQ
     ·have h0:_=_:=f.1;have h1:_=_:=f.2.1;go_wp;exact sQ
     ·have h0:_=_:=f.1;go_wp;exact sQ
     ·have h0:_=_:=f.1;obtain⟨a0,c1,c2⟩:=am.out W o;go_wp;exact sQ
     ·have h0:x 8=Xb (some ⟨P,0,none⟩):=f.1;have d:=z.out.ext o;have dl:=(d.rows (P,29,prC (ygr a)) (by simp)).2.2;obtain⟨d0,d1,dk,gr⟩:=dl.p4;clear d dl;go_wp;exact sQ
     ·have h0:_=_:=f.1;have h1:_=_:=f.2.1;have al:=zH (zk6 (ygr a) gj.out (cb.out.ext o));rw[gl.out]at al;go_wp;refine al.out.mono ?_;rintro e t⟨rfl,b7⟩;dsimp only;go_wp;exact zaa rfl b7
     iterate 2 · have h0:_=_:=f.1;go_wp;exact sQ
     ·have f7:_=_:=f.2.1;go_wp;exact zaa trivial (Xf _)
     ·have f7:_=_:=f.2.1;go_wp;exact zaa trivial (Xf _)
     have f7:_=_:=f.2.1;go_wp;exact zaa trivial (Xf _)
    case hend =>
     intro x aj bf f;have gs:x 155=Xc false:=f.2.2.2.2.2.2.2.2.1;clear f;simp only[zS,zD,zU,Qc,Qe,zav,Act.put,gs];go_wp;refine M.out _ _ ?_;clear M K am;go_wp2_with fail;refine b0.out _ _ ?_;clear b0;go_wp2_with fail;go_roundw
     case rel=>exact⟨m+1,by simp,by omega,by omega,bk.out.trans bf⟩
     case measure=>simp[intOf];omega
   obtain rfl:m=4:=by omega
   have h:=zH (h.out.ext bk.out);have z:=zH (z.out.ext bk.out);have L:=zH (zcw L.out gz bk.out);obtain⟨gq,rfl⟩:∃t:Xd,t=wr:=⟨_,rfl⟩
   have cu:=(z.out.rows (P,29,prC (ygr a)) (by simp)).2.2;have e8:=(z.out.rows (q4,29,[St [],U 0,St [],U 0]) (by simp)).2.2;obtain⟨d0,d1,dk,gr⟩:=cu.p4;obtain⟨e0,ar,cs,d6⟩:=e8.p4;obtain⟨fa,fb,fc,gh⟩:=e8.q4;have g7:=fun(j:Nat) (v:Xe) (t:Xd) (u:MemX (fun b=>b=q4) t base R ax (ygz r0 a b c 4) (Xa aq E.length aw) E)=>u.beside (q:=q4) (j:=j) rfl (by omega) (fun v N ez=>Nat.lt_irrefl _ (ah.out v N _ ez).1) gi.out v
   have b1:=zH g7
   (try rw[show((4:Nat):Int)=4 from rfl])
   go_wp2_with fail;refine M.out _ _ ?_;clear M;go_wp2_with fail;obtain⟨ep,dp⟩:∃t,((((gq.setCell ⟨q4,0,none⟩ (St (ygr a).1)).setCell ⟨q4,1,none⟩ (U (ygr a).2.1)).setCell ⟨q4,2,none⟩ (St (ygr a).2.2.1)).setCell ⟨q4,3,none⟩ (U (ygr a).2.2.2))=t:=⟨_,rfl⟩
   have hd:RowIs ep q4 29 (prC (ygr a)) []:=(by rw[<- dp];exact ybj e8);have g8:MemX (fun b=>b=q4) ep base R ax (ygz r0 a b c 4) (Xa aq E.length aw) E:=(by rw[<- dp];exact b1.out _ _ _ (b1.out _ _ _ (b1.out _ _ _ (b1.out _ _ _ h.out))));have ef:base<=q4:=(by omega);have gy:Below base w ep:=(by rw[<- dp];exact(((L.out.setCell ef _).setCell ef _).setCell ef _).setCell ef _);obtain⟨f0,f1,gt,gu⟩:=hd.p4;rw[dp];refine bodyPost_ret (v:=.tuple #[prV (ygr a),Xc true]) (by simp[results,Tryz.f22,go_sem,f0,f1,gt,gu]) rfl ?_
   exact⟨r0,a,b,c,ax,gm.out,rfl,g8.free (fun b u=>u.elim),gy,fun b hb g5=>by have g6:b<q4:=(by omega);have ec:b≠q4:=(by omega);rw[<- dp,Qf _ _ _ b ec,Qf _ _ _ b ec,Qf _ _ _ b ec,Qf _ _ _ b ec];exact z.out.same b (by rw[<- eq];exact hb) g6⟩
end
end Go.Proofs.YtaabaflgeljbjaaGreat
