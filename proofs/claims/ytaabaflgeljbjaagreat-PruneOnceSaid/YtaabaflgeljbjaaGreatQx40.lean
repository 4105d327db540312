/- Laws. -/
import Derived.Test.YtaabaflgeljbjaaGreatQx36
import Derived.Test.YtaabaflgeljbjaaGreatQx39
import Derived.Test.YtaabaflgeljbjaaGreatPr25
import Derived.Laws.BytesArg
set_option linter.unusedVariables false
set_option linter.unusedSimpArgs false
set_option maxRecDepth 100000
set_option maxHeartbeats 40000000
namespace Go.Proofs.YtaabaflgeljbjaaGreat
open Go renaming undef→Qa
open List renaming getElem?_eq_some_iff→Qb,getElem?_mapIdx→Qc,getElem?_set_self→Qe,getElem?_eq_getElem→Qf,eq_of_mem_replicate→Qh,ext_getElem?→Qi,mem_of_getElem?→Qj,filterMap_cons→Qk,length_map→Qn,length_mapIdx→Qo,getElem?_set→Qp,length→Qr,replicate→Qs,getElem?_set_ne→Qt,length_set→Qv
open Nat renaming reduceAdd→Qg,le_trans→Qm,add_zero→Qq,le_refl→Qu
open Option renaming map_some→Ql
open Int renaming tmod_eq_emod_of_nonneg→Qd
section
open Go.RowKit Go.Shelf
abbrev zqv (d:Deed):Value:=.agg #[K8 d.key,K8 d.do_,K8 d.n,.int .i16 d.by_,K8 d.text,K8 d.other,.bool d.asks]
abbrev yb8 (d:Deed):List Value:=[K8 d.key,K8 d.do_,K8 d.n,.int .i16 d.by_,K8 d.text,K8 d.other,.bool d.asks]
theorem zmb:(Tryz.prog.info? 4).map (fun i=>(i.zero,i.size,i.bytes))=some (some (.bool false),1,1):=by kernel_rfl
theorem zvh:(Tryz.prog.info? 179).map (fun i=>(i.zero,i.size,i.bytes))=some (some (.agg #[St [],I 0,K8 0,St [],.slice none 0 0]),5,72):=by kernel_rfl
theorem zvi {W:World} {g n:Nat} (hc:W.cell? ⟨g,0,none⟩=some (.int .u8 (n:Int))):(convert 90 9 (.slice (some ⟨g,0,none⟩) 1 1)).run Tryz.prog W=.ok (St [UInt8.ofNat n]) W:=by
 rw [run_convert_bytes_arg _ 90 5 Tryz.underlying90 Tryz.underlying5 g 0 1 1 [(n:Int)] rfl (fun i hi=>by
  obtain rfl:i=0:=by omega
  exact hc) 9 Tryz.underlying9]
 simp only [strOfNums,List.map_cons,List.map_nil,Int.toNat_natCast]
theorem zi0 {W:World} {g T:Nat} {a b c x y z:Value} (h:RowIs W g T [a,b,c] []):RowIs (((W.setCell ⟨g,0,none⟩ x).setCell ⟨g,1,none⟩ y).setCell ⟨g,2,none⟩ z) g T [x,y,z] []:=by
 have h0:=h.set (j:=0) (Nat.succ_pos _) x;have h1:=h0.set (j:=1) (by simp) y;exact h1.set (j:=2) (by simp) z
theorem zht (W:World) (g:Nat) (x y z:Value) (b:Nat) (hb:b ≠ g):(((W.setCell ⟨g,0,none⟩ x).setCell ⟨g,1,none⟩ y).setCell ⟨g,2,none⟩ z).heap[b]? = W.heap[b]?:=by
 rw [Below.heap_setCell _ _ _ b hb,Below.heap_setCell _ _ _ b hb,Below.heap_setCell _ _ _ b hb]
theorem zjl (W:World) (g:Nat) (x y z:Value):(((W.setCell ⟨g,0,none⟩ x).setCell ⟨g,1,none⟩ y).setCell ⟨g,2,none⟩ z).heap.size=W.heap.size:=by rw [World.size_setCell,World.size_setCell,World.size_setCell]
theorem zi1 {w0 W:World} {g:Nat} (h:Ext w0 W) (hg:w0.heap.size<=g) (x y z:Value):Ext w0 (((W.setCell ⟨g,0,none⟩ x).setCell ⟨g,1,none⟩ y).setCell ⟨g,2,none⟩ z):=((h.set hg x).set hg y).set hg z
def CSt (N:Nat) (s:State) (xs:List Value) (S:Nat->Prop) (W:World):Prop:=∃ B1 m1 B2 m2 B3 m3,xs = [.slice B1 s.all.length m1,.slice B2 s.entries.length m2,.slice B3 s.pruned.length m3]/\StAt W (fun b=>S b/\N<=b) s (.slice B1 s.all.length m1) (.slice B2 s.entries.length m2) (.slice B3 s.pruned.length m3)
theorem CSt.keep {N:Nat} {s:State} (xs:List Value) (S:Nat->Prop) (w w':World) (h:CSt N s xs S w) (hs:∀ b,S b->b < w.heap.size->w'.heap[b]? = w.heap[b]?):CSt N s xs S w':=by
 obtain⟨B1,m1,B2,m2,B3,m3,e,h1⟩:=h;exact⟨B1,m1,B2,m2,B3,m3,e,h1.keep fun b hb hl=>hs b hb.1 hl⟩
abbrev tupS (e:Int) (xs:List Value):Value:=.tuple #[.agg xs.toArray,I e]
abbrev agS (xs:List Value):Value:=.agg xs.toArray
abbrev zol:List Value:=[.slice none 0 0,.slice none 0 0,.slice none 0 0]
theorem Own.src {W:World} {base T n k c:Nat} {A:Option Addr} {xs:List Value} (h:Own W base T k (.slice A n c) n xs) (h1:∀ u ∈ xs,u.oneCell'=true):Src W k A n xs:=by
 refine ⟨h.1,h1,fun hn=>?_⟩;obtain⟨g,cap,cur,hv,-⟩:=h.pos hn;injection hv with e1 e2 e3
 subst e1;exact⟨g,0,rfl,fun j u hj=>by rw [Nat.zero_add];exact h.cell rfl hj⟩
theorem zyd (l:List Bool):∀ u ∈ l.flatMap zdf,u.oneCell'=true:=by
 intro u hu;obtain⟨b,-,hb⟩:=List.mem_flatMap.1 hu;simp [zdf] at hb;subst hb
 rfl
def tabN (i j:Nat):Nat:=([[1,1,1],[2,3,2],[4,4,4]][i]?.getD [])[j]?.getD 0
def SlB (W:World) (v:Value) (i:Nat):Prop:=∃ g,v=.slice (some ⟨g,0,none⟩) 3 3/\∀ j,j < 3->W.cell? ⟨g,j,none⟩=some (.int .u8 ((tabN i j:Nat):Int))
def TabB (W:World) (v:Value):Prop:=∃ g,v=.slice (some ⟨g,0,none⟩) 3 3/\∀ i,i < 3->∃ u,W.cell? ⟨g,i,none⟩=some u/\SlB W u i
def PtrB (W:World) (v:Value) (i:Nat):Prop:=∃ g u,v=.pointer (some ⟨g,i,none⟩)/\W.cell? ⟨g,i,none⟩=some u/\SlB W u i
theorem SlB.ext {W W':World} {v:Value} {i:Nat} (h:SlB W v i) (he:Ext W W'):SlB W' v i:=by
 obtain⟨g,e,h⟩:=h;exact⟨g,e,fun j hj=>he.cell (h j hj)⟩
theorem TabB.ext {W W':World} {v:Value} (h:TabB W v) (he:Ext W W'):TabB W' v:=by
 obtain⟨g,e,h⟩:=h;exact⟨g,e,fun i hi=>by obtain⟨u,h1,h2⟩:=h i hi;exact⟨u,he.cell h1,h2.ext he⟩⟩
theorem PtrB.ext {W W':World} {v:Value} {i:Nat} (h:PtrB W v i) (he:Ext W W'):PtrB W' v i:=by
 obtain⟨g,u,e,h1,h2⟩:=h;exact⟨g,u,e,he.cell h1,h2.ext he⟩
theorem SlB.new (W:World) (i:Nat) (hi:i < 3):SlB (W.alloc (.cells #[.int .u8 ((tabN i 0:Nat):Int),.int .u8 ((tabN i 1:Nat):Int),.int .u8 ((tabN i 2:Nat):Int)] 5)) (.slice (some ⟨W.heap.size,0,none⟩) 3 3) i:=by
 refine ⟨_,rfl,fun j hj=>(zaf W 5 [.int .u8 ((tabN i 0:Nat):Int),.int .u8 ((tabN i 1:Nat):Int),.int .u8 ((tabN i 2:Nat):Int)]).cell (j:=j) ?_⟩;rcases (show j=0 ∨ j=1 ∨ j=2 by omega) with h | h | h <;> rw [h] <;> rfl
theorem TabB.new {W:World} {x y z:Value} (h0:SlB W x 0) (h1:SlB W y 1) (h2:SlB W z 2):TabB (W.alloc (.cells #[x,y,z] 90)) (.slice (some ⟨W.heap.size,0,none⟩) 3 3):=by
 have he:=(Ext.refl W).alloc (.cells #[x,y,z] 90);have hr:=zaf W 90 [x,y,z];refine ⟨_,rfl,fun i hi=>?_⟩;rcases (show i=0 ∨ i=1 ∨ i=2 by omega) with h | h | h
 ·subst h;exact⟨x,hr.cell (j:=0) rfl,h0.ext he⟩
 ·subst h;exact⟨y,hr.cell (j:=1) rfl,h1.ext he⟩
 ·subst h;exact⟨z,hr.cell (j:=2) rfl,h2.ext he⟩
theorem zvj {α:Type} (T:Shape α) {W W':World} {S S':Nat->Prop} {x:α} {us:List Value} (h:T.rd W S x us) (hs:∀ b,S b->b < W.heap.size->W'.heap[b]? = W.heap[b]?/\S' b):T.rd W' S' x us :=
 T.mono (T.keep (T.mono (S':=fun b=>S b/\b < W.heap.size) h fun b hb hf=>⟨hf,hb⟩) fun b hb hl=>(hs b hb.1 hl).1) fun b _ hb=>(hs b hb.1 hb.2).2
theorem zk5 {n base T k m:Nat} {w0 W W':World} {v v':Value} {xs:List Value} (h:Below n w0 W) (hg:Grew W W' v v') (ho:Own W base T k v m xs) (hn:n<=base) (hz:n<=W.heap.size):Below n w0 W' :=
 Below.trans h ⟨hg.os,hg.tape,hg.output,hg.size,fun b hb=>hg.same b (Nat.lt_of_lt_of_le hb hz) fun hb'=>by have:=(ho.base_le hb').1;omega⟩
def zhg (rs:List Rep) (k i:Nat):List Rep:=rs.mapIdx fun j q=>if j < i then { q with knew:=q.knew++[decide (j=k)] } else q
theorem zvk (rs:List Rep) (k:Nat):zhg rs k 0=rs:=by
 refine Qi fun j=>?_
 unfold zhg;rw [Qc]
 cases rs[j]? with
 | none=>rfl
 | some q=>simp
theorem yaf {rs:List Rep} {k i:Nat} {q:Rep} (h:rs[i]? = some q):(zhg rs k i)[i]? = some q:=by
 unfold zhg;rw [Qc,h];simp
theorem zvl {rs:List Rep} {k i:Nat} {q:Rep} (h:rs[i]? = some q):(zhg rs k i).set i { q with knew:=q.knew++[decide (i=k)] }=zhg rs k (i+1):=by
 have hi:=(Qb.1 h).1;refine Qi fun j=>?_
 unfold zhg;rw [Qp,Qc,Qc,Qo]
 by_cases hij:i=j
 ·subst hij;rw [zP rfl,zP hi,h];simp
 ·rw [zN hij]
  cases rs[j]? with
  | none=>rfl
  | some p =>
   simp only [Ql]
   by_cases hj:j < i
   ·rw [zP hj,zP (by omega)]
   ·rw [zN hj,zN (by omega)]
theorem zye {rs:List Rep} {k n:Nat} {r:Rep} {s:State} (hr:rs[k]? = some r) (hn:rs.length=n):zhg (rs.set k { r with s:=s }) k n=rs.mapIdx fun i q=>if i=k then { q with s:=s,knew:=q.knew++[true] } else { q with knew:=q.knew++[false] }:=by
 refine Qi fun j=>?_
 unfold zhg;rw [Qc,Qc,Qp]
 by_cases hkj:k=j
 ·subst hkj;have hk:=(Qb.1 hr).1;rw [zP rfl,zP hk,hr];simp only [Ql,if_true,zP (show k < n by omega),decide_true]
 ·rw [zN hkj]
  cases hj:rs[j]? with
  | none=>rfl
  | some p =>
   have hl:=(Qb.1 hj).1;have hjk:¬ j=k:=fun e=>hkj e.symm
   simp only [Ql,zP (show j < n by omega),zN hjk,decide_eq_false hjk]
theorem zcw {n:Nat} {w0 W W':World} (h:Below n w0 W) (hn:n<=W.heap.size) (he:Ext W W'):Below n w0 W':=Below.trans h (Below.mono he hn)
theorem yag {E:List Ev} {rs:List Rep} {vs:List RepV} {va:Value} {base R n k:Nat} {d:Deed} {W:World} (hd:DeedOk d) (hM:Mem W base R vs rs va E) (hR:RepsOk E n rs) (hk:k < n) (hE:E.length < 200) :
  Calls Tryz.prog 55 #[.slice (some ⟨R,0,none⟩) n n,va,I k,St (zac k),zqv d] W fun r W'=>∃ va' vs',r=.returned (.tuple #[va',.bool true])/\Mem W' base R vs' (updR E rs k (keyD d) (opD d) d.by_ (txD d)).2 va' (updR E rs k (keyD d) (opD d) d.by_ (txD d)).1/\Below base W W':=by
 obtain⟨⟨r,hr,hu⟩,hR2⟩:=hR.upd hk hE (zry hd);have hop:=zry hd;obtain⟨kk,hkk,hkk3⟩:∃ kk:Nat,kk=d.key % 3/\kk < 3:=⟨_,rfl,by omega⟩
 obtain⟨jj,hjj,hjj3⟩:∃ jj:Nat,jj=d.do_ % 3/\jj < 3:=⟨_,rfl,by omega⟩
 obtain⟨tt,htt,htt2⟩:∃ tt:Nat,tt=d.text % 2/\tt < 2:=⟨_,rfl,by omega⟩
 obtain⟨tn,htn⟩:∃ tn:Nat,tn=97+tt:=⟨_,rfl⟩
 have htx:txD d = [UInt8.ofNat tn]:=by rw [htn,htt];rfl
 have HKT:=zH (fun (X:World)=>show (X.alloc (.cells #[St [35,110],St [64,115],St [61,99]] 9)).cell? ⟨X.heap.size,kk,none⟩=some (St (keyD d)) by have h:=zaf X 9 [St [35,110],St [64,115],St [61,99]];refine h.cell (j:=kk) ?_;unfold keyD;rw [<- hkk];rcases (show kk=0 ∨ kk=1 ∨ kk=2 by omega) with h | h | h <;> rw [h] <;> rfl)
 have i1:(d.key:Int).tmod 3=(kk:Int):=by rw [Qd (by omega)];omega
 have i2:(d.do_:Int).tmod 3=(jj:Int):=by rw [Qd (by omega)];omega
 have i3:(d.text:Int).tmod 2=(tt:Int):=by rw [Qd (by omega)];omega
 have i4:(97:Int)+(tt:Int)=(tn:Int):=by omega
 have i5:(tn:Int) % 256=(tn:Int):=by omega
 have q1:(d.key:Int) < 256:=by have:=hd.key;omega
 have q2:(d.do_:Int) < 256:=by have:=hd.do_;omega
 have q3:(d.text:Int) < 256:=by have:=hd.text;omega
 have i6:=hd.lo;have i7:=hd.hi
 have HOP:=zH (show ([[1,1,1],[2,3,2],[4,4,4]][kk]?.getD [])[jj]?.getD 0=opD d by unfold opD;rw [<- hkk,<- hjj];rcases (show kk=0 ∨ kk=1 ∨ kk=2 by omega) with h | h | h <;> rcases (show jj=0 ∨ jj=1 ∨ jj=2 by omega) with h' | h' | h' <;> rw [h,h'] <;> rfl)
 have HUE:=zH (show updR E rs k (keyD d) (opD d) d.by_ (txD d)=updR E rs k (keyD d) (opD d) d.by_ (txD d) from rfl);obtain⟨v,hv,hra⟩:=hM.get hr;obtain⟨v1,v2,v3,vk,vq⟩:=v;obtain⟨⟨sa,se,sp⟩,rk,rq⟩:=r;obtain⟨A1,n1,A2,n2,A3,n3,rfl,rfl,rfl⟩:=hra.st.fm;obtain⟨AK,nk,rfl,-,-⟩:=hra.kn.form;obtain⟨AE,nE,rfl,-,-⟩:=hM.ev.form;obtain⟨key,hkey⟩:∃ x,keyD d=x:=⟨_,rfl⟩
 obtain⟨oo,hoo⟩:∃ x,opD d=x:=⟨_,rfl⟩
 obtain⟨tx,htx2⟩:∃ x,txD d=x:=⟨_,rfl⟩
 rw [hkey] at HKT HUE hu hop hR2 ⊢;rw [hoo] at HOP HUE hu hop hR2 ⊢;rw [htx2] at HUE hu hop hR2 htx ⊢;have HB:=zH (Below.refl base W);have hx1:=(Ext.refl W).alloc (.cells #[K8 d.key,K8 d.do_,K8 d.n,.int .i16 d.by_,K8 d.text,K8 d.other,.bool d.asks] 70);have HD:=zH (zaf W 70 [K8 d.key,K8 d.do_,K8 d.n,.int .i16 d.by_,K8 d.text,K8 d.other,.bool d.asks]);have HM:=zH (hM.ext hx1);have HBW:=zH (show base<=W.heap.size from hM.bl);have HB:=zH (zcw HB.out HBW.out hx1);have HR:=zH hr;have HV:=zH hv;have HU:=zH hu;have HREP:=zH hR;have HR0:=zH hr;have HOPK:=zH hop;have HTX:=zH htx;clear hR2 hra hM hu hx1 hr hv hR hop htx hkk hjj htt hkey hoo htx2 hE htn;go_enter Tryz.func55,Tryz.ntmps55;refine wpH ?_;intro K HK;go_wp;refine HK.out _ _ ?_;clear HK K;obtain⟨W1,hW1⟩:∃ X,W.alloc (.cells #[K8 d.key,K8 d.do_,K8 d.n,.int .i16 d.by_,K8 d.text,K8 d.other,.bool d.asks] 70)=X:=⟨_,rfl⟩
 obtain⟨b0,hb0⟩:∃ x,W.heap.size=x:=⟨_,rfl⟩
 rw [hW1] at HM HB HD ⊢;rw [hb0] at HD ⊢;clear hW1;have d0:=(HD.out.alloc (.cells #[St [35,110],St [64,115],St [61,99]] 9)).cell (j:=0) rfl;have hkt:=HKT.out W1;refine wpH ?_;intro K HK;go_wp;refine HK.out _ _ ?_;clear HK K hkt d0;have hx1:=(Ext.refl W1).alloc (.cells #[St [35,110],St [64,115],St [61,99]] 9);obtain⟨W2,hW2⟩:∃ X,W1.alloc (.cells #[St [35,110],St [64,115],St [61,99]] 9)=X:=⟨_,rfl⟩
 rw [hW2] at hx1 ⊢;clear hW2;have HB:=zH (zcw HB.out HM.out.bl hx1);have HM:=zH (HM.out.ext hx1);have HD:=zH (HD.out.ext hx1);clear hx1;have d3:=HD.out.cell (j:=3) rfl;have d4:=HD.out.cell (j:=4) rfl
 have hcv:(convert 90 9 (.slice (some ⟨W2.heap.size,0,none⟩) 1 1)).run Tryz.prog (W2.alloc (.cells #[.int .u8 (tn:Int)] 5))=.ok (St tx) (W2.alloc (.cells #[.int .u8 (tn:Int)] 5)):=by rw [HTX.out];exact zvi ((zaf W2 5 [.int .u8 (tn:Int)]).cell (j:=0) rfl)
 refine wpH ?_;intro K HK;go_wp;refine HK.out _ _ ?_;clear HK K hcv d3 d4;have hx2:Ext W2 ((W2.alloc (.cells #[.int .u8 (tn:Int)] 5)).alloc (.cells #[.int .u8 0,St key,I d.by_,St tx] 99)):=((Ext.refl W2).alloc _).alloc _;have HO:Hid (RowIs ((W2.alloc (.cells #[.int .u8 (tn:Int)] 5)).alloc (.cells #[.int .u8 0,St key,I d.by_,St tx] 99)) (W2.heap.size+1) 99 [.int .u8 0,St key,I d.by_,St tx] []):=zH (by have h:=zaf (W2.alloc (.cells #[.int .u8 (tn:Int)] 5)) 99 [.int .u8 0,St key,I d.by_,St tx];rw [World.size_alloc] at h;exact h);obtain⟨W3,hW3⟩:∃ X,((W2.alloc (.cells #[.int .u8 (tn:Int)] 5)).alloc (.cells #[.int .u8 0,St key,I d.by_,St tx] 99))=X:=⟨_,rfl⟩
 obtain⟨b1,hb1⟩:∃ x,W2.heap.size+1=x:=⟨_,rfl⟩
 rw [hW3] at hx2 HO ⊢;rw [hb1] at HO ⊢;have HX2:=zH hx2;have HB1:=zH (show W2.heap.size<=b1 by omega);have HRB:=zH (show R ≠ b1 by have h1:=HM.out.row.lt;omega);clear hW3 hb1 hx2 i3 i4 i5 q3;refine wpH ?_;intro K HK;refine zat [fun v W=>SlB W v 0,fun v W=>SlB W v 1,fun v W=>SlB W v 2,fun v W=>TabB W v,fun v _=>v=.pointer (some ⟨b0,0,none⟩),fun v _=>v=K8 d.key,fun v _=>v=I d.key,fun v _=>v=I kk,fun v W=>PtrB W v kk,fun v W=>SlB W v kk,fun v _=>v=.pointer (some ⟨b0,1,none⟩),fun v _=>v=.pointer (some ⟨b0,1,none⟩),fun v _=>v=K8 d.do_,fun v _=>v=K8 jj,fun v _=>v=I jj] rfl (by kernel_rfl) ?hR ?hstep ?hend
 case hR=>simp only [zM];exact⟨fun v _ _ h he=>h.ext he,fun v _ _ h he=>h.ext he,fun v _ _ h he=>h.ext he,fun v _ _ h he=>h.ext he,kP,kP,kP,kP,fun v _ _ h he=>h.ext he,fun v _ _ h he=>h.ext he,kP,kP,kP,kP,kP⟩
 case hstep =>
  simp only [zS,zD,Qg,zbj]
  and_intros <;> intro x W he f
  ·go_wp;exact zaa (SlB.new W 0 (by decide)) ((Ext.refl _).alloc _)
  ·go_wp;exact zaa (SlB.new W 1 (by decide)) ((Ext.refl _).alloc _)
  ·go_wp;exact zaa (SlB.new W 2 (by decide)) ((Ext.refl _).alloc _)
  ·obtain⟨g1,e1,c1⟩:SlB W (x 37) 0:=f.1;obtain⟨g2,e2,c2⟩:SlB W (x 38) 1:=f.2.1;obtain⟨g3,e3,c3⟩:SlB W (x 39) 2:=f.2.2.1;have ht:=TabB.new (W:=W) (x:=x 37) (y:=x 38) (z:=x 39) ⟨g1,e1,c1⟩ ⟨g2,e2,c2⟩ ⟨g3,e3,c3⟩;rw [e1,e2,e3] at ht;clear c1 c2 c3;have HT:=zH ht;clear ht f;go_wp;exact zaa HT.out ((Ext.refl _).alloc _)
  ·have h0:x 9=.pointer (some ⟨b0,0,none⟩):=f.1;go_wp;exact sQ
  ·have h0:_=_:=f.1;have hD:=(HD.out.ext HX2.out).ext he;have d0:=hD.cell (j:=0) rfl;go_wp;exact sQ
  iterate 2 · have h0:_=_:=f.1;go_wp;exact sQ
  ·obtain⟨g,e1,c1⟩:TabB W (x 40):=f.1;have h1:_=_:=f.2.1;obtain⟨u,c2,s2⟩:=c1 kk hkk3;have HS:=zH (show PtrB W (.pointer (some ⟨g,kk,none⟩)) kk from ⟨g,u,rfl,c2,s2⟩);clear c1 c2 s2 f;go_wp;exact zaa HS.out (Ext.refl _)
  ·obtain⟨g,u,e1,c2,s2⟩:PtrB W (x 45) kk:=f.1;have hone:u.oneCell'=true:=(by obtain⟨g2,rfl,-⟩:=s2;rfl);have HS:=zH s2;clear s2 f;go_wp;exact zaa HS.out (Ext.refl _)
  ·have h0:x 9=.pointer (some ⟨b0,0,none⟩):=f.1;go_wp;exact sQ
  ·have h0:_=_:=f.1;go_wp;exact sQ
  ·have h0:_=_:=f.1;have hD:=(HD.out.ext HX2.out).ext he;have d1:=hD.cell (j:=1) rfl;go_wp;exact sQ
  ·have h0:_=_:=f.1;go_wp;exact sQ
  ·have h0:_=_:=f.1;have qj:(jj:Int) < 256:=(by omega);go_wp;exact sQ
 case hend =>
  intro x W4 hx1 f;obtain⟨g,e46,hc⟩:SlB W4 (x 46) kk:=f.2.2.2.2.2.2.2.2.2.1;have c46:=hc jj hjj3;rw [show tabN kk jj=oo from HOP.out] at c46;have e51:x 51=I jj:=f.2.2.2.2.2.2.2.2.2.2.2.2.2.2.1;clear f hc;have HO:=zH (HO.out.ext hx1);have HX2:=zH (HX2.out.trans hx1);have r0:=HO.out.cell (j:=0) rfl;have z0:=HO.out.frozen 0;clear hx1;simp only [zS,zD,zU,Qg,Qk,zav,Act.put,e46,e51];go_wp;refine HK.out _ _ ?_;clear HK K c46 r0 z0;have hr5:=HO.out.set (j:=0) (by simp) (.int .u8 (oo:Int));have hx5:=HX2.out.set (p:=⟨b1,0,none⟩) HB1.out (.int .u8 (oo:Int));obtain⟨W5,hW5⟩:∃ X,W4.setCell ⟨b1,0,none⟩ (.int .u8 (oo:Int))=X:=⟨_,rfl⟩
  rw [hW5] at hr5 hx5 ⊢;clear hW5;have HO:Hid (RowIs W5 b1 99 [.int .u8 (oo:Int),St key,I d.by_,St tx] []):=zH hr5;have hx1:=hx5;clear hr5 hx5 HX2;have HB:=zH (zcw HB.out HM.out.bl hx1);have HM:=zH (HM.out.ext hx1);have HD:=zH (HD.out.ext hx1);clear hx1;have HSM:=zH (((HREP.out.each k _ HR.out).is.lim HREP.out.hist ((HREP.out.each k _ HR.out).vec HREP.out.few HREP.out.hist.most)).small (n:=400) (by decide));have HST:=zH (HM.out.rep k _ _ HV.out HR.out).st;obtain⟨⟨ta,te,tp⟩,hs2⟩:∃ s2,(updS ⟨sa,se,sp⟩ (zac k) (oo,key,d.by_,tx)).1=s2:=⟨_,rfl⟩
  have HS2:=zH hs2;clear hs2
  have HC0:=zH (fun (X:World) (he:Ext W5 X)=>by have h:=znl (zac k) (oo,key,d.by_,tx) (Int.le_trans (by decide) i6) (Int.le_trans i7 (by decide)) (HST.out.ext he) HSM.out;rw [HS2.out,HU.out] at h;exact h)
  have HRC:=zH (fun (X:World) (he:Ext W5 X)=>(show X.cell? ⟨R,k * 5,none⟩=some (.slice A1 sa.length n1)/\X.cell? ⟨R,k * 5+1,none⟩=some (.slice A2 se.length n2)/\X.cell? ⟨R,k * 5+2,none⟩=some (.slice A3 sp.length n3) from ⟨he.cell (HM.out.cell (j:=0) HV.out rfl),he.cell (HM.out.cell (j:=1) HV.out rfl),he.cell (HM.out.cell (j:=2) HV.out rfl)⟩));refine wpH ?_;intro K HK;refine zc7 [some fun v=>v=.slice (some ⟨R,0,none⟩) n n,some fun v=>v=I k,some fun v=>v=.pointer (some ⟨R,k * 5,none⟩),some fun v=>v=.pointer (some ⟨R,k * 5,none⟩),some fun v=>v=stV (.slice A1 sa.length n1) (.slice A2 se.length n2) (.slice A3 sp.length n3),some fun v=>v=St (zac k),some fun v=>v=opV (oo,key,d.by_,tx),none,none,none,some fun v=>v=I 0,none,none] (BoxK W5.heap.size 26 zol (CSt W5.heap.size ⟨ta,te,tp⟩) (tupS 0) agS 7 8 9 11 12) rfl (by kernel_rfl) ?hK ?h0 ?hstep ?hend
  case hK=>exact fun st w w' h he=>h.ext CSt.keep he
  case h0=>exact BoxK.start _
  case hstep =>
   simp only [zS,zD,Qg,zew,zf6]
   and_intros <;> intro x W st he hK
   ·intro f;have h0:x 0=.slice (some ⟨R,0,none⟩) n n:=f.1;clear hK;go_wp;exact sQ
   ·intro f;have h0:x 2=I k:=f.1;clear hK;go_wp;exact sQ
   ·intro f;have h0:_=_:=f.1;have h1:_=_:=f.2.1;clear hK;go_wp;exact sQ
   ·intro f;have h0:_=_:=f.1;clear hK;go_wp;exact sQ
   ·intro f;have h0:_=_:=f.1;clear hK;obtain⟨c0,c1,c2⟩:=HRC.out W he;go_wp;exact sQ
   ·intro f;have h0:x 3=St (zac k):=f.1;clear hK;go_wp;exact sQ
   ·intro f;have h0:x 13=.pointer (some ⟨b1,0,none⟩):=f.1;clear hK;have hO:=HO.out.ext he;obtain⟨r0,r1,r2,r3⟩:=hO.p4;go_wp;exact sQ
   ·intro hn f;have h0:_=_:=f.1;have h1:_=_:=f.2.1;have h2:_=_:=f.2.2.1;have HC:=zH (HC0.out W he);have HK:=zH hK;clear hK;go_wp;refine HC.out.mono ?_;rintro r W2 ⟨u1,u2,u3,rfl,hn2,hx2⟩;obtain⟨B1,m1,B2,m2,B3,m3,rfl,rfl,rfl⟩:=hn2.fm;have HN:=zH hn2;clear hn2;dsimp only;go_wp;exact za2 ⟨HK.out.call (xs:=[.slice B1 ta.length m1,.slice B2 te.length m2,.slice B3 tp.length m3]) (by decide) hn hx2 he.size ⟨B1,m1,B2,m2,B3,m3,rfl,HN.out.mono fun b hb h=>⟨⟨h,hb⟩,Qm he.size h⟩⟩,he.trans hx2⟩
   ·intro hn f;have h0:st 7=some (x 63):=f.1;have HK:=zH hK;clear hK;go_wp;exact za2 ⟨HK.out.move (by decide) h0,he⟩
   ·intro hn f;have h0:st 8=some (x 55):=f.1;obtain⟨xs,S,hv,⟨B1,m1,B2,m2,B3,m3,rfl,-⟩,hK2⟩:=hK.part (by decide) h0;have HK:=zH hK2;clear hK hK2;go_wp;exact za2 ⟨HK.out,he⟩
   ·intro f;have h0:st 8=some (x 55):=f.1;obtain⟨xs,S,hv,⟨B1,m1,B2,m2,B3,m3,rfl,-⟩,hK2⟩:=hK.part (by decide) h0;have HK:=zH hK2;clear hK hK2;go_wp;exact sQ
   ·intro hn f;have HK:=zH hK;clear hK;go_wp;exact za2 ⟨HK.out.alloc CSt.keep (by decide) hn he.size,he.alloc _⟩
   ·intro hn f;have h0:st 11=some (x 14):=f.1;have h1:st 9=some (x 64):=f.2.1;obtain⟨xs,S,g2,hv,hp,hg2,hr,⟨B1,m1,B2,m2,B3,m3,rfl,-⟩,hfin⟩:=hK.store CSt.keep (by decide) h1 h0 hn;obtain⟨r0,r1,r2⟩:=hr.p3;obtain⟨y0,y1,y2⟩:=hr.q3;have hfi:=hfin (((W.setCell ⟨g2,0,none⟩ (.slice B1 ta.length m1)).setCell ⟨g2,1,none⟩ (.slice B2 te.length m2)).setCell ⟨g2,2,none⟩ (.slice B3 tp.length m3)) (.bool true) (zi0 hr) (Nat.le_of_eq (zjl W g2 (.slice B1 ta.length m1) (.slice B2 te.length m2) (.slice B3 tp.length m3)).symm) (fun y hy=>zht W g2 (.slice B1 ta.length m1) (.slice B2 te.length m2) (.slice B3 tp.length m3) y hy);have hxe:=zi1 he hg2 (.slice B1 ta.length m1) (.slice B2 te.length m2) (.slice B3 tp.length m3);have HK:=zH hfi;have HXE:=zH hxe;clear hK hfin hfi hxe hr h0 h1;go_wp;exact za2 (v:=.bool true) ⟨HK.out,HXE.out⟩
  case hend =>
   intro x W8 st hx1 hK hn f;have h14:st 11=some (x 14):=f.2.2.2.2.2.2.2.2.2.2.2.1;have h65:x 65=I 0:=f.2.2.2.2.2.2.2.2.2.2.1;obtain⟨xs,S,g2,hp,hg2,hrow,⟨B1,m1,B2,m2,B3,m3,rfl,hst⟩,hSg⟩:=hK.done h14 (hn 12 (show 12 < 13 by decide) rfl);have HRW:=zH hrow;have HNS:=zH hst;have HO:=zH (HO.out.ext hx1);have HMF:=zH (fun (b:Nat) (hb:W5.heap.size<=b)=>HM.out.free_new hb);have HB:=zH (zcw HB.out HM.out.bl hx1);have HM:=zH (HM.out.ext hx1);have HD:=zH (HD.out.ext hx1);clear hx1;clear hK hn f hrow hst h14 hSg HC0 HRC HST HSM
   skip
   simp only [zS,zD,zU,Qg,Qk,zav,Act.put,h65,hp];go_wp;refine HK.out _ _ ?_;clear HK K;obtain⟨r0,r1,r2⟩:=HRW.out.p3;have c0:=HM.out.cell (j:=0) HV.out rfl;have c1:=HM.out.cell (j:=1) HV.out rfl;have c2:=HM.out.cell (j:=2) HV.out rfl;have z0:=HM.out.row.frozen (k * 5+0);have z1:=HM.out.row.frozen (k * 5+1);have z2:=HM.out.row.frozen (k * 5+2);simp only [Qq] at c0 z0;go_wp2_with fail;rename_i K hK;have HK:=zH hK;clear hK;have hm9:=HM.out.putS (s:=⟨ta,te,tp⟩) HV.out HR.out (HNS.out.mono fun b _ h=>HMF.out b h.2);have hlR:=HM.out.lo;have hb9:Below base W (((W8.setCell ⟨R,k * 5,none⟩ (.slice B1 ta.length m1)).setCell ⟨R,k * 5+1,none⟩ (.slice B2 te.length m2)).setCell ⟨R,k * 5+2,none⟩ (.slice B3 tp.length m3)):=((HB.out.setCell hlR _).setCell hlR _).setCell hlR _;have ho9:RowIs (((W8.setCell ⟨R,k * 5,none⟩ (.slice B1 ta.length m1)).setCell ⟨R,k * 5+1,none⟩ (.slice B2 te.length m2)).setCell ⟨R,k * 5+2,none⟩ (.slice B3 tp.length m3)) b1 99 [.int .u8 (oo:Int),St key,I d.by_,St tx] []:=((HO.out.other HRB.out _).other HRB.out _).other HRB.out _;obtain⟨W9,hW9⟩:∃ X,(((W8.setCell ⟨R,k * 5,none⟩ (.slice B1 ta.length m1)).setCell ⟨R,k * 5+1,none⟩ (.slice B2 te.length m2)).setCell ⟨R,k * 5+2,none⟩ (.slice B3 tp.length m3))=X:=⟨_,rfl⟩
   rw [hW9] at hm9 hb9 ho9 ⊢;clear hW9 r0 r1 r2 c0 c1 c2 z0 z1 z2 hlR;have hv9:(vs.set k ⟨.slice B1 ta.length m1,.slice B2 te.length m2,.slice B3 tp.length m3,.slice AK rk.length nk,vq⟩)[k]? = some ⟨.slice B1 ta.length m1,.slice B2 te.length m2,.slice B3 tp.length m3,.slice AK rk.length nk,vq⟩:=(by rw [Qe (Qb.1 HV.out).1]);have hr9:(rs.set k ⟨⟨ta,te,tp⟩,rk,rq⟩)[k]? = some ⟨⟨ta,te,tp⟩,rk,rq⟩:=(by rw [Qe (Qb.1 HR.out).1]);have hvl:(vs.set k ⟨.slice B1 ta.length m1,.slice B2 te.length m2,.slice B3 tp.length m3,.slice AK rk.length nk,vq⟩).length=vs.length:=Qv;obtain⟨vs9,hvs9⟩:∃ x,vs.set k ⟨.slice B1 ta.length m1,.slice B2 te.length m2,.slice B3 tp.length m3,.slice AK rk.length nk,vq⟩=x:=⟨_,rfl⟩
   obtain⟨rs9,hrs9⟩:∃ x,rs.set k ⟨⟨ta,te,tp⟩,rk,rq⟩=x:=⟨_,rfl⟩
   have hm9b:Mem W9 base R (vs.set k ⟨.slice B1 ta.length m1,.slice B2 te.length m2,.slice B3 tp.length m3,.slice AK rk.length nk,vq⟩) (rs.set k ⟨⟨ta,te,tp⟩,rk,rq⟩) (.slice AE E.length nE) E:=hm9;rw [hvs9] at hm9b hv9;rw [hrs9] at hm9b hr9;have HRS:=zH hrs9;have HM:=zH hm9b;have HB:=zH hb9;have HO:=zH ho9;have HV:=zH hv9;have HR:=zH hr9;clear hm9 hm9b hb9 ho9 hv9 hr9 hvs9 hrs9 HMF HNS HRW hvl;have HKN:=zH (HM.out.rep k _ _ HV.out HR.out).kn;have HRC:=zH (fun (X:World) (he:Ext W9 X)=>he.cell (HM.out.cell (j:=3) HV.out rfl))
   have hbl:rk.length<=200:=by have h:=(HREP.out.each k _ HR0.out).knew;have h2:=congrArg Qr h;simp only [Qn] at h2;have:=HREP.out.hist.most;omega
   refine zat [fun v _=>v=.slice AE E.length nE,fun v _=>v=St key,fun v _=>v=.pointer (some ⟨b1,2,none⟩),fun v _=>v=I d.by_,fun v _=>v=.pointer (some ⟨b1,0,none⟩),fun v _=>v=.int .u8 (oo:Int),fun v _=>v=.pointer (some ⟨b1,3,none⟩),fun v _=>v=St tx,fun v _=>∃ A,v=.slice A 0 0,fun v _=>v=.slice (some ⟨R,0,none⟩) n n,fun v _=>v=I k,fun v _=>v=.pointer (some ⟨R,k * 5,none⟩),fun v _=>v=.pointer (some ⟨R,k * 5+3,none⟩),fun v _=>v=.slice AK rk.length nk,fun v W=>Own W W9.heap.size 4 1 v rk.length (rk.flatMap zdf),fun v W=>∃ u,v=.agg #[St key,I d.by_,.int .u8 (oo:Int),St tx,u]/\Own W W9.heap.size 4 1 u rk.length (rk.flatMap zdf),fun v W=>∃ g u,v=.slice (some ⟨g,0,none⟩) 1 1/\RowIs W g 179 [St key,I d.by_,.int .u8 (oo:Int),St tx,u] []/\Own W W9.heap.size 4 1 u rk.length (rk.flatMap zdf)] rfl (by kernel_rfl) ?hR ?hstep ?hend
   case hR=>simp only [zM];exact⟨kP,kP,kP,kP,kP,kP,kP,kP,kP,kP,kP,kP,kP,kP,fun v _ _ h he=>h.ext he,fun v _ _ h he=>by obtain⟨u,e,h⟩:=h;exact⟨u,e,h.ext he⟩,fun v _ _ h he=>by obtain⟨g,u,e,h,h2⟩:=h;exact⟨g,u,e,h.ext he,h2.ext he⟩⟩
   case hstep =>
    simp only [zS,zD,Qg,zbj]
    and_intros <;> intro x W he f
    ·have h0:x 1=.slice AE E.length nE:=f.1;go_wp;exact sQ
    ·have h0:x 12=St key:=f.1;go_wp;exact sQ
    ·have h0:x 13=.pointer (some ⟨b1,0,none⟩):=f.1;go_wp;exact sQ
    ·have h0:_=_:=f.1;have hO:=HO.out.ext he;have r2:=hO.cell (j:=2) rfl;go_wp;exact sQ
    ·have h0:x 13=.pointer (some ⟨b1,0,none⟩):=f.1;go_wp;exact sQ
    ·have h0:_=_:=f.1;have hO:=HO.out.ext he;have r0:=hO.cell (j:=0) rfl;go_wp;exact sQ
    ·have h0:x 13=.pointer (some ⟨b1,0,none⟩):=f.1;go_wp;exact sQ
    ·have h0:_=_:=f.1;have hO:=HO.out.ext he;have r3:=hO.cell (j:=3) rfl;go_wp;exact sQ
    ·go_wp;exact zaa ⟨_,rfl⟩ ((Ext.refl _).alloc _)
    ·have h0:x 0=.slice (some ⟨R,0,none⟩) n n:=f.1;go_wp;exact sQ
    ·have h0:x 2=I k:=f.1;go_wp;exact sQ
    ·have h0:_=_:=f.1;have h1:_=_:=f.2.1;go_wp;exact sQ
    ·have h0:_=_:=f.1;go_wp;exact sQ
    ·have h0:_=_:=f.1;have c3:=HRC.out W he;go_wp;exact sQ
    ·obtain⟨A,h0⟩:∃ A,x 81=.slice A 0 0:=f.1;have h1:_=_:=f.2.1;have hsrc:=(HKN.out.ext he).src (zyd rk);refine zal rfl (.tmp 81) (.tmp 86) 73 rfl W9.heap.size 4 1 1 (.bool false) Tryz.underlying73 zmb rfl (by omega) (.slice A 0 0) 0 [] (by simp [go_sem,h0]) (Own.nil W _ _ _ A) AK rk.length nk _ (by simp [go_sem,h1]) hsrc (by omega) (by omega) he.size ?_;intro v2 w2 hown2 hgr2;rw [Nat.zero_add,List.nil_append] at hown2;refine wpList_nil ?_;exact zaa hown2 ((Ext.refl W).grew hgr2 fun b hb=>by obtain⟨g,n,c,e,hc,rfl⟩:=hb;injection e with _ _ e3;omega)
    ·have h0:_=_:=f.1;have h1:_=_:=f.2.1;have h2:_=_:=f.2.2.1;have h3:_=_:=f.2.2.2.1;have h4:Own W W9.heap.size 4 1 (x 87) rk.length (rk.flatMap zdf):=f.2.2.2.2.1;have HW:=zH h4;obtain⟨A,c,e87,-,-⟩:=h4.form;clear h4 f;go_wp;exact zaa ⟨_,by rw [e87],HW.out⟩ (Ext.refl _)
    ·obtain⟨u,h0,h1⟩:∃ u,x 88=.agg #[St key,I d.by_,.int .u8 (oo:Int),St tx,u]/\Own W W9.heap.size 4 1 u rk.length (rk.flatMap zdf):=f.1;obtain⟨A,c,rfl,-,-⟩:=h1.form;have HW:=zH h1;clear h1 f;go_wp;exact zaa ⟨_,_,rfl,zaf W 179 [St key,I d.by_,.int .u8 (oo:Int),St tx,.slice A rk.length c],HW.out.alloc _⟩ ((Ext.refl _).alloc _)
   case hend =>
    intro x W10 hx1 f;have e73:x 73=.slice AE E.length nE:=f.1;obtain⟨g9,u9,e89,hrow9,hkn9⟩:∃ g u,x 89=.slice (some ⟨g,0,none⟩) 1 1/\RowIs W10 g 179 [St key,I d.by_,.int .u8 (oo:Int),St tx,u] []/\Own W10 W9.heap.size 4 1 u rk.length (rk.flatMap zdf):=f.2.2.2.2.2.2.2.2.2.2.2.2.2.2.2.2.1;clear f;have HM0:=HM;have hmx:=HM.out.ext hx1;have HB:=zH (zcw HB.out HM.out.bl hx1);obtain⟨vss,g1,g2,g3⟩:=hmx.ev;have HMX:=zH hmx;have G1:=zH g1;have G2:=zH g2;have G3:=zH g3;have HROW:=zH hrow9;have HKN9:=zH hkn9;have HX10:=zH hx1;have hel:E.length<=200:=HREP.out.hist.most;have hbs:base<=W10.heap.size:=hmx.bl;obtain⟨A9,c9,rfl,-,-⟩:=hkn9.form;have HSRC:=zH (Src.one hrow9 rfl (by intro u hu;simp at hu;rcases hu with rfl | rfl | rfl | rfl | rfl <;> rfl));clear hmx g1 g2 g3 hrow9 hkn9 hx1;simp only [zS,zD,zU,Qg,Qk,zav,Act.put,e73,e89];refine zal rfl (.tmp 73) (.tmp 89) 63 rfl base 179 5 72 (.agg #[St [],I 0,K8 0,St [],.slice none 0 0]) Tryz.underlying63 zvh rfl (by omega) (.slice AE E.length nE) E.length vss.flatten (by simp [go_sem]) G3.out (some ⟨g9,0,none⟩) 1 1 [St key,I d.by_,.int .u8 (oo:Int),St tx,.slice A9 rk.length c9] (by simp [go_sem]) HSRC.out (by omega) (by omega) hbs ?_;intro v11 W11 hown11 hgr11;have hkn:rk=E.map (zao (vecS ⟨sa,se,sp⟩)):=(HREP.out.each k _ HR0.out).knew
    have hm11:Mem W11 base R vs9 rs9 v11 (E++[(newE E (vecS ⟨sa,se,sp⟩) key d.by_ oo tx (zac k))]):=by
     refine HMX.out.pushEv hgr11 fun S' hS'=>OwnL.snoc (vs:=[St key,I d.by_,K8 oo,St tx,.slice A9 rk.length c9]) G1.out (fun i x us h1 h2=>zvj evT (G2.out i x us h1 h2) fun b hb hl=>⟨hgr11.same b hl hb.2.2.1,hS' b hb hl⟩) ?_ hown11
     refine ⟨_,rfl,?_⟩;have h0:OwnL zvd 4 W10 W9.heap.size (fun _=>False) (.slice A9 rk.length c9) rk:=OwnL.flat_iff.2 HKN9.out;have h1:Sl zvd W10 (fun b=>Free R vs9 (.slice AE E.length nE) b/\b < W10.heap.size) (.slice A9 rk.length c9) rk:=h0.sl (by decide) (fun _ _ h=>h.elim) fun b hb hl=>⟨HM0.out.free_new hb,hl⟩
     have h2:=(h1.keep (w':=W11) (by decide) fun b hb hl=>hgr11.same b hl hb.1.2.2.1).mono (by decide) fun b _ hb=>hS' b hb.1 hb.2
     rw [hkn] at h2 ⊢;exact h2
    have hb11:=zk5 HB.out hgr11 G3.out (Qu _) hbs;have HM:=zH hm11;have HB:=zH hb11;obtain⟨A11,c11,rfl,-,-⟩:=hm11.ev.form;clear hm11 hb11 hown11 hgr11 HMX HM0 G1 G2 G3 HROW HKN9 HX10 HSRC;go_wp;refine HK.out _ _ ?_;clear HK K;have hel2:(E++[(newE E (vecS ⟨sa,se,sp⟩) key d.by_ oo tx (zac k))]).length=E.length+1:=(by simp);obtain⟨E2,hE2⟩:∃ x,E++[(newE E (vecS ⟨sa,se,sp⟩) key d.by_ oo tx (zac k))]=x:=⟨_,rfl⟩
    rw [hE2] at HM hel2;rw [hel2] at HM;have HE2:=zH hE2;clear hE2 hel2;have hrl:rs9.length=n:=(by rw [<- HRS.out,Qv];exact HREP.out.len);have HRL:=zH hrl;have HPK:=zH (fun (i:Nat) (q:Rep) (h:rs9[i]? = some q)=>zvl (k:=k) h);have HPA:=zH (fun (i:Nat) (q:Rep) (h:rs9[i]? = some q)=>yaf (k:=k) h);have hn4:n<=4:=HREP.out.few;clear hrl
    have HKL:=zH (fun (q:Rep) (i:Nat) (h:rs9[i]? = some q)=>(show q.knew.length<=200 by
     rw [<- HRS.out] at h
     have key:∀ p:Rep,∀ j:Nat,rs[j]? = some p->p.knew.length<=200:=fun p j hj=>by have h1:=congrArg Qr (HREP.out.each j p hj).knew;rw [Qn] at h1;have:=HREP.out.hist.most;omega
     rcases zcv h with ⟨-,rfl,-⟩ | ⟨-,h⟩
     ·have h9:rk.length<=200:=key ⟨⟨sa,se,sp⟩,rk,rq⟩ k HR0.out;exact h9
     ·exact key q i h))
    go_wp2_with fail
    go_loopw [16] (fun i wr=>∃ (j:Nat) (vs2:List RepV),i=I j/\j<=n/\Mem wr base R vs2 (zhg rs9 k j) (.slice A11 (E.length+1) c11) E2/\Below base W wr) (fun i _=>n - (intOf i).toNat)
    case atStart=>exact⟨0,vs9,rfl,Nat.zero_le _,by rw [zvk];exact HM.out,HB.out⟩
    case round =>
     obtain⟨j,vs2,rfl,hjn,hm,hb⟩:=hrel;have HM:=zH hm;have HB:=zH hb
     by_cases hj:j < n
     ·obtain⟨q,hq0⟩:∃ q,rs9[j]? = some q:=⟨_,Qf (by rw [HRL.out];exact hj)⟩
      have HQ0:=zH hq0;have hq:=HPA.out j q hq0;obtain⟨v,hv,hra⟩:=hm.get hq;obtain⟨w1,w2,w3,wk,wq⟩:=v;obtain⟨qs,qk,qa⟩:=q;obtain⟨AW,cw,rfl,-,-⟩:=hra.kn.form;have HQ:=zH hq;have HV:=zH hv;have HKN:=zH hra.kn;have hql:qk.length<=200:=HKL.out _ j hq0;have hsz:=hm.bl;clear hm hb hq hv hra hq0
      by_cases hjk:j=k
      ·have hjb:((j:Int) == (k:Int))=true:=(by simp [hjk]);have hjb2:(j == k)=true:=(by simp [hjk]);have HJK:=zH hjk;clear hjk;have hx1:Ext wr (wr.alloc (.cells #[.bool true] 4)):=(Ext.refl wr).alloc _;have hma:=HM.out.ext hx1;have hka:=HKN.out.ext hx1;have c3w:=HM.out.cell (j:=3) HV.out rfl;have c3:=hma.cell (j:=3) HV.out rfl;have hba:=zcw HB.out hsz hx1;have HMA:=zH hma;have HKA:=zH hka;have HBA:=zH hba;have hnk:=HMA.out.noR _ (Qj HV.out);clear hma hka hba hx1
       go_wp2_with (at_builtin;refine zal rfl (.tmp 103) (.tmp 107) 73 rfl base 4 1 1 (.bool false) Tryz.underlying73 zmb rfl (by omega) (.slice AW qk.length cw) qk.length (qk.flatMap zdf) rfl HKA.out _ 1 1 [.bool true] rfl (Src.new rfl (by intro u hu;simp at hu;subst hu;rfl)) (by omega) (by omega) (by simp;omega) ?_;intro vk2 wk2 hown hgr;obtain⟨AV,cv,rfl,-,-⟩:=hown.form;have hr2:=HMA.out.row.keep (hgr.same R HMA.out.row.lt hnk);have c3b:=hr2.cell (zkf vs2 j 3 _ _ HV.out rfl);have z3:=hr2.frozen (j * 5+3))
       go_roundw
       case rel=>exact⟨j+1,_,by simp,hj,by have h:=HMA.out.pushKnew HV.out HQ.out (x:=true) hgr hown;have h2:=HPK.out j _ HQ0.out;rw [decide_eq_true HJK.out] at h2;rw [h2] at h;exact h,(zk5 HBA.out hgr HKA.out (Qu _) (by simp;omega)).setCell HMA.out.lo _⟩
       case measure=>simp [intOf];omega
      ·have hjb:((j:Int) == (k:Int))=false:=(by rw [beq_eq_false_iff_ne];omega);have hjb2:(j == k)=false:=(by simp [hjk]);have HJK:=zH hjk;clear hjk;have hx1:Ext wr (wr.alloc (.cells #[.bool false] 4)):=(Ext.refl wr).alloc _;have hma:=HM.out.ext hx1;have hka:=HKN.out.ext hx1;have c3w:=HM.out.cell (j:=3) HV.out rfl;have c3:=hma.cell (j:=3) HV.out rfl;have hba:=zcw HB.out hsz hx1;have HMA:=zH hma;have HKA:=zH hka;have HBA:=zH hba;have hnk:=HMA.out.noR _ (Qj HV.out);clear hma hka hba hx1
       go_wp2_with (at_builtin;refine zal rfl (.tmp 103) (.tmp 107) 73 rfl base 4 1 1 (.bool false) Tryz.underlying73 zmb rfl (by omega) (.slice AW qk.length cw) qk.length (qk.flatMap zdf) rfl HKA.out _ 1 1 [.bool false] rfl (Src.new rfl (by intro u hu;simp at hu;subst hu;rfl)) (by omega) (by omega) (by simp;omega) ?_;intro vk2 wk2 hown hgr;obtain⟨AV,cv,rfl,-,-⟩:=hown.form;have hr2:=HMA.out.row.keep (hgr.same R HMA.out.row.lt hnk);have c3b:=hr2.cell (zkf vs2 j 3 _ _ HV.out rfl);have z3:=hr2.frozen (j * 5+3))
       go_roundw
       case rel=>exact⟨j+1,_,by simp,hj,by have h:=HMA.out.pushKnew HV.out HQ.out (x:=false) hgr hown;have h2:=HPK.out j _ HQ0.out;rw [decide_eq_false HJK.out] at h2;rw [h2] at h;exact h,(zk5 HBA.out hgr HKA.out (Qu _) (by simp;omega)).setCell HMA.out.lo _⟩
       case measure=>simp [intOf];omega
     ·obtain rfl:j=n:=by omega
      have hu:updR E rs k key oo d.by_ tx=(E2,zhg rs9 k j):=by
       unfold updR;rw [HR0.out];simp only;rw [HS2.out,<- HE2.out,<- HRS.out]
       congr 1
       exact (zye HR0.out HREP.out.len).symm
      have HUU:=zH hu;clear hu hm hb;go_wp2_with fail
      go_ret2
      rw [HUU.out];exact⟨_,vs2,rfl,HM.out,HB.out⟩
def orP (a b:List Bool) (i:Nat):List Bool:=a.mapIdx fun j x=>if j < i then (x || (b[j]?.getD false)) else x
theorem zr1 (a b:List Bool):orP a b 0=a:=by
 refine Qi fun j=>?_
 unfold orP;rw [Qc];cases a[j]? <;> simp
theorem zem (a b:List Bool) (i:Nat):(orP a b i).length=a.length:=Qo
theorem zr2 (a b:List Bool) (i:Nat):(orP a b i)[i]? = a[i]?:=by
 unfold orP;rw [Qc];cases a[i]? <;> simp
theorem zr3 {a b:List Bool} {i:Nat} {x y:Bool} (ha:a[i]? = some x) (hb:b[i]? = some y):(orP a b i).set i (x || y)=orP a b (i+1):=by
 have hi:=(Qb.1 ha).1;refine Qi fun j=>?_
 unfold orP;rw [Qp,Qc,Qc,Qo]
 by_cases hij:i=j
 ·subst hij;rw [zP rfl,zP hi,ha,hb];simp
 ·rw [zN hij]
  cases a[j]? with
  | none=>rfl
  | some z =>
   simp only [Ql]
   by_cases hj:j < i
   ·rw [zP hj,zP (by omega)]
   ·rw [zN hj,zN (by omega)]
theorem zt0 {a b:List Bool} {n:Nat} (ha:a.length=n) (hb:b.length=n):orP a b n=orL a b:=by
 refine Qi fun j=>?_
 unfold orP orL;rw [Qc,List.getElem?_zipWith]
 cases h1:a[j]? with
 | none=>simp
 | some x=>have hj:=(Qb.1 h1).1;have h2:b[j]? = some (b[j]'(by omega)):=Qf _;rw [h2];simp only [Ql,Option.getD_some];rw [zP (by omega)]
theorem zp7 {rs:List Rep} {k o i:Nat} {r q:Rep} {x y:Bool} (hr:rs[k]? = some r) (hq:rs[o]? = some q) (hx:r.knew[i]? = some x) (hy:q.knew[i]? = some y) :
  ∃ q',(rs.set k { r with knew:=orP r.knew q.knew i })[o]? = some q'/\q'.knew[i]? = some y:=by
 by_cases hko:k=o
 ·subst hko;rw [hr] at hq;cases hq;refine ⟨{ r with knew:=orP r.knew r.knew i },by rw [Qe (Qb.1 hr).1],?_⟩;simp only;rw [zr2];exact hy
 ·exact⟨q,by rw [Qt hko];exact hq,hy⟩
theorem zp8 {k m:Nat} (h:m=49+k):((⟨#[49,46]⟩:ByteArray)++⟨[UInt8.ofNat m].toArray⟩)=⟨(zac k).toArray⟩:=by
 subst h
 apply ByteArray.ext
 simp [zac]
theorem ybb {rs:List Rep} {k:Nat} {r:Rep} (h:rs[k]? = some r):askR rs k=rs.set k { r with asked:=r.s.all }:=by unfold askR;rw [h]
theorem yah {rs:List Rep} {k o:Nat} {r q:Rep} (h:rs[k]? = some r) (h2:rs[o]? = some q):zmi rs k o=rs.set k { r with s:=zb9 r.s q.s,knew:=orL r.knew q.knew }:=by unfold zmi;rw [h,h2]
theorem zhu {α:Type} {l:List α} {k:Nat} {x y:α}:(l.set k x).set k y=l.set k y:=by simp [List.set_set]
section
variable {N0 T:Nat} {zs:List Value} {C:List Value->(Nat->Prop)->World->Prop} {tup ag:List Value->Value} {i1 i2 i3 i4 i5:Nat} {st:Nat->Option Value} {w:World}
theorem BoxK.other {i:Nat} {v:Value} (hd:i1 ≠ i/\i2 ≠ i/\i3 ≠ i/\i4 ≠ i/\i5 ≠ i) (h:BoxK N0 T zs C tup ag i1 i2 i3 i4 i5 st w):BoxK N0 T zs C tup ag i1 i2 i3 i4 i5 (zfo st i v) w:=by
 obtain⟨d1,d2,d3,d4,d5⟩:=hd;unfold BoxK at h ⊢;simp only [zah st v d1,zah st v d2,zah st v d3,zah st v d4,zah st v d5];exact h
end
def DltOk (N:Nat) (b d:State) (base:List Mark) (v:Value) (w:World):Prop:=∃ u0 c0 u1 c1 u2 c2 u3 c3,v=dltV (.slice u0 base.length c0) (.slice u1 d.all.length c1) (.slice u2 d.entries.length c2) (.slice u3 d.pruned.length c3) /\
 Sl markT w (fun x=>N<=x) (.slice u0 base.length c0) base/\StAt w (fun x=>N<=x) d (.slice u1 d.all.length c1) (.slice u2 d.entries.length c2) (.slice u3 d.pruned.length c3)
theorem DltOk.ext {N:Nat} {b d:State} {base:List Mark} {v:Value} {w w':World} (h:DltOk N b d base v w) (he:Ext w w'):DltOk N b d base v w':=by
 obtain⟨u0,c0,u1,c1,u2,c2,u3,c3,e,h1,h2⟩:=h;exact⟨u0,c0,u1,c1,u2,c2,u3,c3,e,h1.ext (by decide) he,h2.ext he⟩
def DltK (N i:Nat) (b d:State) (base:List Mark) (st:Nat->Option Value) (w:World):Prop:=∀ v,st i=some v->DltOk N b d base v w
theorem DltK.ext {N i:Nat} {b d:State} {base:List Mark} {st:Nat->Option Value} {w w':World} (h:DltK N i b d base st w) (he:Ext w w'):DltK N i b d base st w':=fun v hv=>(h v hv).ext he
theorem DltK.other {N i j:Nat} {b d:State} {base:List Mark} {st:Nat->Option Value} {w:World} {u:Value} (hd:i ≠ j) (h:DltK N i b d base st w):DltK N i b d base (zfo st j u) w:=fun v hv=>h v (by rwa [zah st u hd] at hv)
theorem yai {E:List Ev} {rs:List Rep} {vs:List RepV} {va:Value} {base R n:Nat} {d:Deed} {W:World} (hd:DeedOk d) (hM:Mem W base R vs rs va E) (hR:RepsOk E n rs) (hn:0 < n) (hE:E.length < 200) :
  Calls Tryz.prog 21 #[.slice (some ⟨R,0,none⟩) n n,va,zqv d] W fun r W'=>∃ va' vs',r=.returned (.tuple #[va',.bool true])/\Mem W' base R vs' (zit E rs d).2 va' (zit E rs d).1/\Below base W W':=by
 obtain⟨k,hkd⟩:∃ k,d.n % n=k:=⟨_,rfl⟩
 obtain⟨p,hpd⟩:∃ p,d.other % n=p:=⟨_,rfl⟩
 have hk:k < n:=by rw [<- hkd];exact Nat.mod_lt _ hn
 have hp:p < n:=by rw [<- hpd];exact Nat.mod_lt _ hn
 have hn4:n<=4:=hR.few;have hnz:¬ n=0:=by omega
 have HDR:=zH (show zit E rs d=if 3<=d.do_ % 5 then (E,zmi (if d.asks then askR rs k else rs) k p) else updR E (if d.asks then askR rs k else rs) k (keyD d) (opD d) d.by_ (txD d) by unfold zit;rw [hR.len,hkd,hpd]);obtain⟨ff,hff,hff5⟩:∃ ff:Nat,ff=d.do_ % 5/\ff < 5:=⟨_,rfl,by omega⟩
 rw [<- hff] at HDR;have i1:(d.n:Int).tmod (n:Int)=(k:Int):=by rw [Qd (by omega),<- hkd];omega
 have i2:(d.other:Int).tmod (n:Int)=(p:Int):=by rw [Qd (by omega),<- hpd];omega
 have i3:(d.do_:Int).tmod 5=(ff:Int):=by rw [Qd (by omega)];omega
 have q1:(d.n:Int) < 256:=by have:=hd.n;omega
 have q2:(d.other:Int) < 256:=by have:=hd.other;omega
 have q3:(d.do_:Int) < 256:=by have:=hd.do_;omega
 have HDD:=zH hd;have HREP:=zH hR;have HEL:=zH hE;obtain⟨AE,nE,rfl,-,-⟩:=hM.ev.form;have HB:=zH (Below.refl base W);have hx1:=(Ext.refl W).alloc (.cells #[K8 d.key,K8 d.do_,K8 d.n,.int .i16 d.by_,K8 d.text,K8 d.other,.bool d.asks] 70);have HD:=zH (zaf W 70 [K8 d.key,K8 d.do_,K8 d.n,.int .i16 d.by_,K8 d.text,K8 d.other,.bool d.asks]);have HM:=zH (hM.ext hx1);have HB:=zH (zcw HB.out hM.bl hx1);have HRB:=zH (show R ≠ W.heap.size by have:=hM.row.lt;omega);clear hkd hpd hff hd hR hE hM hx1;obtain⟨ask,hask⟩:∃ b,d.asks=b:=⟨_,rfl⟩
 rw [hask] at HD HDR;have HAK:=zH hask;go_enter Tryz.func21,Tryz.ntmps21;refine wpH ?_;intro K HK;go_wp;refine HK.out _ _ ?_;clear HK K;obtain⟨W1,hW1⟩:∃ X,W.alloc (.cells #[K8 d.key,K8 d.do_,K8 d.n,.int .i16 d.by_,K8 d.text,K8 d.other,.bool ask] 70)=X:=⟨_,rfl⟩
 obtain⟨b0,hb0⟩:∃ x,W.heap.size=x:=⟨_,rfl⟩
 rw [hask] at HM HB;rw [hW1] at HM HB HD ⊢;rw [hb0] at HD HRB ⊢;clear hW1 hask hb0;have d1:=HD.out.cell (j:=1) rfl;have d2:=HD.out.cell (j:=2) rfl;have d5:=HD.out.cell (j:=5) rfl;have d6:=HD.out.cell (j:=6) rfl;obtain⟨r,hr⟩:∃ r,rs[k]? = some r:=⟨_,Qf (by rw [HREP.out.len];exact hk)⟩
 obtain⟨v,hv,hra⟩:=HM.out.get hr;obtain⟨v1,v2,v3,vk,vq⟩:=v;obtain⟨⟨sa,se,sp⟩,rk,rq⟩:=r;obtain⟨A1,n1,A2,n2,A3,n3,rfl,rfl,rfl⟩:=hra.st.fm;obtain⟨AQ,nq,rfl,-,-⟩:=hra.ask.form;have HR:=zH hr;have HV:=zH hv;have HST:=zH hra.st;clear hra hr hv;refine wpH ?_;intro K HK;go_wp;refine HK.out _ _ ?_;clear HK K;refine wpH ?_;intro K HK;go_wp;refine HK.out _ _ ?_;clear HK K;refine wpH ?_;intro K HK
 have REST:∀ (u29 u30 u31 u32 u33 u34 u35 u36 u37 u38 vq1:Value) (W2:World) (rs1:List Rep) (vs1:List RepV) (rq1:List Mark),Mem W2 base R vs1 rs1 (.slice AE E.length nE) E->RowIs W2 b0 70 [K8 d.key,K8 d.do_,K8 d.n,.int .i16 d.by_,K8 d.text,K8 d.other,.bool ask] []->Below base W W2->rs1[k]? = some ⟨⟨sa,se,sp⟩,rk,rq1⟩->vs1[k]? = some ⟨.slice A1 sa.length n1,.slice A2 se.length n2,.slice A3 sp.length n3,vk,vq1⟩->RepsOk E n rs1->(if ask then askR rs k else rs)=rs1->K ⟨#[.slice (some ⟨R,0,none⟩) n n,.slice AE E.length nE,zqv d,Qa,Qa,.pointer (some ⟨b0,0,none⟩),.slice none 0 0,.bool false,I k,I p,Qa,Qa,Qa,.pointer (some ⟨b0,1,none⟩),.pointer (some ⟨b0,2,none⟩),K8 d.n,I d.n,.slice (some ⟨R,0,none⟩) n n,I n,I k,.pointer (some ⟨b0,1,none⟩),.pointer (some ⟨b0,5,none⟩),K8 d.other,I d.other,.slice (some ⟨R,0,none⟩) n n,I n,I p,.pointer (some ⟨b0,6,none⟩),.bool ask,u29,u30,u31,u32,u33,u34,u35,u36,u37,u38,Qa,Qa,Qa,Qa,Qa,Qa,Qa,Qa,Qa,Qa,Qa,Qa,Qa,Qa,Qa,Qa,Qa,Qa,Qa,Qa,Qa,Qa,Qa,Qa,Qa,Qa,Qa,Qa,Qa,Qa,Qa,Qa,Qa,Qa,Qa,Qa,Qa,Qa,Qa,Qa,Qa,Qa,Qa,Qa,Qa,Qa,Qa,Qa,Qa,Qa,Qa,Qa,Qa,Qa,Qa,Qa,Qa,Qa,Qa,Qa,Qa,Qa,Qa,Qa,Qa,Qa,Qa,Qa,Qa,Qa,Qa,Qa,Qa,Qa,Qa,Qa,Qa,Qa,Qa,Qa,Qa,Qa,Qa,Qa,Qa,Qa,Qa,Qa,Qa,Qa,Qa,Qa,Qa,Qa,Qa,Qa,Qa],[]⟩ W2:=by
  intro u29 u30 u31 u32 u33 u34 u35 u36 u37 u38 vq1 W2 rs1 vs1 rq1 hm2 hd2 hb2 hr1 hv1 hrep1 hrs1;rw [hrs1] at HDR;clear hrs1;have hra1:=hm2.rep k _ _ hv1 hr1;obtain⟨AQ1,nq1,rfl,-,-⟩:=hra1.ask.form;have HST1:=zH hra1.st;have HM:=zH hm2;have HD:=zH hd2;have HB:=zH hb2;have HR1:=zH hr1;have HV1:=zH hv1;have HREP1:=zH hrep1;clear hm2 hd2 hb2 hr1 hv1 hrep1 hra1;refine HK.out _ _ ?_;clear HK K;have d1b:=HD.out.cell (j:=1) rfl
  by_cases hf:3<=ff
  ·have hf1:(3:Int)<=(ff:Int):=(by omega);have hf2:(ff:Int) ≥ 3:=(by omega);rw [zP hf] at HDR;obtain⟨q,hq⟩:∃ q,rs1[p]? = some q:=⟨_,Qf (by rw [HREP1.out.len];exact hp)⟩
   obtain⟨vq1,hvq,hrq⟩:=HM.out.get hq;obtain⟨u1,u2,u3,uk,uq⟩:=vq1;obtain⟨⟨ta,te,tp⟩,qk,qq⟩:=q;obtain⟨B1,m1,B2,m2,B3,m3,rfl,rfl,rfl⟩:=hrq.st.fm;have HQ:=zH hq;have HQV:=zH hvq;have HQS:=zH hrq.st;have HLR:=zH (show rk.length=E.length by have h:=congrArg Qr (HREP1.out.each k _ HR1.out).knew;rw [Qn] at h;exact h);have HLQ:=zH (show qk.length=E.length by have h:=congrArg Qr (HREP1.out.each p _ HQ.out).knew;rw [Qn] at h;exact h);clear hq hvq hrq;have SM1:=zH (((HREP1.out.each k _ HR1.out).is.lim HREP1.out.hist ((HREP1.out.each k _ HR1.out).vec HREP1.out.few HREP1.out.hist.most)).small (n:=400) (by decide));have SM2:=zH (((HREP1.out.each p _ HQ.out).is.lim HREP1.out.hist ((HREP1.out.each p _ HQ.out).vec HREP1.out.few HREP1.out.hist.most)).small (n:=400) (by decide));obtain⟨⟨ja,je,jp⟩,hj2⟩:∃ s2,zb9 ⟨sa,se,sp⟩ ⟨ta,te,tp⟩=s2:=⟨_,rfl⟩
   have HJ:=zH hj2;have hjr:=yah HR1.out HQ.out;simp only at hjr;rw [hj2] at hjr;rw [hjr] at HDR;clear hj2 hjr;have HRC:=zH (fun (X:World) (he:Ext W2 X)=>(show X.cell? ⟨R,k * 5,none⟩=some (.slice A1 sa.length n1)/\X.cell? ⟨R,k * 5+1,none⟩=some (.slice A2 se.length n2)/\X.cell? ⟨R,k * 5+2,none⟩=some (.slice A3 sp.length n3) from ⟨he.cell (HM.out.cell (j:=0) HV1.out rfl),he.cell (HM.out.cell (j:=1) HV1.out rfl),he.cell (HM.out.cell (j:=2) HV1.out rfl)⟩));have HQC:=zH (fun (X:World) (he:Ext W2 X)=>(show X.cell? ⟨R,p * 5,none⟩=some (.slice B1 ta.length m1)/\X.cell? ⟨R,p * 5+1,none⟩=some (.slice B2 te.length m2)/\X.cell? ⟨R,p * 5+2,none⟩=some (.slice B3 tp.length m3) from ⟨he.cell (HM.out.cell (j:=0) HQV.out rfl),he.cell (HM.out.cell (j:=1) HQV.out rfl),he.cell (HM.out.cell (j:=2) HQV.out rfl)⟩));refine wpH ?_;intro K1 HK1;refine wpH ?_;intro K2 HK2;go_wp;refine HK2.out _ _ ?_;clear HK2 K2;refine wp_cond_true (by simp [Act.eval]) ?_;refine wpH ?_;intro K HK
   have REST2:∀ ⦃u10 u11 u39 u40 u41 u42 u43 u44 u45 u46 u47 u48 u49 u50 u51 u52 u53 u54 u55 u56 u57 u58 u59 u60 u61 u62 u63 u64 u65 u66 u67 u68 u69 u70 u71 u72 u73 u74 u75 u76 u77 u78 u79 u80 u81 u82 u83 u84 u85 u86 u87 u88 u89 u90:Value⦄ (W3:World) (vs2:List RepV),Mem W3 base R vs2 (rs1.set k ⟨⟨ja,je,jp⟩,rk,rq1⟩) (.slice AE E.length nE) E->Below base W W3->K ⟨#[.slice (some ⟨R,0,none⟩) n n,.slice AE E.length nE,zqv d,Qa,Qa,.pointer (some ⟨b0,0,none⟩),.slice none 0 0,.bool false,I k,I p,u10,u11,Qa,.pointer (some ⟨b0,1,none⟩),.pointer (some ⟨b0,2,none⟩),K8 d.n,I d.n,.slice (some ⟨R,0,none⟩) n n,I n,I k,.pointer (some ⟨b0,1,none⟩),.pointer (some ⟨b0,5,none⟩),K8 d.other,I d.other,.slice (some ⟨R,0,none⟩) n n,I n,I p,.pointer (some ⟨b0,6,none⟩),.bool ask,u29,u30,u31,u32,u33,u34,u35,u36,u37,u38,u39,u40,u41,u42,u43,u44,u45,u46,u47,u48,u49,u50,u51,u52,u53,u54,u55,u56,u57,u58,u59,u60,u61,u62,u63,u64,u65,u66,u67,u68,u69,u70,u71,u72,u73,u74,u75,u76,u77,u78,u79,u80,u81,u82,u83,u84,u85,u86,u87,u88,u89,u90,Qa,Qa,Qa,Qa,Qa,Qa,Qa,Qa,Qa,Qa,Qa,Qa,Qa,Qa,Qa,Qa,Qa,Qa,Qa,Qa,Qa,Qa,Qa,Qa,Qa,Qa,Qa,Qa,Qa,Qa,Qa,Qa,Qa,Qa,Qa,Qa,Qa,Qa,Qa,Qa,Qa,Qa,Qa,Qa,Qa],[]⟩ W3:=by
    intro u10 u11 u39 u40 u41 u42 u43 u44 u45 u46 u47 u48 u49 u50 u51 u52 u53 u54 u55 u56 u57 u58 u59 u60 u61 u62 u63 u64 u65 u66 u67 u68 u69 u70 u71 u72 u73 u74 u75 u76 u77 u78 u79 u80 u81 u82 u83 u84 u85 u86 u87 u88 u89 u90 W3 vs2 hm3 hb3;have HM:=zH hm3;have HB:=zH hb3;clear hm3 hb3 HRC HQC HK1;refine HK.out _ _ ?_;clear HK K;obtain⟨r2,hr2⟩:∃ r2:Rep,(⟨⟨ja,je,jp⟩,rk,rq1⟩:Rep)=r2:=⟨_,rfl⟩
    obtain⟨rs2,hrs2⟩:∃ x,rs1.set k ⟨⟨ja,je,jp⟩,rk,rq1⟩=x:=⟨_,rfl⟩
    have h2:rs2[k]? = some r2:=(by rw [<- hrs2,<- hr2];exact Qe (Qb.1 HR1.out).1);have HR2:=zH h2
    obtain⟨q2,hq2,hqk⟩:∃ q2,rs2[p]? = some q2/\q2.knew=qk:=by
     by_cases hkp:k=p
     ·subst hkp;refine ⟨r2,h2,?_⟩;have h3:=HR1.out;rw [HQ.out] at h3;injection h3 with h3
      injection h3 with _ h4 _
      rw [<- hr2];exact h4.symm
     ·exact⟨⟨⟨ta,te,tp⟩,qk,qq⟩,by rw [<- hrs2,Qt hkp];exact HQ.out,rfl⟩
    have HQ2:=zH hq2;have hrk:r2.knew=rk:=(by rw [<- hr2]);have HLR:=zH (show r2.knew.length=E.length by rw [hrk];exact HLR.out);have HLQ:=zH (show q2.knew.length=E.length by rw [hqk];exact HLQ.out);have HFIN:=zH (show rs2.set k { r2 with knew:=orL r2.knew q2.knew }=rs1.set k ⟨⟨ja,je,jp⟩,orL rk qk,rq1⟩ by rw [hqk,hrk,<- hrs2,<- hr2,zhu]);rw [hrs2] at HM
    skip
    clear h2 hq2 hqk hrk hr2 hrs2;go_wp2_with fail
    go_loopw [12] (fun i wr=>∃ (j:Nat) (us:List RepV),i=I j/\j<=E.length/\Mem wr base R us (rs2.set k { r2 with knew:=orP r2.knew q2.knew j }) (.slice AE E.length nE) E/\Below base W wr) (fun i _=>E.length - (intOf i).toNat)
    case atStart=>exact⟨0,_,rfl,Nat.zero_le _,by rw [zr1,zrw HR2.out];exact HM.out,HB.out⟩
    case round =>
     obtain⟨j,us,rfl,hjn,hm,hb⟩:=hrel;have hel:=HEL.out
     by_cases hj:j < E.length
     ·obtain⟨x,hx⟩:∃ x,r2.knew[j]? = some x:=⟨_,Qf (by rw [HLR.out];exact hj)⟩
      obtain⟨y,hy⟩:∃ y,q2.knew[j]? = some y:=⟨_,Qf (by rw [HLQ.out];exact hj)⟩
      obtain⟨q3,hq3,hy3⟩:=zp7 HR2.out HQ2.out hx hy;have hr3:(rs2.set k { r2 with knew:=orP r2.knew q2.knew j })[k]? = some { r2 with knew:=orP r2.knew q2.knew j }:=Qe (Qb.1 HR2.out).1;have HSC:=zH (zr3 hx hy);have hx3:(orP r2.knew q2.knew j)[j]? = some x:=(by rw [zr2];exact hx);have hdr:Ext wr wr.drew:=(Ext.refl wr).drew;have hmd:=hm.drew;obtain⟨Wd,hWd⟩:∃ X,wr.drew=X:=⟨_,rfl⟩
      rw [hWd] at hmd hdr;obtain⟨vb,hvb,hrb⟩:=hmd.get hr3;obtain⟨vc,hvc,hrc⟩:=hmd.get hq3;obtain⟨g1,c1,e1,-,-,b1,z1⟩:=hrb.bit hx3;obtain⟨g2,c2,e2,-,-,b2,-⟩:=hrc.bit hy3;simp only [zem] at e1;have k1:=hmd.cell (j:=3) hvb rfl;have k2:=hmd.cell (j:=3) hvc rfl;rw [e1] at k1;rw [e2] at k2;have HMD:=zH hmd;have HVB:=zH hvb;have HE1:=zH e1;have HR3:=zH hr3;have hsz:=hm.bl;have HB:=zH (zcw hb hsz hdr);have hjr:j < r2.knew.length:=(by rw [HLR.out];exact hj);have hjq:j < q3.knew.length:=(Qb.1 hy3).1;have hgb:base<=g1:=(hrb.kn.base_le ⟨g1,_,c1,e1,by have:=(hrb.kn.form);obtain⟨A,c,e,h1,h2⟩:=this;rw [e1] at e;injection e with _ _ e3;subst e3;simp only [zem] at h1;omega,rfl⟩).1;have HWD:=zH hWd;clear hm hb hx hy hq3 hy3 hvc hrb hrc hdr hmd hvb e1 e2 hr3 hx3 hWd hsz;go_wp2_with fail
      cases x with
      | true =>
       refine wp_region_still_tail 24 (by kernel_rfl) (by kernel_rfl) ?_;simp only [zD];change wpStill _ _ wr.drew (fun a'=>wpList _ _ _ _ a' wr.drew) _ _;rw [HWD.out];generalize hA:Act.mk _ _=A0;repeat (refine wpStill_step (fun K2 hK2=>?_);subst hA;go_simp;generalize hA:Act.mk _ _=A0;refine hK2 A0 ?_;clear hK2 K2)
       refine wpStill_nil ?_;subst hA;go_wp2_with fail;go_roundw
       case rel=>exact⟨j+1,us,by simp,hj,by have h:=HMD.out.setKnew HVB.out HR3.out (by simp only [zem];exact hjr) (by simp only [zem];exact HE1.out) true;have h2:=HSC.out;simp only [Bool.true_or,Bool.false_or] at h2;simp only [h2,zhu] at h;exact h,HB.out.setCell hgb _⟩
       case measure=>simp [intOf];omega
      | false =>
       refine wp_region_still_tail 24 (by kernel_rfl) (by kernel_rfl) ?_;simp only [zD];change wpStill _ _ wr.drew (fun a'=>wpList _ _ _ _ a' wr.drew) _ _;rw [HWD.out];generalize hA:Act.mk _ _=A0;repeat (refine wpStill_step (fun K2 hK2=>?_);subst hA;go_simp;generalize hA:Act.mk _ _=A0;refine hK2 A0 ?_;clear hK2 K2)
       refine wpStill_nil ?_;subst hA;go_wp2_with fail;go_roundw
       case rel=>exact⟨j+1,us,by simp,hj,by have h:=HMD.out.setKnew HVB.out HR3.out (by simp only [zem];exact hjr) (by simp only [zem];exact HE1.out) y;have h2:=HSC.out;simp only [Bool.true_or,Bool.false_or] at h2;simp only [h2,zhu] at h;exact h,HB.out.setCell hgb _⟩
       case measure=>simp [intOf];omega
     ·obtain rfl:j=E.length:=by omega
      have HMX:=zH hm;have HBX:=zH hb;clear hm hb;go_wp2_with fail
      go_ret2
      rw [HDR.out];have h:=HMX.out;rw [zt0 HLR.out HLQ.out,HFIN.out] at h;exact⟨_,us,rfl,h,HBX.out⟩
   clear HK
   by_cases hf3:ff=3
   ·have hf4:((ff:Int) == 3)=true:=(by simp [hf3]);have hf5:(ff == 3)=true:=by simp [hf3]
    have HC0:=zH (fun (X:World) (he:Ext W2 X)=>by have h:=zib (HST1.out.ext he) (HQS.out.ext he) SM1.out SM2.out;rw [HJ.out] at h;exact h)
    go_wp2_with fail;refine zat [fun v _=>v=.slice (some ⟨R,0,none⟩) n n,fun v _=>v=I k,fun v _=>v=.slice (some ⟨R,0,none⟩) n n,fun v _=>v=I k,fun v _=>v=.pointer (some ⟨R,k * 5,none⟩),fun v _=>v=.pointer (some ⟨R,k * 5,none⟩),fun v _=>v=stV (.slice A1 sa.length n1) (.slice A2 se.length n2) (.slice A3 sp.length n3),fun v _=>v=.slice (some ⟨R,0,none⟩) n n,fun v _=>v=I p,fun v _=>v=.pointer (some ⟨R,p * 5,none⟩),fun v _=>v=.pointer (some ⟨R,p * 5,none⟩),fun v _=>v=stV (.slice B1 ta.length m1) (.slice B2 te.length m2) (.slice B3 tp.length m3),fun v W=>∃ C1 x1 C2 x2 C3 x3,v=stV (.slice C1 ja.length x1) (.slice C2 je.length x2) (.slice C3 jp.length x3)/\StAt W (fun b=>W2.heap.size<=b) ⟨ja,je,jp⟩ (.slice C1 ja.length x1) (.slice C2 je.length x2) (.slice C3 jp.length x3),fun v _=>v=.pointer (some ⟨R,k * 5,none⟩),fun v _=>v=.pointer (some ⟨R,k * 5,none⟩)] rfl (by kernel_rfl) ?hR ?hstep ?hend
    case hR=>simp only [zM];exact⟨kP,kP,kP,kP,kP,kP,kP,kP,kP,kP,kP,kP,fun v _ _ h he=>by obtain⟨C1,x1,C2,x2,C3,x3,e,h⟩:=h;exact⟨C1,x1,C2,x2,C3,x3,e,h.ext he⟩,kP,kP⟩
    case hstep =>
     simp only [zS,zD,Qg,zbj]
     and_intros <;> intro x W he f
     ·have h0:x 0=.slice (some ⟨R,0,none⟩) n n:=f.1;go_wp;exact sQ
     ·have h0:x 8=I k:=f.1;go_wp;exact sQ
     ·have h0:x 0=.slice (some ⟨R,0,none⟩) n n:=f.1;go_wp;exact sQ
     ·have h0:x 8=I k:=f.1;go_wp;exact sQ
     ·have h0:_=_:=f.1;have h1:_=_:=f.2.1;go_wp;exact sQ
     ·have h0:_=_:=f.1;go_wp;exact sQ
     ·have h0:_=_:=f.1;obtain⟨c0,c1,c2⟩:=HRC.out W he;go_wp;exact sQ
     ·have h0:x 0=.slice (some ⟨R,0,none⟩) n n:=f.1;go_wp;exact sQ
     ·have h0:x 9=I p:=f.1;go_wp;exact sQ
     ·have h0:_=_:=f.1;have h1:_=_:=f.2.1;go_wp;exact sQ
     ·have h0:_=_:=f.1;go_wp;exact sQ
     ·have h0:_=_:=f.1;obtain⟨c0,c1,c2⟩:=HQC.out W he;go_wp;exact sQ
     ·have h0:_=_:=f.1;have h1:_=_:=f.2.1;have HC:=zH (HC0.out W he);go_wp;refine HC.out.mono ?_;rintro e X ⟨y1,y2,y3,rfl,hn,hx2⟩;obtain⟨C1,x1,C2,x2,C3,x3,rfl,rfl,rfl⟩:=hn.fm;have HN:=zH hn.at;clear hn;dsimp only;go_wp;exact zaa ⟨C1,x1,C2,x2,C3,x3,rfl,HN.out.mono fun b _ h=>Qm he.size h⟩ hx2
     ·have h0:_=_:=f.1;have h1:_=_:=f.2.1;go_wp;exact sQ
     ·have h0:_=_:=f.1;go_wp;exact sQ
    case hend=>intro x W7 hx1 f;obtain⟨C1,x1,C2,x2,C3,x3,e61,hst⟩:∃ C1 x1 C2 x2 C3 x3,x 61=stV (.slice C1 ja.length x1) (.slice C2 je.length x2) (.slice C3 jp.length x3)/\StAt W7 (fun b=>W2.heap.size<=b) ⟨ja,je,jp⟩ (.slice C1 ja.length x1) (.slice C2 je.length x2) (.slice C3 jp.length x3):=f.2.2.2.2.2.2.2.2.2.2.2.2.1;have e63:x 63=.pointer (some ⟨R,k * 5,none⟩):=f.2.2.2.2.2.2.2.2.2.2.2.2.2.2.1;clear f;have HMF:=zH (fun (b:Nat) (hb:W2.heap.size<=b)=>HM.out.free_new hb);have HNS:=zH (hst.mono fun b _ hb=>HMF.out b hb);have HB:=zH (zcw HB.out HM.out.bl hx1);have HM:=zH (HM.out.ext hx1);have c0:=HM.out.cell (j:=0) HV1.out rfl;have c1:=HM.out.cell (j:=1) HV1.out rfl;have c2:=HM.out.cell (j:=2) HV1.out rfl;have z0:=HM.out.row.frozen (k * 5+0);have z1:=HM.out.row.frozen (k * 5+1);have z2:=HM.out.row.frozen (k * 5+2);simp only [Qq] at c0 z0;clear hst hx1 HMF;simp only [zS,zD,zU,Qg,Qk,zav,Act.put,e61,e63];go_wp;have hlR:=HM.out.lo;exact REST2 _ _ (HM.out.putS (s:=⟨ja,je,jp⟩) HV1.out HR1.out HNS.out) (((HB.out.setCell hlR _).setCell hlR _).setCell hlR _)
   ·have hf4:((ff:Int) == 3)=false:=(by rw [beq_eq_false_iff_ne];omega);have hf5:(ff == 3)=false:=(by simp [hf3]);have hsi:zic ⟨ta,te,tp⟩ rq1=⟨ta,te.filter (zde rq1),tp⟩:=rfl;have hap:=HREP1.out.apply HR1.out HQ.out;simp only at hap;rw [HJ.out,hsi] at hap;have HAP:=zH hap;have hgd:=zcp rq1 [];have hga:=(HREP1.out.each k _ HR1.out).askedG
    have hla:rq1.length<=549755813888:=by
     have h1:=zd3 hga (ps:=zf9 n) fun s hs=>(HREP1.out.each k _ HR1.out).paths s (by have h2:ofM rq1 s<=ofM sa s:=(HREP1.out.each k _ HR1.out).asked s;have h3:ofM rq1 s ≠ 0:=hs;show ofM sa s ≠ 0;omega)
     have h2:(zf9 n).length=n:=(by simp [zf9]);simp only at h1;omega
    have hlj:(za0 rq1 []).length<=549755813888:=by have h:=zeo rq1;rw [<- zka] at h;omega
    have HLQ2:=zH ((HREP1.out.each p _ HQ.out).is.lim HREP1.out.hist ((HREP1.out.each p _ HQ.out).vec HREP1.out.few HREP1.out.hist.most));have SMD:Hid (SmallS ⟨ta,te.filter (zde rq1),tp⟩):=zH (LimS.small (n:=400) ⟨HLQ2.out.all,Qm (List.length_filter_le _ _) HLQ2.out.entries,HLQ2.out.pruned,fun e he=>HLQ2.out.each e (List.mem_filter.1 he).1⟩ (by decide));have HASK:=zH (HM.out.rep k _ _ HV1.out HR1.out).ask;have HS0:=zH (fun (X:World) (he:Ext W2 X)=>zod (HQS.out.ext he) (HASK.out.ext (by decide) he) SM2.out hla);obtain⟨JB,hjb⟩:∃ x,za0 rq1 []=x:=⟨_,rfl⟩
    rw [hjb] at HS0 HAP hlj;rw [hsi] at HS0;obtain⟨de,hde⟩:∃ x,te.filter (zde rq1)=x:=⟨_,rfl⟩
    rw [hde] at HS0 HAP SMD
    have HA0:=zH (fun (X:World) (he:Ext W2 X) (b0 b1 b2 b3:Value) (h0:Sl markT X (fun b=>W2.heap.size<=b) b0 JB) (h1:StAt X (fun b=>W2.heap.size<=b) ⟨ta,de,tp⟩ b1 b2 b3)=>by have h:=zu7 (HST1.out.ext he) h1 h0 SM1.out SMD.out hlj;rw [HAP.out] at h;exact h)
    have HKC:=zH (fun (X:World) (he:Ext W2 X)=>he.cell (HM.out.cell (j:=4) HV1.out rfl));clear hap hgd hga hla hlj hjb hde hsi;go_wp2_with fail;rename_i K0 hK;have HK0:=zH hK;clear hK;refine zc7 [some fun v=>v=.slice (some ⟨R,0,none⟩) n n,some fun v=>v=I k,some fun v=>v=.pointer (some ⟨R,k * 5,none⟩),some fun v=>v=.pointer (some ⟨R,k * 5,none⟩),some fun v=>v=stV (.slice A1 sa.length n1) (.slice A2 se.length n2) (.slice A3 sp.length n3),some fun v=>v=.slice (some ⟨R,0,none⟩) n n,some fun v=>v=I p,some fun v=>v=.pointer (some ⟨R,p * 5,none⟩),some fun v=>v=.pointer (some ⟨R,p * 5,none⟩),some fun v=>v=stV (.slice B1 ta.length m1) (.slice B2 te.length m2) (.slice B3 tp.length m3),some fun v=>v=.slice (some ⟨R,0,none⟩) n n,some fun v=>v=I k,some fun v=>v=.pointer (some ⟨R,k * 5,none⟩),some fun v=>v=.pointer (some ⟨R,k * 5+4,none⟩),some fun v=>v=.slice AQ1 rq1.length nq1,none,none,none,none,some fun v=>v=I 0,none,none] (fun st w=>BoxK W2.heap.size 26 zol (CSt W2.heap.size ⟨ja,je,jp⟩) (tupS 0) agS 16 17 18 20 21 st w/\(st 21=none->DltK W2.heap.size 15 ⟨ta,te,tp⟩ ⟨ta,de,tp⟩ JB st w)) rfl (by kernel_rfl) ?hK ?h0 ?hstep ?hend
    case hK=>exact fun st w w' h he=>⟨h.1.ext CSt.keep he,fun h0=>(h.2 h0).ext he⟩
    case h0=>exact⟨BoxK.start _,fun _ v hv=>by cases hv⟩
    case hstep =>
     simp only [zS,zD,Qg,zew,zf6]
     and_intros <;> intro x W st he hK
     ·intro f;have h0:x 0=.slice (some ⟨R,0,none⟩) n n:=f.1;clear hK;go_wp;exact sQ
     ·intro f;have h0:x 8=I k:=f.1;clear hK;go_wp;exact sQ
     ·intro f;have h0:_=_:=f.1;have h1:_=_:=f.2.1;clear hK;go_wp;exact sQ
     ·intro f;have h0:_=_:=f.1;clear hK;go_wp;exact sQ
     ·intro f;have h0:_=_:=f.1;clear hK;obtain⟨c0,c1,c2⟩:=HRC.out W he;go_wp;exact sQ
     ·intro f;have h0:x 0=.slice (some ⟨R,0,none⟩) n n:=f.1;clear hK;go_wp;exact sQ
     ·intro f;have h0:x 9=I p:=f.1;clear hK;go_wp;exact sQ
     ·intro f;have h0:_=_:=f.1;have h1:_=_:=f.2.1;clear hK;go_wp;exact sQ
     ·intro f;have h0:_=_:=f.1;clear hK;go_wp;exact sQ
     ·intro f;have h0:_=_:=f.1;clear hK;obtain⟨c0,c1,c2⟩:=HQC.out W he;go_wp;exact sQ
     ·intro f;have h0:x 0=.slice (some ⟨R,0,none⟩) n n:=f.1;clear hK;go_wp;exact sQ
     ·intro f;have h0:x 8=I k:=f.1;clear hK;go_wp;exact sQ
     ·intro f;have h0:_=_:=f.1;have h1:_=_:=f.2.1;clear hK;go_wp;exact sQ
     ·intro f;have h0:_=_:=f.1;clear hK;go_wp;exact sQ
     ·intro f;have h0:_=_:=f.1;clear hK;have c4:=HKC.out W he;go_wp;exact sQ
     ·intro hn f;have h0:_=_:=f.1;have h1:_=_:=f.2.1;have HC:=zH (HS0.out W he);have HK:=zH hK;clear hK;go_wp;refine HC.out.mono ?_;rintro r W2b ⟨u0,u1,u2,u3,rfl,hO,hS,hx2⟩;have hO2:=(zbb hO).mono (S':=fun b=>W2.heap.size<=b) (by decide) (fun b _ h=>Qm he.size h);have hS2:=hS.at.mono (S':=fun b=>W2.heap.size<=b) (fun b _ h=>Qm he.size h);obtain⟨D0,y0,rfl,-,-⟩:=hO2.form;obtain⟨D1,y1,D2,y2,D3,y3,rfl,rfl,rfl⟩:=hS2.fm;have HO2:=zH hO2;have HS2:=zH hS2;clear hO hS hO2 hS2;dsimp only;go_wp;exact za2 ⟨⟨(HK.out.1.ext CSt.keep hx2).other (by decide),fun _ v hv=>by rw [zb2] at hv;cases hv;exact⟨D0,y0,D1,y1,D2,y2,D3,y3,rfl,HO2.out,HS2.out⟩⟩,he.trans hx2⟩
     ·intro hn f;have h0:_=_:=f.1;have h80:st 15=some (x 80):=f.2.1
      have h21:st 21=none:=Classical.byContradiction fun hne=>by obtain⟨xs,lo,hi,g,k1,k2,k3,k4,k5⟩:=hK.1;exact (k5 hne).1 hn
      obtain⟨D0,y0,D1,y1,D2,y2,D3,y3,e80,hO2,hS2⟩:=hK.2 h21 (x 80) h80;have HC:=zH (HA0.out W he _ _ _ _ hO2 hS2);have HK:=zH hK;clear hK hO2 hS2 f;go_wp;refine HC.out.mono ?_;rintro r W2b ⟨u1,u2,u3,rfl,hn2,hx2⟩;obtain⟨C1,x1,C2,x2,C3,x3,rfl,rfl,rfl⟩:=hn2.fm;have HN:=zH hn2;clear hn2;dsimp only;go_wp;exact za2 ⟨⟨HK.out.1.call (xs:=[.slice C1 ja.length x1,.slice C2 je.length x2,.slice C3 jp.length x3]) (by decide) hn hx2 he.size ⟨C1,x1,C2,x2,C3,x3,rfl,HN.out.mono fun b hb h=>⟨⟨h,hb⟩,Qm he.size h⟩⟩,fun h=>((HK.out.2 (by rwa [zah st _ (by decide)] at h)).ext hx2).other (by decide)⟩,he.trans hx2⟩
     ·intro hn f;have h0:st 16=some (x 81):=f.1;have HK:=zH hK;clear hK;go_wp;exact za2 ⟨⟨HK.out.1.move (by decide) h0,fun h=>(HK.out.2 (by rwa [zah st _ (by decide)] at h)).other (by decide)⟩,he⟩
     ·intro hn f;have h0:st 17=some (x 64):=f.1;obtain⟨xs,S,hv,⟨C1,x1,C2,x2,C3,x3,rfl,-⟩,hK2⟩:=hK.1.part (by decide) h0;have HK:=zH hK2;have HKD:=zH hK.2;clear hK hK2;go_wp;exact za2 ⟨⟨HK.out,fun h=>(HKD.out (by rwa [zah st _ (by decide)] at h)).other (by decide)⟩,he⟩
     ·intro f;have h0:st 17=some (x 64):=f.1;obtain⟨xs,S,hv,⟨C1,x1,C2,x2,C3,x3,rfl,-⟩,hK2⟩:=hK.1.part (by decide) h0;have HK:=zH hK2;have HKD:=zH hK.2;clear hK hK2;go_wp;exact sQ
     ·intro hn f;have HK:=zH hK;clear hK;go_wp;exact za2 ⟨⟨HK.out.1.alloc CSt.keep (by decide) hn he.size,fun h=>((HK.out.2 (by rwa [zah st _ (by decide)] at h)).ext ((Ext.refl _).alloc _)).other (by decide)⟩,he.alloc _⟩
     ·intro hn f;have h0:st 20=some (x 10):=f.1;have h1:st 18=some (x 82):=f.2.1;obtain⟨xs,S,g2,hv,hp2,hg2,hr,⟨C1,x1,C2,x2,C3,x3,rfl,-⟩,hfin⟩:=hK.1.store CSt.keep (by decide) h1 h0 hn;obtain⟨r0,r1,r2⟩:=hr.p3;obtain⟨y0,y1,y2⟩:=hr.q3;have hfi:=hfin (((W.setCell ⟨g2,0,none⟩ (.slice C1 ja.length x1)).setCell ⟨g2,1,none⟩ (.slice C2 je.length x2)).setCell ⟨g2,2,none⟩ (.slice C3 jp.length x3)) (.bool true) (zi0 hr) (Nat.le_of_eq (zjl W g2 (.slice C1 ja.length x1) (.slice C2 je.length x2) (.slice C3 jp.length x3)).symm) (fun y hy=>zht W g2 (.slice C1 ja.length x1) (.slice C2 je.length x2) (.slice C3 jp.length x3) y hy);have hxe:=zi1 he hg2 (.slice C1 ja.length x1) (.slice C2 je.length x2) (.slice C3 jp.length x3);have HK:=zH hfi;have HXE:=zH hxe;clear hK hfin hfi hxe hr h0 h1;go_wp;exact za2 (v:=.bool true) ⟨⟨HK.out,fun h=>by rw [zb2] at h;cases h⟩,HXE.out⟩
    case hend=>intro x W8 st hx1 hK hn f;have h10:st 20=some (x 10):=f.2.2.2.2.2.2.2.2.2.2.2.2.2.2.2.2.2.2.2.2.1;have h83:x 83=I 0:=f.2.2.2.2.2.2.2.2.2.2.2.2.2.2.2.2.2.2.2.1;obtain⟨xs,S,g2,hp2,hg2,hrow,⟨C1,x1,C2,x2,C3,x3,rfl,hst⟩,hSg⟩:=hK.1.done h10 (hn 21 (show 21 < 22 by decide) rfl);have HRW:=zH hrow;have HMF:=zH (fun (b:Nat) (hb:W2.heap.size<=b)=>HM.out.free_new hb);have HNS:=zH (hst.mono fun b _ hb=>HMF.out b hb.2);have HB:=zH (zcw HB.out HM.out.bl hx1);have HM:=zH (HM.out.ext hx1);obtain⟨r0,r1,r2⟩:=HRW.out.p3;have c0:=HM.out.cell (j:=0) HV1.out rfl;have c1:=HM.out.cell (j:=1) HV1.out rfl;have c2:=HM.out.cell (j:=2) HV1.out rfl;have z0:=HM.out.row.frozen (k * 5+0);have z1:=HM.out.row.frozen (k * 5+1);have z2:=HM.out.row.frozen (k * 5+2);simp only [Qq] at c0 z0;clear hK hn f hrow hst hx1 HMF hSg h10;simp only [zS,zD,zU,Qg,Qk,zav,Act.put,h83,hp2];go_wp;refine HK0.out _ _ ?_;clear HK0 K0;go_wp2_with fail;have hlR:=HM.out.lo;exact REST2 _ _ (HM.out.putS (s:=⟨ja,je,jp⟩) HV1.out HR1.out HNS.out) (((HB.out.setCell hlR _).setCell hlR _).setCell hlR _)
  ·have hf1:¬ (3:Int)<=(ff:Int):=(by omega);have hf2:¬ (ff:Int) ≥ 3:=(by omega);have hf3:decide ((3:Int)<=(ff:Int))=false:=decide_eq_false hf1;rw [zN hf] at HDR;obtain⟨m,hm⟩:∃ m,m=49+k:=⟨_,rfl⟩
   have j1:(49:Int)+(k:Int)=(m:Int):=(by omega);have j2:(m:Int) < 256:=(by omega);have hcv:(convert 90 9 (.slice (some ⟨W2.heap.size,0,none⟩) 1 1)).run Tryz.prog (W2.alloc (.cells #[.int .u8 (m:Int)] 5))=.ok (St [UInt8.ofNat m]) (W2.alloc (.cells #[.int .u8 (m:Int)] 5)):=zvi ((zaf W2 5 [.int .u8 (m:Int)]).cell (j:=0) rfl);have hpt:=zp8 hm;have hx1:Ext W2 (W2.alloc (.cells #[.int .u8 (m:Int)] 5)):=(Ext.refl W2).alloc _;have hD:=HD.out.ext hx1;obtain⟨e0,e1,e2,e3,e4,e5,e6⟩:=hD.p7;have hc:=yag HDD.out (HM.out.ext hx1) HREP1.out hk HEL.out;simp only [zqv,HAK.out] at hc;have HC:=zH hc;clear hc;have HB:=zH (zcw HB.out HM.out.bl hx1);clear hm hx1 hD;go_wp2_with fail;refine HC.out.mono ?_;rintro r X ⟨va2,vs2,rfl,hm2,hb2⟩;go_wp2_with fail
   go_ret2
   rw [HDR.out];exact⟨va2,vs2,rfl,hm2,Below.trans HB.out hb2⟩
 cases ask with
 | true =>
  have c0:=HM.out.cell (j:=0) HV.out rfl;have c4:=HM.out.cell (j:=4) HV.out rfl;have z4:=HM.out.row.frozen (k * 5+4);simp only [Qq] at c0;have hm2:=HM.out.putAsked HV.out HR.out HST.out.all;have hak:=ybb HR.out;simp only at hak;have hd2:RowIs (W1.setCell ⟨R,k * 5+4,none⟩ (.slice A1 sa.length n1)) b0 70 [K8 d.key,K8 d.do_,K8 d.n,.int .i16 d.by_,K8 d.text,K8 d.other,.bool true] []:=HD.out.other HRB.out _;have hb2:Below base W (W1.setCell ⟨R,k * 5+4,none⟩ (.slice A1 sa.length n1)):=HB.out.setCell HM.out.lo _;have hr1:(askR rs k)[k]? = some ⟨⟨sa,se,sp⟩,rk,sa⟩:=by rw [hak];exact Qe (Qb.1 HR.out).1
  rw [<- hak] at hm2;have hv1:=Qe (a:=(⟨.slice A1 sa.length n1,.slice A2 se.length n2,.slice A3 sp.length n3,vk,.slice A1 sa.length n1⟩:RepV)) (Qb.1 HV.out).1;have HRS:=zH REST;have HM2:=zH hm2;have HD2:=zH hd2;have HB2:=zH hb2;have HR2:=zH hr1;have HV2:=zH hv1;clear REST hm2 hd2 hb2 hr1 hv1 hak;go_wp2_with fail;exact HRS.out _ _ _ _ _ _ _ _ _ _ _ _ _ _ _ HM2.out HD2.out HB2.out HR2.out HV2.out (HREP.out.ask k) rfl
 | false=>have HRS:=zH REST;clear REST;go_wp2_with fail;exact HRS.out _ _ _ _ _ _ _ _ _ _ _ _ _ _ _ HM.out HD.out HB.out HR.out HV.out HREP.out rfl
abbrev zom:Shape Deed:=flat 7 yb8 (fun _=>rfl) (fun _ u hu=>by simp at hu;rcases hu with rfl | rfl | rfl | rfl | rfl | rfl | rfl <;> rfl)
theorem ybc {w wr:World} {S:Nat->Prop} {A:Option Addr} {n c:Nat} {l pre post:List Deed} {m:Deed} (h:Sl zom w S (.slice A n c) l) (hb:Ext w wr) (hl:l=pre++m :: post) :
  ∃ b o,A=some ⟨b,o,none⟩/\wr.cell? ⟨b,o+pre.length * 7,none⟩=some (K8 m.key)/\wr.cell? ⟨b,o+pre.length * 7+1,none⟩=some (K8 m.do_)/\wr.cell? ⟨b,o+pre.length * 7+2,none⟩=some (K8 m.n) /\
   wr.cell? ⟨b,o+pre.length * 7+3,none⟩=some (.int .i16 m.by_)/\wr.cell? ⟨b,o+pre.length * 7+4,none⟩=some (K8 m.text)/\wr.cell? ⟨b,o+pre.length * 7+5,none⟩=some (K8 m.other)/\wr.cell? ⟨b,o+pre.length * 7+6,none⟩=some (.bool m.asks):=by
 obtain⟨b,o,vs,c',hv,hS,rfl,hc⟩:=h.at_ hl;injection hv with e1 e2 e3
 subst e1;exact⟨b,o,rfl,hb.cell (hc 0 _ rfl),hb.cell (hc 1 _ rfl),hb.cell (hc 2 _ rfl),hb.cell (hc 3 _ rfl),hb.cell (hc 4 _ rfl),hb.cell (hc 5 _ rfl),hb.cell (hc 6 _ rfl)⟩
def zvm:RepV:=⟨.slice none 0 0,.slice none 0 0,.slice none 0 0,.slice none 0 0,.slice none 0 0⟩
theorem Mem.zero {W:World} {base R n:Nat} (h:RowIs W R 75 ((Qs n zvm).flatMap RepV.cells) []) (hb:base<=R):Mem W base R (Qs n zvm) (Qs n rep0) (.slice none 0 0) [] where
 row:=h
 len:=by simp
 lo:=hb
 rep k v r hv hr:=by have h1:=Qh (Qj hv);have h2:=Qh (Qj hr);subst h1 h2;exact⟨StAt.none _ _ none none none,Own.nil _ _ _ _ none,Sl.nil none 0 (by decide)⟩
 noR v hv ho:=by
  have h1:=Qh hv;subst h1;obtain⟨g,m,c,e,hc,-⟩:=ho;injection e with _ _ e3
  omega
 apart i j v u b _ hv _ ho:=by
  have h1:=Qh (Qj hv);subst h1;obtain⟨g,m,c,e,hc,-⟩:=ho;injection e with _ _ e3
  omega
 noEv v hv b ho:=by
  have h1:=Qh hv;subst h1;obtain⟨g,m,c,e,hc,-⟩:=ho;injection e with _ _ e3
  omega
 evR ho:=by
  obtain⟨g,m,c,e,hc,-⟩:=ho;injection e with _ _ e3
  omega
 ev:=OwnL.nil _ _
 ltX b hb:=hb.elim
theorem zqe {w:World} {g base:Nat} {m:Mark} (h:RowIs w g 97 [St m.1,U m.2] []) (hb:base<=g):Own w base 97 2 (.slice (some ⟨g,0,none⟩) 1 1) 1 ([m].flatMap zaj) :=
 RowIs.own h hb (by omega) (by omega) rfl rfl rfl
end
end Go.Proofs.YtaabaflgeljbjaaGreat
