/- Laws. -/
import Derived.Test.YtaabaflgeljbjaaGreatPr36
import Derived.Test.YtaabaflgeljbjaaGreatPr39
import Derived.Test.YtaabaflgeljbjaaGreatPr25
import Derived.Laws.BytesArg
set_option linter.unusedVariables false
set_option linter.unusedSimpArgs false
set_option maxRecDepth 100000
set_option maxHeartbeats 40000000
namespace Go.Proofs.YtaabaflgeljbjaaGreat
open Go.Value renaming slice→Xa,pointer→Xb,bool→Xc,tuple→Xd,agg→Xe
open Go.Obj renaming cells→Xf
open Go renaming World→Xg,Value→Xh
open Ext renaming refl→Xi
open Go renaming undef→Qa
open List renaming getElem?_eq_some_iff→Qb,getElem?_mapIdx→Qc,getElem?_eq_getElem→Qd,mem_of_getElem?→Qe,getElem?_set_self→Qg,eq_of_mem_replicate→Qi,ext_getElem?→Qj,filterMap_cons→Qk,length_mapIdx→Qq,getElem?_set→Qr,replicate→Qt,getElem?_set_ne→Qu,length_set→Qx
open Nat renaming reduceAdd→Qh,le_trans→Ql,lt_of_lt_of_le→Qp,add_zero→Qs,le_refl→Qw,mod_lt→Qy
open Go.World renaming size_setCell→Qo
open Go.RowKit.Below renaming heap_setCell→Qn,trans→Qv
open Option renaming map_some→Qm
open Int renaming tmod_eq_emod_of_nonneg→Qf
section
open Go.RowKit Go.Shelf
abbrev zqv (d:Deed):Xh:=Xe #[K8 d.key,K8 d.do_,K8 d.n,.int .i16 d.by_,K8 d.text,K8 d.other,Xc d.asks]
abbrev yb8 (d:Deed):List Xh:=[K8 d.key,K8 d.do_,K8 d.n,.int .i16 d.by_,K8 d.text,K8 d.other,Xc d.asks]
theorem zmb:(Tryz.prog.info? 4).map (fun i=>(i.zero,i.size,i.bytes))=some (some (Xc false),1,1):=by kernel_rfl
theorem zvh:(Tryz.prog.info? 179).map (fun i=>(i.zero,i.size,i.bytes))=some (some (Xe #[St [],I 0,K8 0,St [],Xa none 0 0]),5,72):=by kernel_rfl
theorem zvi {W:Xg}{g n:Nat}(a:W.cell? ⟨g,0,none⟩=some (.int .u8 (n:Int))):(convert 90 9 (Xa (some ⟨g,0,none⟩) 1 1)).run Tryz.prog W=.ok (St [UInt8.ofNat n]) W:=by
 rw[run_convert_bytes_arg _ 90 5 Tryz.underlying90 Tryz.underlying5 g 0 1 1 [(n:Int)] rfl (fun i hi=>by
  obtain rfl:i=0:=by omega
  exact a) 9 Tryz.underlying9]
 simp only[strOfNums,List.map_cons,List.map_nil,Int.toNat_natCast]
theorem zi0 {W:Xg}{g T:Nat}{a b c x y z:Xh}(h:RowIs W g T [a,b,c] []):RowIs (((W.setCell ⟨g,0,none⟩ x).setCell ⟨g,1,none⟩ y).setCell ⟨g,2,none⟩ z) g T [x,y,z] []:=by
 have h0:=h.set (j:=0) (Nat.succ_pos _) x;have h1:=h0.set (j:=1) (by simp) y;exact h1.set (j:=2) (by simp) z
theorem zht (W:Xg)(g:Nat)(x y z:Xh)(b:Nat)(hb:b≠g):(((W.setCell ⟨g,0,none⟩ x).setCell ⟨g,1,none⟩ y).setCell ⟨g,2,none⟩ z).heap[b]? = W.heap[b]?:=by
 rw[Qn _ _ _ b hb,Qn _ _ _ b hb,Qn _ _ _ b hb]
theorem zjl (W:Xg)(g:Nat)(x y z:Xh):(((W.setCell ⟨g,0,none⟩ x).setCell ⟨g,1,none⟩ y).setCell ⟨g,2,none⟩ z).heap.size=W.heap.size:=by rw[Qo,Qo,Qo]
theorem zi1 {w0 W:Xg}{g:Nat}(b:Ext w0 W)(a:w0.heap.size<=g)(x y z:Xh):Ext w0 (((W.setCell ⟨g,0,none⟩ x).setCell ⟨g,1,none⟩ y).setCell ⟨g,2,none⟩ z):=((b.set a x).set a y).set a z
def CSt (N:Nat)(s:State)(xs:List Xh)(S:Nat->Prop)(W:Xg):Prop:=∃B1 m1 B2 m2 B3 m3,xs = [Xa B1 s.all.length m1,Xa B2 s.entries.length m2,Xa B3 s.pruned.length m3]/\StAt W (fun b=>S b/\N<=b) s (Xa B1 s.all.length m1) (Xa B2 s.entries.length m2) (Xa B3 s.pruned.length m3)
theorem CSt.keep {a:Nat}{s:State}(xs:List Xh)(S:Nat->Prop)(w w':Xg)(g:CSt a s xs S w)(i:∀b,S b->b<w.heap.size->w'.heap[b]? = w.heap[b]?):CSt a s xs S w':=by
 obtain⟨c,j,d,k,f,l,e,h1⟩:=g;exact⟨c,j,d,k,f,l,e,h1.keep fun b hb h=>i b hb.1 h⟩
abbrev tupS (e:Int)(xs:List Xh):Xh:=Xd #[Xe xs.toArray,I e]
abbrev agS (xs:List Xh):Xh:=Xe xs.toArray
abbrev zol:List Xh:=[Xa none 0 0,Xa none 0 0,Xa none 0 0]
theorem Own.src {W:Xg}{base T n k c:Nat}{A:Option Addr}{xs:List Xh}(a:Own W base T k (Xa A n c) n xs)(h1:∀u∈xs,u.oneCell'=true):Src W k A n xs:=by
 refine⟨a.1,h1,fun d=>?_⟩;obtain⟨g,f,h,e,-⟩:=a.pos d;injection e with e1 e2 e3
 subst e1;exact⟨g,0,rfl,fun j u b=>by rw[Nat.zero_add];exact a.cell rfl b⟩
theorem zyd (l:List Bool):∀u∈l.flatMap zdf,u.oneCell'=true:=by
 intro u a;obtain⟨b,-,hb⟩:=List.mem_flatMap.1 a;simp[zdf]at hb;subst hb
 rfl
def tabN (i j:Nat):Nat:=([[1,1,1],[2,3,2],[4,4,4]][i]?.getD [])[j]?.getD 0
def SlB (W:Xg)(v:Xh)(i:Nat):Prop:=∃g,v=Xa (some ⟨g,0,none⟩) 3 3/\∀j,j<3->W.cell? ⟨g,j,none⟩=some (.int .u8 ((tabN i j:Nat):Int))
def TabB (W:Xg)(v:Xh):Prop:=∃g,v=Xa (some ⟨g,0,none⟩) 3 3/\∀i,i<3->∃u,W.cell? ⟨g,i,none⟩=some u/\SlB W u i
def PtrB (W:Xg)(v:Xh)(i:Nat):Prop:=∃g u,v=Xb (some ⟨g,i,none⟩)/\W.cell? ⟨g,i,none⟩=some u/\SlB W u i
theorem SlB.ext {W W':Xg}{v:Xh}{i:Nat}(a:SlB W v i)(b:Ext W W'):SlB W' v i:=by
 obtain⟨g,e,a⟩:=a;exact⟨g,e,fun j c=>b.cell (a j c)⟩
theorem TabB.ext {W W':Xg}{v:Xh}(a:TabB W v)(b:Ext W W'):TabB W' v:=by
 obtain⟨g,e,a⟩:=a;exact⟨g,e,fun i hi=>by obtain⟨u,h1,c⟩:=a i hi;exact⟨u,b.cell h1,c.ext b⟩⟩
theorem PtrB.ext {W W':Xg}{v:Xh}{i:Nat}(b:PtrB W v i)(a:Ext W W'):PtrB W' v i:=by
 obtain⟨g,u,e,h1,c⟩:=b;exact⟨g,u,e,a.cell h1,c.ext a⟩
theorem SlB.new (W:Xg)(i:Nat)(hi:i<3):SlB (W.alloc (Xf #[.int .u8 ((tabN i 0:Nat):Int),.int .u8 ((tabN i 1:Nat):Int),.int .u8 ((tabN i 2:Nat):Int)] 5)) (Xa (some ⟨W.heap.size,0,none⟩) 3 3) i:=by
 refine⟨_,rfl,fun j a=>(zaf W 5 [.int .u8 ((tabN i 0:Nat):Int),.int .u8 ((tabN i 1:Nat):Int),.int .u8 ((tabN i 2:Nat):Int)]).cell (j:=j) ?_⟩;rcases(show j=0 ∨ j=1 ∨ j=2 by omega)with h|h|h<;>rw[h]<;>rfl
theorem TabB.new {W:Xg}{x y z:Xh}(h0:SlB W x 0)(h1:SlB W y 1)(c:SlB W z 2):TabB (W.alloc (Xf #[x,y,z] 90)) (Xa (some ⟨W.heap.size,0,none⟩) 3 3):=by
 have a:=(Xi W).alloc (Xf #[x,y,z] 90);have b:=zaf W 90 [x,y,z];refine⟨_,rfl,fun i hi=>?_⟩;rcases(show i=0 ∨ i=1 ∨ i=2 by omega)with h|h|h
 ·subst h;exact⟨x,b.cell (j:=0) rfl,h0.ext a⟩
 ·subst h;exact⟨y,b.cell (j:=1) rfl,h1.ext a⟩
 subst h;exact⟨z,b.cell (j:=2) rfl,c.ext a⟩
theorem zvj {α:Type}(T:Shape α){W W':Xg}{S S':Nat->Prop}{x:α}{c:List Xh}(d:T.rd W S x c)(a:∀b,S b->b<W.heap.size->W'.heap[b]? = W.heap[b]?/\S' b):T.rd W' S' x c :=
 T.mono (T.keep (T.mono (S':=fun b=>S b/\b<W.heap.size) d fun b hb e=>⟨e,hb⟩) fun b hb f=>(a b hb.1 f).1) fun b _ hb=>(a b hb.1 hb.2).2
theorem zk5 {n base T k m:Nat}{w0 W W':Xg}{v v':Xh}{xs:List Xh}(c:Below n w0 W)(a:Grew W W' v v')(e:Own W base T k v m xs)(g:n<=base)(f:n<=W.heap.size):Below n w0 W' :=
 Qv c ⟨a.os,a.tape,a.output,a.size,fun b hb=>a.same b (Qp hb f) fun d=>by have:=(e.base_le d).1;omega⟩
def zhg (rs:List Rep)(k i:Nat):List Rep:=rs.mapIdx fun j q=>if j<i then { q with knew:=q.knew++[decide (j=k)] } else q
theorem zvk (rs:List Rep)(k:Nat):zhg rs k 0=rs:=by
 refine Qj fun j=>?_
 unfold zhg;rw[Qc]
 cases rs[j]? with
 | none=>rfl
 | some q=>simp
theorem yaf {rs:List Rep}{k i:Nat}{q:Rep}(h:rs[i]? = some q):(zhg rs k i)[i]? = some q:=by
 unfold zhg;rw[Qc,h];simp
theorem zvl {rs:List Rep}{k i:Nat}{q:Rep}(a:rs[i]? = some q):(zhg rs k i).set i { q with knew:=q.knew++[decide (i=k)] }=zhg rs k (i+1):=by
 have hi:=(Qb.1 a).1;refine Qj fun j=>?_
 unfold zhg;rw[Qr,Qc,Qc,Qq]
 by_cases b:i=j
 ·subst b;rw[zP rfl,zP hi,a];simp
 rw[zN b]
 cases rs[j]?
 case none=>rfl
 rename_i p
 simp only[Qm]
 by_cases c:j<i
 ·rw[zP c,zP (by omega)]
 rw[zN c,zN (by omega)]
theorem zye {rs:List Rep}{k n:Nat}{r:Rep}{s:State}(c:rs[k]? = some r)(g:rs.length=n):zhg (rs.set k { r with s:=s }) k n=rs.mapIdx fun i q=>if i=k then { q with s:=s,knew:=q.knew++[true] } else { q with knew:=q.knew++[false] }:=by
 refine Qj fun j=>?_
 unfold zhg;rw[Qc,Qc,Qr]
 by_cases a:k=j
 ·subst a;have hk:=(Qb.1 c).1;rw[zP rfl,zP hk,c];simp only[Qm,if_true,zP (show k<n by omega),decide_true]
 rw[zN a]
 cases d:rs[j]?
 case none=>rfl
 rename_i p
 have f:=(Qb.1 d).1;have b:¬j=k:=fun e=>a e.symm
 simp only[Qm,zP (show j<n by omega),zN b,decide_eq_false b]
theorem zcw {n:Nat}{w0 W W':Xg}(a:Below n w0 W)(c:n<=W.heap.size)(b:Ext W W'):Below n w0 W':=Qv a (Below.mono b c)
structure BelowX (X:Nat->Prop) (n:Nat) (w w':Xg):Prop where
 below:Below n w w'
 same:∀b,X b->w'.heap[b]? = w.heap[b]?
 lt:∀b,X b->b<w'.heap.size
section
variable {X:Nat->Prop} {n:Nat} {w0 W W':Xg}
theorem BelowX.refl (n:Nat)(h:∀b,X b->b<W.heap.size):BelowX X n W W:=⟨Below.refl n W,fun _ _=>rfl,h⟩
theorem BelowX.trans (h:BelowX X n w0 W)(k:BelowX X n W W'):BelowX X n w0 W':=⟨Qv h.below k.below,fun b hb=>(k.same b hb).trans (h.same b hb),k.lt⟩
theorem ygp (a:BelowX X n w0 W)(d:n<=W.heap.size)(c:Ext W W'):BelowX X n w0 W':=⟨zcw a.below d c,fun b hb=>(c.block b (a.lt b hb)).trans (a.same b hb),fun b hb=>Qp (a.lt b hb) c.size⟩
theorem BelowX.setCell (a:BelowX X n w0 W){p:Addr}(c:n<=p.block/\∀b,X b->b≠p.block)(v:Xh):BelowX X n w0 (W.setCell p v):=⟨a.below.setCell c.1 v,fun b hb=>(Qn W _ _ b (c.2 b hb)).trans (a.same b hb),fun b hb=>by rw[Qo];exact a.lt b hb⟩
theorem yhc {base T k m:Nat}{v v':Xh}{xs:List Xh}(a:BelowX X n w0 W)(c:Grew W W' v v')(e:Own W base T k v m xs)(d:n<=base)(g:n<=W.heap.size)(f:∀b,X b->¬zad v b):BelowX X n w0 W' :=
 ⟨zk5 a.below c e d g,fun b hb=>(c.same b (a.lt b hb) (f b hb)).trans (a.same b hb),fun b hb=>Qp (a.lt b hb) c.size⟩
end
theorem yjm {al:Nat->Prop}{V:Vec}{E:List Ev}{rs:List Rep}{vs:List RepV}{e8:Xh}{base R n k:Nat}{d:Deed}{W:Xg}(a4:DeedOk d)(a3:MemX al W base R vs rs e8 E)(hR:DoesOk E n rs V d)(b2:d.n % n=k)(hk:k<n)(cm:¬ 3<=d.do_ % 5) :
  Calls Tryz.prog 55 #[Xa (some ⟨R,0,none⟩) n n,e8,I k,St (zac k),zqv d] W fun r W'=>∃e9 gu,r=.returned (Xd #[e9,Xc true])/\MemX al W' base R gu (updV E V rs k (keyD d) (opD d) d.by_ (txD d)).2 e9 (updV E V rs k (keyD d) (opD d) d.by_ (txD d)).1/\BelowX al base W W':=by
 have f8:=hR.most;obtain⟨r,ai⟩:∃r,rs[k]? = some r:=⟨_,Qd (by rw[hR.len];exact hk)⟩
 have e2:=hR.upd cm r (by rw[b2];exact ai);rw[b2]at e2;obtain⟨U,eo⟩:=e2;have fh:=zH eo;have fi:=zH (hR.lim r (.inl (by rw[b2];exact ai)));clear eo b2 cm;have bj:=zry a4;obtain⟨kk,ct,gg⟩:∃kk:Nat,kk=d.key % 3/\kk<3:=⟨_,rfl,by omega⟩
 obtain⟨ab,em,gf⟩:∃ab:Nat,ab=d.do_ % 3/\ab<3:=⟨_,rfl,by omega⟩
 obtain⟨a8,e0,g8⟩:∃a8:Nat,a8=d.text % 2/\a8<2:=⟨_,rfl,by omega⟩
 obtain⟨af,ez⟩:∃af:Nat,af=97+a8:=⟨_,rfl⟩
 have da:txD d = [UInt8.ofNat af]:=by rw[ez,e0];rfl
 have dp:=zH (fun(X:Xg)=>show(X.alloc (Xf #[St [35,110],St [64,115],St [61,99]] 9)).cell? ⟨X.heap.size,kk,none⟩=some (St (keyD d)) by have a:=zaf X 9 [St [35,110],St [64,115],St [61,99]];refine a.cell (j:=kk) ?_;unfold keyD;rw[<- ct];rcases(show kk=0 ∨ kk=1 ∨ kk=2 by omega)with a|a|a<;>rw[a]<;>rfl)
 have i1:(d.key:Int).tmod 3=(kk:Int):=by rw[Qf (by omega)];omega
 have i2:(d.do_:Int).tmod 3=(ab:Int):=by rw[Qf (by omega)];omega
 have i3:(d.text:Int).tmod 2=(a8:Int):=by rw[Qf (by omega)];omega
 have i4:(97:Int)+(a8:Int)=(af:Int):=by omega
 have i5:(af:Int) % 256=(af:Int):=by omega
 have q1:(d.key:Int)<256:=by have:=a4.key;omega
 have g9:(d.do_:Int)<256:=by have:=a4.do_;omega
 have q3:(d.text:Int)<256:=by have:=a4.text;omega
 have gn:=a4.lo;have gp:=a4.hi
 have dt:=zH (show([[1,1,1],[2,3,2],[4,4,4]][kk]?.getD [])[ab]?.getD 0=opD d by unfold opD;rw[<- ct,<- em];rcases(show kk=0 ∨ kk=1 ∨ kk=2 by omega)with a|a|a<;>rcases(show ab=0 ∨ ab=1 ∨ ab=2 by omega)with h'|h'|h'<;>rw[a,h']<;>rfl)
 have cg:=zH (show updV E V rs k (keyD d) (opD d) d.by_ (txD d)=updV E V rs k (keyD d) (opD d) d.by_ (txD d)from rfl);obtain⟨v,an,aw⟩:=a3.get ai;obtain⟨v1,v2,v3,hj,br⟩:=v;obtain⟨⟨bo,bp,bq⟩,o,bn⟩:=r;obtain⟨df,e5,dg,e6,dh,e7,rfl,rfl,rfl⟩:=aw.st.fm;obtain⟨ap,ax,rfl,-,-⟩:=aw.kn.form;obtain⟨az,a7,rfl,-,-⟩:=a3.ev.form;obtain⟨key,en⟩:∃x,keyD d=x:=⟨_,rfl⟩
 obtain⟨D,ep⟩:∃x,opD d=x:=⟨_,rfl⟩
 obtain⟨tx,e1⟩:∃x,txD d=x:=⟨_,rfl⟩
 rw[en]at dp cg U bj ⊢;rw[ep]at dt cg U bj ⊢;rw[e1]at cg U bj da ⊢;have F:=zH (BelowX.refl base a3.ltX);have m:=(Xi W).alloc (Xf #[K8 d.key,K8 d.do_,K8 d.n,.int .i16 d.by_,K8 d.text,K8 d.other,Xc d.asks] 70);have ac:=zH (zaf W 70 [K8 d.key,K8 d.do_,K8 d.n,.int .i16 d.by_,K8 d.text,K8 d.other,Xc d.asks]);have l:=zH (a3.ext m);have fd:=zH (show base<=W.heap.size from a3.bl);have F:=zH (ygp F.out fd.out m);have ba:=zH ai;have B:=zH an;have fq:=zH U;have am:=zH hR;have bv:=zH ai;have g0:=zH bj;have fp:=zH da;clear aw a3 U m ai an hR bj da ct em e0 en ep e1 f8 ez;go_enter Tryz.func55,Tryz.ntmps55;refine wpH ?_;intro K t;go_wp;refine t.out _ _ ?_;clear t K;obtain⟨ci,eb⟩:∃X,W.alloc (Xf #[K8 d.key,K8 d.do_,K8 d.n,.int .i16 d.by_,K8 d.text,K8 d.other,Xc d.asks] 70)=X:=⟨_,rfl⟩
 obtain⟨bb,ga⟩:∃x,W.heap.size=x:=⟨_,rfl⟩
 rw[eb]at l F ac ⊢;rw[ga]at ac ⊢;clear eb;have d0:=(ac.out.alloc (Xf #[St [35,110],St [64,115],St [61,99]] 9)).cell (j:=0) rfl;have gi:=dp.out ci;refine wpH ?_;intro K t;go_wp;refine t.out _ _ ?_;clear t K gi d0;have m:=(Xi ci).alloc (Xf #[St [35,110],St [64,115],St [61,99]] 9);obtain⟨aa,ec⟩:∃X,ci.alloc (Xf #[St [35,110],St [64,115],St [61,99]] 9)=X:=⟨_,rfl⟩
 rw[ec]at m ⊢;clear ec;have F:=zH (ygp F.out l.out.bl m);have l:=zH (l.out.ext m);have ac:=zH (ac.out.ext m);clear m;have fy:=ac.out.cell (j:=3) rfl;have fz:=ac.out.cell (j:=4) rfl
 have gb:(convert 90 9 (Xa (some ⟨aa.heap.size,0,none⟩) 1 1)).run Tryz.prog (aa.alloc (Xf #[.int .u8 (af:Int)] 5))=.ok (St tx) (aa.alloc (Xf #[.int .u8 (af:Int)] 5)):=by rw[fp.out];exact zvi ((zaf aa 5 [.int .u8 (af:Int)]).cell (j:=0) rfl)
 refine wpH ?_;intro K t;go_wp;refine t.out _ _ ?_;clear t K gb fy fz;have a6:Ext aa ((aa.alloc (Xf #[.int .u8 (af:Int)] 5)).alloc (Xf #[.int .u8 0,St key,I d.by_,St tx] 99)):=((Xi aa).alloc _).alloc _;have Y:Hid (RowIs ((aa.alloc (Xf #[.int .u8 (af:Int)] 5)).alloc (Xf #[.int .u8 0,St key,I d.by_,St tx] 99)) (aa.heap.size+1) 99 [.int .u8 0,St key,I d.by_,St tx] []):=zH (by have a:=zaf (aa.alloc (Xf #[.int .u8 (af:Int)] 5)) 99 [.int .u8 0,St key,I d.by_,St tx];rw[World.size_alloc]at a;exact a);obtain⟨g1,ed⟩:∃X,((aa.alloc (Xf #[.int .u8 (af:Int)] 5)).alloc (Xf #[.int .u8 0,St key,I d.by_,St tx] 99))=X:=⟨_,rfl⟩
 obtain⟨ae,eg⟩:∃x,aa.heap.size+1=x:=⟨_,rfl⟩
 rw[ed]at a6 Y ⊢;rw[eg]at Y ⊢;have a0:=zH a6;have fc:=zH (show aa.heap.size<=ae by omega);have cd:=zH (show R≠ae by have h1:=l.out.row.lt;omega);clear ed eg a6 i3 i4 i5 q3;refine wpH ?_;intro K t;refine zat [fun v W=>SlB W v 0,fun v W=>SlB W v 1,fun v W=>SlB W v 2,fun v W=>TabB W v,fun v _=>v=Xb (some ⟨bb,0,none⟩),fun v _=>v=K8 d.key,fun v _=>v=I d.key,fun v _=>v=I kk,fun v W=>PtrB W v kk,fun v W=>SlB W v kk,fun v _=>v=Xb (some ⟨bb,1,none⟩),fun v _=>v=Xb (some ⟨bb,1,none⟩),fun v _=>v=K8 d.do_,fun v _=>v=K8 ab,fun v _=>v=I ab] rfl (by kernel_rfl) ?hR ?hstep ?hend
 case hR=>simp only[zM];exact⟨fun v _ _ a h=>a.ext h,fun v _ _ a h=>a.ext h,fun v _ _ a h=>a.ext h,fun v _ _ a h=>a.ext h,kP,kP,kP,kP,fun v _ _ a h=>a.ext h,fun v _ _ a h=>a.ext h,kP,kP,kP,kP,kP⟩
 case hstep =>
  simp only[zS,zD,Qh,zbj]
  and_intros<;>intro x W h f
  ·go_wp;exact zaa (SlB.new W 0 (by decide)) ((Xi _).alloc _)
  ·go_wp;exact zaa (SlB.new W 1 (by decide)) ((Xi _).alloc _)
  ·go_wp;exact zaa (SlB.new W 2 (by decide)) ((Xi _).alloc _)
  ·obtain⟨b0,bz,c1⟩:SlB W (x 37) 0:=f.1;obtain⟨ah,d8,c2⟩:SlB W (x 38) 1:=f.2.1;obtain⟨b1,cl,bc⟩:SlB W (x 39) 2:=f.2.2.1;have c9:=TabB.new (W:=W) (x:=x 37) (y:=x 38) (z:=x 39) ⟨b0,bz,c1⟩ ⟨ah,d8,c2⟩ ⟨b1,cl,bc⟩;rw[bz,d8,cl]at c9;clear c1 c2 bc;have fo:=zH c9;clear c9 f;go_wp;exact zaa fo.out ((Xi _).alloc _)
  ·have h0:x 9=Xb (some ⟨bb,0,none⟩):=f.1;go_wp;exact sQ
  ·have h0:_=_:=f.1;have co:=(ac.out.ext a0.out).ext h;have d0:=co.cell (j:=0) rfl;go_wp;exact sQ
  iterate 2 · have h0:_=_:=f.1;go_wp;exact sQ
  ·obtain⟨g,bz,c1⟩:TabB W (x 40):=f.1;have h1:_=_:=f.2.1;obtain⟨u,c2,s2⟩:=c1 kk gg;have cf:=zH (show PtrB W (Xb (some ⟨g,kk,none⟩)) kk from⟨g,u,rfl,c2,s2⟩);clear c1 c2 s2 f;go_wp;exact zaa cf.out (Xi _)
  ·obtain⟨g,u,bz,c2,s2⟩:PtrB W (x 45) kk:=f.1;have g6:u.oneCell'=true:=(by obtain⟨ah,rfl,-⟩:=s2;rfl);have cf:=zH s2;clear s2 f;go_wp;exact zaa cf.out (Xi _)
  ·have h0:x 9=Xb (some ⟨bb,0,none⟩):=f.1;go_wp;exact sQ
  ·have h0:_=_:=f.1;go_wp;exact sQ
  ·have h0:_=_:=f.1;have co:=(ac.out.ext a0.out).ext h;have d1:=co.cell (j:=1) rfl;go_wp;exact sQ
  ·have h0:_=_:=f.1;go_wp;exact sQ
  have h0:_=_:=f.1;have hc:(ab:Int)<256:=(by omega);go_wp;exact sQ
 case hend =>
  intro x d5 m f;obtain⟨g,f0,cr⟩:SlB d5 (x 46) kk:=f.2.2.2.2.2.2.2.2.2.1;have d6:=cr ab gf;rw[show tabN kk ab=D from dt.out]at d6;have f1:x 51=I ab:=f.2.2.2.2.2.2.2.2.2.2.2.2.2.2.1;clear f cr;have Y:=zH (Y.out.ext m);have a0:=zH (a0.out.trans m);have r0:=Y.out.cell (j:=0) rfl;have b8:=Y.out.frozen 0;clear m;simp only[zS,zD,zU,Qh,Qk,zav,Act.put,f0,f1];go_wp;refine t.out _ _ ?_;clear t K d6 r0 b8;have c3:=Y.out.set (j:=0) (by simp) (.int .u8 (D:Int));have dc:=a0.out.set (p:=⟨ae,0,none⟩) fc.out (.int .u8 (D:Int));obtain⟨a2,ee⟩:∃X,d5.setCell ⟨ae,0,none⟩ (.int .u8 (D:Int))=X:=⟨_,rfl⟩
  rw[ee]at c3 dc ⊢;clear ee;have Y:Hid (RowIs a2 ae 99 [.int .u8 (D:Int),St key,I d.by_,St tx] []):=zH c3;have m:=dc;clear c3 dc a0;have F:=zH (ygp F.out l.out.bl m);have l:=zH (l.out.ext m);have ac:=zH (ac.out.ext m);clear m;have dz:Hid (SmallS ⟨bo,bp,bq⟩):=zH (LimS.small (n:=402) fi.out (by decide));have d3:=zH (l.out.rep k _ _ B.out ba.out).st;obtain⟨⟨G,H,J⟩,ew⟩:∃s2,(updS ⟨bo,bp,bq⟩ (zac k) (D,key,d.by_,tx)).1=s2:=⟨_,rfl⟩
  have dy:=zH ew;clear ew
  have dm:=zH (fun(X:Xg) (h:Ext a2 X)=>by have a:=znl (zac k) (D,key,d.by_,tx) (Int.le_trans (by decide) gn) (Int.le_trans gp (by decide)) (d3.out.ext h) dz.out;rw[dy.out,fq.out]at a;exact a)
  have bw:=zH (fun(X:Xg) (h:Ext a2 X)=>(show X.cell? ⟨R,k * 5,none⟩=some (Xa df bo.length e5)/\X.cell? ⟨R,k * 5+1,none⟩=some (Xa dg bp.length e6)/\X.cell? ⟨R,k * 5+2,none⟩=some (Xa dh bq.length e7)from⟨h.cell (l.out.cell (j:=0) B.out rfl),h.cell (l.out.cell (j:=1) B.out rfl),h.cell (l.out.cell (j:=2) B.out rfl)⟩));refine wpH ?_;intro K t;refine zc7 [some fun v=>v=Xa (some ⟨R,0,none⟩) n n,some fun v=>v=I k,some fun v=>v=Xb (some ⟨R,k * 5,none⟩),some fun v=>v=Xb (some ⟨R,k * 5,none⟩),some fun v=>v=stV (Xa df bo.length e5) (Xa dg bp.length e6) (Xa dh bq.length e7),some fun v=>v=St (zac k),some fun v=>v=opV (D,key,d.by_,tx),none,none,none,some fun v=>v=I 0,none,none] (BoxK a2.heap.size 26 zol (CSt a2.heap.size ⟨G,H,J⟩) (tupS 0) agS 7 8 9 11 12) rfl (by kernel_rfl) ?hK ?h0 ?hstep ?hend
  case hK=>exact fun st w w' a h=>a.ext CSt.keep h
  case h0=>exact BoxK.start _
  case hstep =>
   simp only[zS,zD,Qh,zew,zf6]
   and_intros<;>intro x W st h hK
   ·intro f;have h0:x 0=Xa (some ⟨R,0,none⟩) n n:=f.1;clear hK;go_wp;exact sQ
   ·intro f;have h0:x 2=I k:=f.1;clear hK;go_wp;exact sQ
   ·intro f;have h0:_=_:=f.1;have h1:_=_:=f.2.1;clear hK;go_wp;exact sQ
   ·intro f;have h0:_=_:=f.1;clear hK;go_wp;exact sQ
   ·intro f;have h0:_=_:=f.1;clear hK;obtain⟨ck,c1,c2⟩:=bw.out W h;go_wp;exact sQ
   ·intro f;have h0:x 3=St (zac k):=f.1;clear hK;go_wp;exact sQ
   ·intro f;have h0:x 13=Xb (some ⟨ae,0,none⟩):=f.1;clear hK;have aq:=Y.out.ext h;obtain⟨r0,r1,b7,gq⟩:=aq.p4;go_wp;exact sQ
   ·intro ak f;have h0:_=_:=f.1;have h1:_=_:=f.2.1;have Z:_=_:=f.2.2.1;have fe:=zH (dm.out W h);have t:=zH hK;clear hK;go_wp;refine fe.out.mono ?_;rintro r aa⟨he,hf,hg,rfl,cx,a6⟩;obtain⟨L,O,M,P,N,Q,rfl,rfl,rfl⟩:=cx.fm;have fj:=zH cx;clear cx;dsimp only;go_wp;exact za2 ⟨t.out.call (xs:=[Xa L G.length O,Xa M H.length P,Xa N J.length Q]) (by decide) ak a6 h.size ⟨L,O,M,P,N,Q,rfl,fj.out.mono fun b hb a=>⟨⟨a,hb⟩,Ql h.size a⟩⟩,h.trans a6⟩
   ·intro ak f;have h0:st 7=some (x 63):=f.1;have t:=zH hK;clear hK;go_wp;exact za2 ⟨t.out.move (by decide) h0,h⟩
   ·intro ak f;have h0:st 8=some (x 55):=f.1;obtain⟨xs,S,an,⟨L,O,M,P,N,Q,rfl,-⟩,bd⟩:=hK.part (by decide) h0;have t:=zH bd;clear hK bd;go_wp;exact za2 ⟨t.out,h⟩
   ·intro f;have h0:st 8=some (x 55):=f.1;obtain⟨xs,S,an,⟨L,O,M,P,N,Q,rfl,-⟩,bd⟩:=hK.part (by decide) h0;have t:=zH bd;clear hK bd;go_wp;exact sQ
   ·intro ak f;have t:=zH hK;clear hK;go_wp;exact za2 ⟨t.out.alloc CSt.keep (by decide) ak h.size,h.alloc _⟩
   intro ak f;have h0:st 11=some (x 14):=f.1;have h1:st 9=some (x 64):=f.2.1;obtain⟨xs,S,ah,an,es,el,ai,⟨L,O,M,P,N,Q,rfl,-⟩,ek⟩:=hK.store CSt.keep (by decide) h1 h0 ak;obtain⟨r0,r1,b7⟩:=ai.p3;obtain⟨hp,hq,hr⟩:=ai.q3;have ej:=ek (((W.setCell ⟨ah,0,none⟩ (Xa L G.length O)).setCell ⟨ah,1,none⟩ (Xa M H.length P)).setCell ⟨ah,2,none⟩ (Xa N J.length Q)) (Xc true) (zi0 ai) (Nat.le_of_eq (zjl W ah (Xa L G.length O) (Xa M H.length P) (Xa N J.length Q)).symm) (fun y gm=>zht W ah (Xa L G.length O) (Xa M H.length P) (Xa N J.length Q) y gm);have e4:=zi1 h el (Xa L G.length O) (Xa M H.length P) (Xa N J.length Q);have t:=zH ej;have ft:=zH e4;clear hK ek ej e4 ai h0 h1;go_wp;exact za2 (v:=Xc true) ⟨t.out,ft.out⟩
  case hend =>
   intro x cj st m hK ak f;have d9:st 11=some (x 14):=f.2.2.2.2.2.2.2.2.2.2.2.1;have f6:x 65=I 0:=f.2.2.2.2.2.2.2.2.2.2.1;obtain⟨xs,S,ah,es,el,eu,⟨L,O,M,P,N,Q,rfl,ex⟩,f9⟩:=hK.done d9 (ak 12 (show 12<13 by decide) rfl);have dx:=zH eu;have ds:=zH ex;have Y:=zH (Y.out.ext m);have dr:=zH (fun(b:Nat) (hb:a2.heap.size<=b)=>l.out.free_new hb);have F:=zH (ygp F.out l.out.bl m);have l:=zH (l.out.ext m);have ac:=zH (ac.out.ext m);clear m;clear hK ak f eu ex d9 f9 dm bw d3 dz
   skip
   simp only[zS,zD,zU,Qh,Qk,zav,Act.put,f6,es];go_wp;refine t.out _ _ ?_;clear t K;obtain⟨r0,r1,b7⟩:=dx.out.p3;have ck:=l.out.cell (j:=0) B.out rfl;have c1:=l.out.cell (j:=1) B.out rfl;have c2:=l.out.cell (j:=2) B.out rfl;have b8:=l.out.row.frozen (k * 5+0);have gx:=l.out.row.frozen (k * 5+1);have gy:=l.out.row.frozen (k * 5+2);simp only[Qs]at ck b8;go_wp2_with fail;rename_i K hK;have t:=zH hK;clear hK;have cw:=l.out.putS (s:=⟨G,H,J⟩) B.out ba.out (ds.out.mono fun b _ a=>dr.out b a.2);have b3:=l.out.loX;have cq:BelowX al base W (((cj.setCell ⟨R,k * 5,none⟩ (Xa L G.length O)).setCell ⟨R,k * 5+1,none⟩ (Xa M H.length P)).setCell ⟨R,k * 5+2,none⟩ (Xa N J.length Q)):=((F.out.setCell b3 _).setCell b3 _).setCell b3 _;have cz:RowIs (((cj.setCell ⟨R,k * 5,none⟩ (Xa L G.length O)).setCell ⟨R,k * 5+1,none⟩ (Xa M H.length P)).setCell ⟨R,k * 5+2,none⟩ (Xa N J.length Q)) ae 99 [.int .u8 (D:Int),St key,I d.by_,St tx] []:=((Y.out.other cd.out _).other cd.out _).other cd.out _;obtain⟨aj,ef⟩:∃X,(((cj.setCell ⟨R,k * 5,none⟩ (Xa L G.length O)).setCell ⟨R,k * 5+1,none⟩ (Xa M H.length P)).setCell ⟨R,k * 5+2,none⟩ (Xa N J.length Q))=X:=⟨_,rfl⟩
   rw[ef]at cw cq cz ⊢;clear ef r0 r1 b7 ck c1 c2 b8 gx gy b3;have db:(vs.set k ⟨Xa L G.length O,Xa M H.length P,Xa N J.length Q,Xa ap o.length ax,br⟩)[k]? = some ⟨Xa L G.length O,Xa M H.length P,Xa N J.length Q,Xa ap o.length ax,br⟩:=(by rw[Qg (Qb.1 B.out).1]);have c5:(rs.set k ⟨⟨G,H,J⟩,o,bn⟩)[k]? = some ⟨⟨G,H,J⟩,o,bn⟩:=(by rw[Qg (Qb.1 ba.out).1]);have gl:(vs.set k ⟨Xa L G.length O,Xa M H.length P,Xa N J.length Q,Xa ap o.length ax,br⟩).length=vs.length:=Qx;obtain⟨de,e3⟩:∃x,vs.set k ⟨Xa L G.length O,Xa M H.length P,Xa N J.length Q,Xa ap o.length ax,br⟩=x:=⟨_,rfl⟩
   obtain⟨ao,c8⟩:∃x,rs.set k ⟨⟨G,H,J⟩,o,bn⟩=x:=⟨_,rfl⟩
   have b4:MemX al aj base R (vs.set k ⟨Xa L G.length O,Xa M H.length P,Xa N J.length Q,Xa ap o.length ax,br⟩) (rs.set k ⟨⟨G,H,J⟩,o,bn⟩) (Xa az E.length a7) E:=cw;rw[e3]at b4 db;rw[c8]at b4 c5;have ce:=zH c8;have l:=zH b4;have F:=zH cq;have Y:=zH cz;have B:=zH db;have ba:=zH c5;clear cw b4 cq cz db c5 e3 c8 dr ds dx gl;have bu:=zH (l.out.rep k _ _ B.out ba.out).kn;have bw:=zH (fun(X:Xg) (h:Ext aj X)=>h.cell (l.out.cell (j:=3) B.out rfl))
   have g2:o.length<=200:=by have Z:o.length=E.length:=am.out.kn k _ bv.out;have:=am.out.most;omega
   refine zat [fun v _=>v=Xa az E.length a7,fun v _=>v=St key,fun v _=>v=Xb (some ⟨ae,2,none⟩),fun v _=>v=I d.by_,fun v _=>v=Xb (some ⟨ae,0,none⟩),fun v _=>v=.int .u8 (D:Int),fun v _=>v=Xb (some ⟨ae,3,none⟩),fun v _=>v=St tx,fun v _=>∃A,v=Xa A 0 0,fun v _=>v=Xa (some ⟨R,0,none⟩) n n,fun v _=>v=I k,fun v _=>v=Xb (some ⟨R,k * 5,none⟩),fun v _=>v=Xb (some ⟨R,k * 5+3,none⟩),fun v _=>v=Xa ap o.length ax,fun v W=>Own W aj.heap.size 4 1 v o.length (o.flatMap zdf),fun v W=>∃u,v=Xe #[St key,I d.by_,.int .u8 (D:Int),St tx,u]/\Own W aj.heap.size 4 1 u o.length (o.flatMap zdf),fun v W=>∃g u,v=Xa (some ⟨g,0,none⟩) 1 1/\RowIs W g 179 [St key,I d.by_,.int .u8 (D:Int),St tx,u] []/\Own W aj.heap.size 4 1 u o.length (o.flatMap zdf)] rfl (by kernel_rfl) ?hR ?hstep ?hend
   case hR=>simp only[zM];exact⟨kP,kP,kP,kP,kP,kP,kP,kP,kP,kP,kP,kP,kP,kP,fun v _ _ a h=>a.ext h,fun v _ _ a h=>by obtain⟨u,e,a⟩:=a;exact⟨u,e,a.ext h⟩,fun v _ _ a h=>by obtain⟨g,u,e,a,Z⟩:=a;exact⟨g,u,e,a.ext h,Z.ext h⟩⟩
   case hstep =>
    simp only[zS,zD,Qh,zbj]
    and_intros<;>intro x W h f
    ·have h0:x 1=Xa az E.length a7:=f.1;go_wp;exact sQ
    ·have h0:x 12=St key:=f.1;go_wp;exact sQ
    ·have h0:x 13=Xb (some ⟨ae,0,none⟩):=f.1;go_wp;exact sQ
    ·have h0:_=_:=f.1;have aq:=Y.out.ext h;have b7:=aq.cell (j:=2) rfl;go_wp;exact sQ
    ·have h0:x 13=Xb (some ⟨ae,0,none⟩):=f.1;go_wp;exact sQ
    ·have h0:_=_:=f.1;have aq:=Y.out.ext h;have r0:=aq.cell (j:=0) rfl;go_wp;exact sQ
    ·have h0:x 13=Xb (some ⟨ae,0,none⟩):=f.1;go_wp;exact sQ
    ·have h0:_=_:=f.1;have aq:=Y.out.ext h;have gq:=aq.cell (j:=3) rfl;go_wp;exact sQ
    ·go_wp;exact zaa ⟨_,rfl⟩ ((Xi _).alloc _)
    ·have h0:x 0=Xa (some ⟨R,0,none⟩) n n:=f.1;go_wp;exact sQ
    ·have h0:x 2=I k:=f.1;go_wp;exact sQ
    ·have h0:_=_:=f.1;have h1:_=_:=f.2.1;go_wp;exact sQ
    ·have h0:_=_:=f.1;go_wp;exact sQ
    ·have h0:_=_:=f.1;have bc:=bw.out W h;go_wp;exact sQ
    ·obtain⟨A,h0⟩:∃A,x 81=Xa A 0 0:=f.1;have h1:_=_:=f.2.1;have gj:=(bu.out.ext h).src (zyd o);refine zal rfl (.tmp 81) (.tmp 86) 73 rfl aj.heap.size 4 1 1 (Xc false) Tryz.underlying73 zmb rfl (by omega) (Xa A 0 0) 0 [] (by simp[go_sem,h0]) (Own.nil W _ _ _ A) ap o.length ax _ (by simp[go_sem,h1]) gj (by omega) (by omega) h.size ?_;intro v2 gv er gc;rw[Nat.zero_add,List.nil_append]at er;refine wpList_nil ?_;exact zaa er ((Xi W).grew gc fun b hb=>by obtain⟨g,n,c,e,cr,rfl⟩:=hb;injection e with _ _ cl;omega)
    ·have h0:_=_:=f.1;have h1:_=_:=f.2.1;have Z:_=_:=f.2.2.1;have cm:_=_:=f.2.2.2.1;have cn:Own W aj.heap.size 4 1 (x 87) o.length (o.flatMap zdf):=f.2.2.2.2.1;have ch:=zH cn;obtain⟨A,c,f3,-,-⟩:=cn.form;clear cn f;go_wp;exact zaa ⟨_,by rw[f3],ch.out⟩ (Xi _)
    obtain⟨u,h0,h1⟩:∃u,x 88=Xe #[St key,I d.by_,.int .u8 (D:Int),St tx,u]/\Own W aj.heap.size 4 1 u o.length (o.flatMap zdf):=f.1;obtain⟨A,c,rfl,-,-⟩:=h1.form;have ch:=zH h1;clear h1 f;go_wp;exact zaa ⟨_,_,rfl,zaf W 179 [St key,I d.by_,.int .u8 (D:Int),St tx,Xa A o.length c],ch.out.alloc _⟩ ((Xi _).alloc _)
   case hend =>
    intro x a1 m f;have f2:x 73=Xa az E.length a7:=f.1;obtain⟨f5,hh,f4,c6,cu⟩:∃g u,x 89=Xa (some ⟨g,0,none⟩) 1 1/\RowIs a1 g 179 [St key,I d.by_,.int .u8 (D:Int),St tx,u] []/\Own a1 aj.heap.size 4 1 u o.length (o.flatMap zdf):=f.2.2.2.2.2.2.2.2.2.2.2.2.2.2.2.2.1;clear f;have dq:=l;have b5:=l.out.ext m;have F:=zH (ygp F.out l.out.bl m);obtain⟨vss,b0,ah,b1⟩:=b5.ev;have cc:=zH b5;have dk:=zH b0;have dl:=zH ah;have b9:=zH b1;have fn:=zH c6;have dn:=zH cu;have fs:=zH m;have g3:E.length<=200:=Nat.le_of_lt am.out.most;have ei:base<=a1.heap.size:=b5.bl;obtain⟨bt,bx,rfl,-,-⟩:=cu.form;have d2:=zH (Src.one c6 rfl (by intro u U;simp at U;rcases U with rfl|rfl|rfl|rfl|rfl<;>rfl));clear b5 b0 ah b1 c6 cu m;simp only[zS,zD,zU,Qh,Qk,zav,Act.put,f2,f4];refine zal rfl (.tmp 73) (.tmp 89) 63 rfl base 179 5 72 (Xe #[St [],I 0,K8 0,St [],Xa none 0 0]) Tryz.underlying63 zvh rfl (by omega) (Xa az E.length a7) E.length vss.flatten (by simp[go_sem]) b9.out (some ⟨f5,0,none⟩) 1 1 [St key,I d.by_,.int .u8 (D:Int),St tx,Xa bt o.length bx] (by simp[go_sem]) d2.out (by omega) (by omega) ei ?_;intro gs d4 eq bf;have gh:o=E.map (zao V):=fh.out
    have cv:MemX al d4 base R de ao gs (E++[(newE E V key d.by_ D tx (zac k))]):=by
     refine cc.out.pushEv bf fun S' ea=>OwnL.snoc (vs:=[St key,I d.by_,K8 D,St tx,Xa bt o.length bx]) dk.out (fun i x gr h1 Z=>zvj evT (dl.out i x gr h1 Z) fun b hb a5=>⟨bf.same b a5 hb.2.2.1,ea b hb a5⟩) ?_ eq
     refine⟨_,rfl,?_⟩;have h0:OwnL zvd 4 a1 aj.heap.size (fun _=>False) (Xa bt o.length bx) o:=OwnL.flat_iff.2 dn.out;have h1:Sl zvd a1 (fun b=>ygq al R de (Xa az E.length a7) b/\b<a1.heap.size) (Xa bt o.length bx) o:=h0.sl (by decide) (fun _ _ a=>a.elim) fun b hb a5=>⟨dq.out.free_new hb,a5⟩
     have Z:=(h1.keep (w':=d4) (by decide) fun b hb a5=>bf.same b a5 hb.1.2.2.1).mono (by decide) fun b _ hb=>ea b hb.1 hb.2
     rw[gh]at Z ⊢;exact Z
    have eh:=yhc F.out bf b9.out (Qw _) ei (fun b hb=>(cc.out.xA b hb).2.2);have l:=zH cv;have F:=zH eh;obtain⟨fa,fu,rfl,-,-⟩:=cv.ev.form;clear cv eh eq bf cc dq dk dl b9 fn dn fs d2;go_wp;refine t.out _ _ ?_;clear t K;have cs:(E++[(newE E V key d.by_ D tx (zac k))]).length=E.length+1:=(by simp);obtain⟨dj,cp⟩:∃x,E++[(newE E V key d.by_ D tx (zac k))]=x:=⟨_,rfl⟩
    rw[cp]at l cs;rw[cs]at l;have ff:=zH cp;clear cp cs;have et:ao.length=n:=(by rw[<- ce.out,Qx];exact am.out.len);have fl:=zH et;have du:=zH (fun(i:Nat) (q:Rep) (a:ao[i]? = some q)=>zvl (k:=k) a);have fk:=zH (fun(i:Nat) (q:Rep) (a:ao[i]? = some q)=>yaf (k:=k) a);have g5:n<=4:=am.out.few;clear et
    have fg:=zH (fun(q:Rep) (i:Nat) (a:ao[i]? = some q)=>(show q.knew.length<=200 by
     rw[<- ce.out]at a
     have key:∀p:Rep,∀j:Nat,rs[j]? = some p->p.knew.length<=200:=fun p j bg=>by have h1:=am.out.kn j p bg;have:=am.out.most;omega
     rcases zcv a with⟨-,rfl,-⟩|⟨-,a⟩
     ·have f7:o.length<=200:=key ⟨⟨bo,bp,bq⟩,o,bn⟩ k bv.out;exact f7
     exact key q i a))
    go_wp2_with fail
    go_loopw [16] (fun i wr=>∃(j:Nat) (bs:List RepV),i=I j/\j<=n/\MemX al wr base R bs (zhg ao k j) (Xa fa (E.length+1) fu) dj/\BelowX al base W wr) (fun i _=>n-(intOf i).toNat)
    case atStart=>exact⟨0,de,rfl,Nat.zero_le _,by rw[zvk];exact l.out,F.out⟩
    obtain⟨j,bs,rfl,g4,bi,hb⟩:=hrel;have l:=zH bi;have F:=zH hb
    by_cases bg:j<n
    ·obtain⟨q,b6⟩:∃q,ao[j]? = some q:=⟨_,Qd (by rw[fl.out];exact bg)⟩
     have dw:=zH b6;have c0:=fk.out j q b6;obtain⟨v,an,aw⟩:=bi.get c0;obtain⟨hl,gv,hm,hn,ho⟩:=v;obtain⟨hd,ay,ha⟩:=q;obtain⟨di,d7,rfl,-,-⟩:=aw.kn.form;have dv:=zH c0;have B:=zH an;have bu:=zH aw.kn;have g7:ay.length<=200:=fg.out _ j b6;have ey:=bi.bl;clear bi hb c0 an aw b6
     by_cases au:j=k
     ·have gd:((j:Int)==(k:Int))=true:=(by simp[au]);have ge:(j==k)=true:=(by simp[au]);have cb:=zH au;clear au;have m:Ext wr (wr.alloc (Xf #[Xc true] 4)):=(Xi wr).alloc _;have av:=l.out.ext m;have bh:=bu.out.ext m;have fw:=l.out.cell (j:=3) B.out rfl;have bc:=av.cell (j:=3) B.out rfl;have be:=ygp F.out ey m;have ad:=zH av;have a9:=zH bh;have ca:=zH be;have cy:=ad.out.noR _ (Qe B.out);clear av bh be m
      go_wp2_with (at_builtin;refine zal rfl (.tmp 103) (.tmp 107) 73 rfl base 4 1 1 (Xc false) Tryz.underlying73 zmb rfl (by omega) (Xa di ay.length d7) ay.length (ay.flatMap zdf) rfl a9.out _ 1 1 [Xc true] rfl (Src.new rfl (by intro u U;simp at U;subst U;rfl)) (by omega) (by omega) (by simp;omega) ?_;intro gt gw bk ar;obtain⟨fb,fx,rfl,-,-⟩:=bk.form;have bm:=ad.out.row.keep (ar.same R ad.out.row.lt cy);have fv:=bm.cell (zkf bs j 3 _ _ B.out rfl);have gz:=bm.frozen (j * 5+3))
      go_roundw
      case rel=>exact⟨j+1,_,by simp,bg,by have a:=ad.out.pushKnew B.out dv.out (x:=true) ar bk;have Z:=du.out j _ dw.out;rw[decide_eq_true cb.out]at Z;rw[Z]at a;exact a,(yhc ca.out ar a9.out (Qw _) (by simp;omega) (fun b hb=>(ad.out.xA b hb).2.1 _ (Qe B.out))).setCell ad.out.loX _⟩
      case measure=>simp[intOf];omega
     have gd:((j:Int)==(k:Int))=false:=(by rw[beq_eq_false_iff_ne];omega);have ge:(j==k)=false:=(by simp[au]);have cb:=zH au;clear au;have m:Ext wr (wr.alloc (Xf #[Xc false] 4)):=(Xi wr).alloc _;have av:=l.out.ext m;have bh:=bu.out.ext m;have fw:=l.out.cell (j:=3) B.out rfl;have bc:=av.cell (j:=3) B.out rfl;have be:=ygp F.out ey m;have ad:=zH av;have a9:=zH bh;have ca:=zH be;have cy:=ad.out.noR _ (Qe B.out);clear av bh be m
     go_wp2_with (at_builtin;refine zal rfl (.tmp 103) (.tmp 107) 73 rfl base 4 1 1 (Xc false) Tryz.underlying73 zmb rfl (by omega) (Xa di ay.length d7) ay.length (ay.flatMap zdf) rfl a9.out _ 1 1 [Xc false] rfl (Src.new rfl (by intro u U;simp at U;subst U;rfl)) (by omega) (by omega) (by simp;omega) ?_;intro gt gw bk ar;obtain⟨fb,fx,rfl,-,-⟩:=bk.form;have bm:=ad.out.row.keep (ar.same R ad.out.row.lt cy);have fv:=bm.cell (zkf bs j 3 _ _ B.out rfl);have gz:=bm.frozen (j * 5+3))
     go_roundw
     case rel=>exact⟨j+1,_,by simp,bg,by have a:=ad.out.pushKnew B.out dv.out (x:=false) ar bk;have Z:=du.out j _ dw.out;rw[decide_eq_false cb.out]at Z;rw[Z]at a;exact a,(yhc ca.out ar a9.out (Qw _) (by simp;omega) (fun b hb=>(ad.out.xA b hb).2.1 _ (Qe B.out))).setCell ad.out.loX _⟩
     case measure=>simp[intOf];omega
    obtain rfl:j=n:=by omega
    have U:updV E V rs k key D d.by_ tx=(dj,zhg ao k j):=by
     unfold updV;rw[bv.out];simp only;rw[dy.out,<- ff.out,<- ce.out]
     congr 1
     exact(zye bv.out am.out.len).symm
    have fr:=zH U;clear U bi hb;go_wp2_with fail
    go_ret2
    rw[fr.out];exact⟨_,bs,rfl,l.out,F.out⟩
def orP (a b:List Bool)(i:Nat):List Bool:=a.mapIdx fun j x=>if j<i then(x||(b[j]?.getD false))else x
theorem zr1 (a b:List Bool):orP a b 0=a:=by
 refine Qj fun j=>?_
 unfold orP;rw[Qc];cases a[j]?<;>simp
theorem zem (a b:List Bool)(i:Nat):(orP a b i).length=a.length:=Qq
theorem zr2 (a b:List Bool)(i:Nat):(orP a b i)[i]? = a[i]?:=by
 unfold orP;rw[Qc];cases a[i]?<;>simp
theorem zr3 {a b:List Bool}{i:Nat}{x y:Bool}(ha:a[i]? = some x)(hb:b[i]? = some y):(orP a b i).set i (x||y)=orP a b (i+1):=by
 have hi:=(Qb.1 ha).1;refine Qj fun j=>?_
 unfold orP;rw[Qr,Qc,Qc,Qq]
 by_cases c:i=j
 ·subst c;rw[zP rfl,zP hi,ha,hb];simp
 rw[zN c]
 cases a[j]?
 case none=>rfl
 rename_i z
 simp only[Qm]
 by_cases d:j<i
 ·rw[zP d,zP (by omega)]
 rw[zN d,zN (by omega)]
theorem zt0 {a b:List Bool}{n:Nat}(ha:a.length=n)(hb:b.length=n):orP a b n=orL a b:=by
 refine Qj fun j=>?_
 unfold orP orL;rw[Qc,List.getElem?_zipWith]
 cases h1:a[j]? with
 | none=>simp
 | some x=>have d:=(Qb.1 h1).1;have c:b[j]? = some (b[j]'(by omega)):=Qd _;rw[c];simp only[Qm,Option.getD_some];rw[zP (by omega)]
theorem zp7 {rs:List Rep}{k o i:Nat}{r q:Rep}{x y:Bool}(c:rs[k]? = some r)(a:rs[o]? = some q)(f:r.knew[i]? = some x)(d:q.knew[i]? = some y) :
  ∃e,(rs.set k { r with knew:=orP r.knew q.knew i })[o]? = some e/\e.knew[i]? = some y:=by
 by_cases b:k=o
 ·subst b;rw[c]at a;cases a;refine⟨{ r with knew:=orP r.knew r.knew i },by rw[Qg (Qb.1 c).1],?_⟩;simp only;rw[zr2];exact d
 exact⟨q,by rw[Qu b];exact a,d⟩
theorem zp8 {k m:Nat}(h:m=49+k):((⟨#[49,46]⟩:ByteArray)++⟨[UInt8.ofNat m].toArray⟩)=⟨(zac k).toArray⟩:=by
 subst h
 apply ByteArray.ext
 simp[zac]
theorem ybb {rs:List Rep}{k:Nat}{r:Rep}(h:rs[k]? = some r):askR rs k=rs.set k { r with asked:=r.s.all }:=by unfold askR;rw[h]
theorem yah {rs:List Rep}{k o:Nat}{r q:Rep}(a:rs[k]? = some r)(b:rs[o]? = some q):zmi rs k o=rs.set k { r with s:=zb9 r.s q.s,knew:=orL r.knew q.knew }:=by unfold zmi;rw[a,b]
theorem zhu {α:Type}{l:List α}{k:Nat}{x y:α}:(l.set k x).set k y=l.set k y:=by simp[List.set_set]
section
variable {N0 T:Nat} {zs:List Xh} {C:List Xh->(Nat->Prop)->Xg->Prop} {tup ag:List Xh->Xh} {i1 i2 i3 i4 i5:Nat} {st:Nat->Option Xh} {w:Xg}
theorem BoxK.other {i:Nat}{v:Xh}(f:i1≠i/\i2≠i/\i3≠i/\i4≠i/\i5≠i)(a:BoxK N0 T zs C tup ag i1 i2 i3 i4 i5 st w):BoxK N0 T zs C tup ag i1 i2 i3 i4 i5 (zfo st i v) w:=by
 obtain⟨d1,b,c,d,e⟩:=f;unfold BoxK at a ⊢;simp only[zah st v d1,zah st v b,zah st v c,zah st v d,zah st v e];exact a
end
def DltOk (N:Nat)(b d:State)(base:List Mark)(v:Xh)(w:Xg):Prop:=∃u0 c0 u1 c1 u2 c2 u3 c3,v=dltV (Xa u0 base.length c0) (Xa u1 d.all.length c1) (Xa u2 d.entries.length c2) (Xa u3 d.pruned.length c3) /\
 Sl markT w (fun x=>N<=x) (Xa u0 base.length c0) base/\StAt w (fun x=>N<=x) d (Xa u1 d.all.length c1) (Xa u2 d.entries.length c2) (Xa u3 d.pruned.length c3)
theorem DltOk.ext {a:Nat}{b d:State}{base:List Mark}{v:Xh}{w w':Xg}(h:DltOk a b d base v w)(c:Ext w w'):DltOk a b d base v w':=by
 obtain⟨j,f,k,c1,l,c2,m,g,e,h1,i⟩:=h;exact⟨j,f,k,c1,l,c2,m,g,e,h1.ext (by decide) c,i.ext c⟩
def DltK (N i:Nat)(b d:State)(base:List Mark)(st:Nat->Option Xh)(w:Xg):Prop:=∀v,st i=some v->DltOk N b d base v w
theorem DltK.ext {a i:Nat}{b d:State}{base:List Mark}{st:Nat->Option Xh}{w w':Xg}(c:DltK a i b d base st w)(e:Ext w w'):DltK a i b d base st w':=fun v f=>(c v f).ext e
theorem DltK.other {a i j:Nat}{b d:State}{base:List Mark}{st:Nat->Option Xh}{w:Xg}{u:Xh}(e:i≠j)(c:DltK a i b d base st w):DltK a i b d base (zfo st j u) w:=fun v f=>c v (by rwa[zah st u e]at f)
theorem yia {af:Nat->Prop}{V:Vec}{E:List Ev}{rs:List Rep}{vs:List RepV}{hq:Xh}{base R n:Nat}{d:Deed}{W:Xg}(bs:DeedOk d)(be:MemX af W base R vs rs hq E)(hR:rs.length=n)(L:0<n)(a9:DoesOk E n (askI rs d) V d) :
  Calls Tryz.prog 21 #[Xa (some ⟨R,0,none⟩) n n,hq,zqv d] W fun r W'=>∃hr je,r=.returned (Xd #[hr,Xc true])/\MemX af W' base R je (yg3 E V rs d).2 hr (yg3 E V rs d).1/\BelowX af base W W':=by
 obtain⟨k,bg⟩:∃k,d.n % n=k:=⟨_,rfl⟩
 obtain⟨p,bv⟩:∃p,d.other % n=p:=⟨_,rfl⟩
 have hk:k<n:=by rw[<- bg];exact Qy _ L
 have i9:p<n:=by rw[<- bv];exact Qy _ L
 have jx:n<=4:=a9.few;have e6:=a9.most
 have ao:DoesOk E n (if d.asks then askR rs k else rs) V d:=by have l:=a9;unfold askI at l;rw[hR,bg]at l;exact l
 have jy:¬n=0:=by omega
 have aw:=zH (show yg3 E V rs d=if 3<=d.do_ % 5 then(E,zmi (if d.asks then askR rs k else rs) k p)else updV E V (if d.asks then askR rs k else rs) k (keyD d) (opD d) d.by_ (txD d) by unfold yg3 askI;rw[hR,bg,bv]);obtain⟨Z,df,ju⟩:∃Z:Nat,Z=d.do_ % 5/\Z<5:=⟨_,rfl,by omega⟩
 rw[<- df]at aw;have i1:(d.n:Int).tmod (n:Int)=(k:Int):=by rw[Qf (by omega),<- bg];omega
 have i2:(d.other:Int).tmod (n:Int)=(p:Int):=by rw[Qf (by omega),<- bv];omega
 have i3:(d.do_:Int).tmod 5=(Z:Int):=by rw[Qf (by omega)];omega
 have q1:(d.n:Int)<256:=by have:=bs.n;omega
 have ai:(d.other:Int)<256:=by have:=bs.other;omega
 have q3:(d.do_:Int)<256:=by have:=bs.do_;omega
 have h6:=zH bs;have c5:=zH ao;have ib:=zH hR;have bd:=zH bg;have cy:=zH bv;have eg:=zH df;clear a9 ao;have h7:=zH e6;obtain⟨bm,b3,rfl,-,-⟩:=be.ev.form;have F:=zH (BelowX.refl base be.ltX);have U:=(Xi W).alloc (Xf #[K8 d.key,K8 d.do_,K8 d.n,.int .i16 d.by_,K8 d.text,K8 d.other,Xc d.asks] 70);have ac:=zH (zaf W 70 [K8 d.key,K8 d.do_,K8 d.n,.int .i16 d.by_,K8 d.text,K8 d.other,Xc d.asks]);have h:=zH (be.ext U);have F:=zH (ygp F.out be.bl U);have en:=zH (show R≠W.heap.size by have:=be.row.lt;omega);clear bg bv df bs hR e6 be U;obtain⟨ask,cg⟩:∃b,d.asks=b:=⟨_,rfl⟩
 rw[cg]at ac aw c5;have hx:=zH cg;go_enter Tryz.func21,Tryz.ntmps21;refine wpH ?_;intro K t;go_wp;refine t.out _ _ ?_;clear t K;obtain⟨ey,e8⟩:∃X,W.alloc (Xf #[K8 d.key,K8 d.do_,K8 d.n,.int .i16 d.by_,K8 d.text,K8 d.other,Xc ask] 70)=X:=⟨_,rfl⟩
 obtain⟨Q,e9⟩:∃x,W.heap.size=x:=⟨_,rfl⟩
 rw[cg]at h F;rw[e8]at h F ac ⊢;rw[e9]at ac en ⊢;clear e8 cg e9;have d1:=ac.out.cell (j:=1) rfl;have jl:=ac.out.cell (j:=2) rfl;have jm:=ac.out.cell (j:=5) rfl;have jn:=ac.out.cell (j:=6) rfl;obtain⟨r,a0⟩:∃r,rs[k]? = some r:=⟨_,Qd (by rw[ib.out];exact hk)⟩
 obtain⟨v,al,cj⟩:=h.out.get a0;obtain⟨v1,v2,v3,ht,j9⟩:=v;obtain⟨⟨ab,ar,au⟩,a3,j4⟩:=r;obtain⟨av,a2,bj,b1,bk,b2,rfl,rfl,rfl⟩:=cj.st.fm;obtain⟨jg,nq,rfl,-,-⟩:=cj.ask.form;have b8:=zH a0;have bq:=zH al;have ik:=zH cj.st;clear cj a0 al;refine wpH ?_;intro K t;go_wp;refine t.out _ _ ?_;clear t K;refine wpH ?_;intro K t;go_wp;refine t.out _ _ ?_;clear t K;refine wpH ?_;intro K t
 have ca:∀(dw dx dy dz d0 d2 d3 d4 d5 d6 co:Xh) (u:Xg) (aq:List Rep) (d7:List RepV) (Y:List Mark),MemX af u base R d7 aq (Xa bm E.length b3) E->RowIs u Q 70 [K8 d.key,K8 d.do_,K8 d.n,.int .i16 d.by_,K8 d.text,K8 d.other,Xc ask] []->BelowX af base W u->aq[k]? = some ⟨⟨ab,ar,au⟩,a3,Y⟩->d7[k]? = some ⟨Xa av ab.length a2,Xa bj ar.length b1,Xa bk au.length b2,ht,co⟩->DoesOk E n aq V d->(if ask then askR rs k else rs)=aq->K ⟨#[Xa (some ⟨R,0,none⟩) n n,Xa bm E.length b3,zqv d,Qa,Qa,Xb (some ⟨Q,0,none⟩),Xa none 0 0,Xc false,I k,I p,Qa,Qa,Qa,Xb (some ⟨Q,1,none⟩),Xb (some ⟨Q,2,none⟩),K8 d.n,I d.n,Xa (some ⟨R,0,none⟩) n n,I n,I k,Xb (some ⟨Q,1,none⟩),Xb (some ⟨Q,5,none⟩),K8 d.other,I d.other,Xa (some ⟨R,0,none⟩) n n,I n,I p,Xb (some ⟨Q,6,none⟩),Xc ask,dw,dx,dy,dz,d0,d2,d3,d4,d5,d6,Qa,Qa,Qa,Qa,Qa,Qa,Qa,Qa,Qa,Qa,Qa,Qa,Qa,Qa,Qa,Qa,Qa,Qa,Qa,Qa,Qa,Qa,Qa,Qa,Qa,Qa,Qa,Qa,Qa,Qa,Qa,Qa,Qa,Qa,Qa,Qa,Qa,Qa,Qa,Qa,Qa,Qa,Qa,Qa,Qa,Qa,Qa,Qa,Qa,Qa,Qa,Qa,Qa,Qa,Qa,Qa,Qa,Qa,Qa,Qa,Qa,Qa,Qa,Qa,Qa,Qa,Qa,Qa,Qa,Qa,Qa,Qa,Qa,Qa,Qa,Qa,Qa,Qa,Qa,Qa,Qa,Qa,Qa,Qa,Qa,Qa,Qa,Qa,Qa,Qa,Qa,Qa,Qa,Qa,Qa,Qa,Qa],[]⟩ u:=by
  intro dw dx dy dz d0 d2 d3 d4 d5 d6 co u aq d7 Y ap bt ba bh bi fq fs;rw[fs]at aw;clear fs;have dn:=ap.rep k _ _ bi bh;obtain⟨hv,jb,rfl,-,-⟩:=dn.ask.form;have ep:=zH dn.st;have h:=zH ap;have ac:=zH bt;have F:=zH ba;have am:=zH bh;have aa:=zH bi;have ax:=zH fq;clear ap bt ba bh bi fq dn;refine t.out _ _ ?_;clear t K;have jk:=ac.out.cell (j:=1) rfl
  by_cases ch:3<=Z
  ·have fc:(3:Int)<=(Z:Int):=(by omega);have iz:(Z:Int)≥3:=(by omega);rw[zP ch]at aw;obtain⟨q,dk⟩:∃q,aq[p]? = some q:=⟨_,Qd (by rw[ax.out.len];exact i9)⟩
   obtain⟨co,fv,dq⟩:=h.out.get dk;obtain⟨f0,f3,f4,j6,j7⟩:=co;obtain⟨⟨ad,aj,ae⟩,cn,jc⟩:=q;obtain⟨cs,dt,ct,du,cu,dv,rfl,rfl,rfl⟩:=dq.st.fm;have a5:=zH dk;have c0:=zH fv;have el:=zH dq.st;have bn:=zH (show a3.length=E.length from ax.out.kn k _ am.out);have b6:=zH (show cn.length=E.length from ax.out.kn p _ a5.out);clear dk fv dq;have eu:Hid (SmallS ⟨ab,ar,au⟩):=zH (LimS.small (n:=402) (ax.out.lim _ (.inl (by rw[bd.out];exact am.out))) (by decide));have ew:Hid (SmallS ⟨ad,aj,ae⟩):=zH (LimS.small (n:=402) (ax.out.lim _ (.inr (by rw[cy.out];exact a5.out))) (by decide));obtain⟨⟨N,O,P⟩,dg⟩:∃s2,zb9 ⟨ab,ar,au⟩ ⟨ad,aj,ae⟩=s2:=⟨_,rfl⟩
   have eh:=zH dg;have bb:=yah am.out a5.out;simp only at bb;rw[dg]at bb;rw[bb]at aw;clear dg bb;have c3:=zH (fun(X:Xg) (o:Ext u X)=>(show X.cell? ⟨R,k * 5,none⟩=some (Xa av ab.length a2)/\X.cell? ⟨R,k * 5+1,none⟩=some (Xa bj ar.length b1)/\X.cell? ⟨R,k * 5+2,none⟩=some (Xa bk au.length b2)from⟨o.cell (h.out.cell (j:=0) aa.out rfl),o.cell (h.out.cell (j:=1) aa.out rfl),o.cell (h.out.cell (j:=2) aa.out rfl)⟩));have cz:=zH (fun(X:Xg) (o:Ext u X)=>(show X.cell? ⟨R,p * 5,none⟩=some (Xa cs ad.length dt)/\X.cell? ⟨R,p * 5+1,none⟩=some (Xa ct aj.length du)/\X.cell? ⟨R,p * 5+2,none⟩=some (Xa cu ae.length dv)from⟨o.cell (h.out.cell (j:=0) c0.out rfl),o.cell (h.out.cell (j:=1) c0.out rfl),o.cell (h.out.cell (j:=2) c0.out rfl)⟩));refine wpH ?_;intro jh h9;refine wpH ?_;intro br ej;go_wp;refine ej.out _ _ ?_;clear ej br;refine wp_cond_true (by simp[Act.eval]) ?_;refine wpH ?_;intro K t
   have et:∀ ⦃f1 f2 f5 f6 f7 f8 f9 ga gb gc gd ge gf gg gh gi gj gl gm gn gp gq gr gs gt gu gv gw gx gy gz g0 g1 g2 g3 g4 g5 g6 g7 g8 g9 ha hc hd he hf hg hh hj hl hm hn ho hp:Xh⦄ (cb:Xg) (cp:List RepV),MemX af cb base R cp (aq.set k ⟨⟨N,O,P⟩,a3,Y⟩) (Xa bm E.length b3) E->BelowX af base W cb->K ⟨#[Xa (some ⟨R,0,none⟩) n n,Xa bm E.length b3,zqv d,Qa,Qa,Xb (some ⟨Q,0,none⟩),Xa none 0 0,Xc false,I k,I p,f1,f2,Qa,Xb (some ⟨Q,1,none⟩),Xb (some ⟨Q,2,none⟩),K8 d.n,I d.n,Xa (some ⟨R,0,none⟩) n n,I n,I k,Xb (some ⟨Q,1,none⟩),Xb (some ⟨Q,5,none⟩),K8 d.other,I d.other,Xa (some ⟨R,0,none⟩) n n,I n,I p,Xb (some ⟨Q,6,none⟩),Xc ask,dw,dx,dy,dz,d0,d2,d3,d4,d5,d6,f5,f6,f7,f8,f9,ga,gb,gc,gd,ge,gf,gg,gh,gi,gj,gl,gm,gn,gp,gq,gr,gs,gt,gu,gv,gw,gx,gy,gz,g0,g1,g2,g3,g4,g5,g6,g7,g8,g9,ha,hc,hd,he,hf,hg,hh,hj,hl,hm,hn,ho,hp,Qa,Qa,Qa,Qa,Qa,Qa,Qa,Qa,Qa,Qa,Qa,Qa,Qa,Qa,Qa,Qa,Qa,Qa,Qa,Qa,Qa,Qa,Qa,Qa,Qa,Qa,Qa,Qa,Qa,Qa,Qa,Qa,Qa,Qa,Qa,Qa,Qa,Qa,Qa,Qa,Qa,Qa,Qa,Qa,Qa],[]⟩ cb:=by
    intro f1 f2 f5 f6 f7 f8 f9 ga gb gc gd ge gf gg gh gi gj gl gm gn gp gq gr gs gt gu gv gw gx gy gz g0 g1 g2 g3 g4 g5 g6 g7 g8 g9 ha hc hd he hf hg hh hj hl hm hn ho hp cb cp fk fa;have h:=zH fk;have F:=zH fa;clear fk fa c3 cz h9;refine t.out _ _ ?_;clear t K;obtain⟨M,bw⟩:∃M:Rep,(⟨⟨N,O,P⟩,a3,Y⟩:Rep)=M:=⟨_,rfl⟩
    obtain⟨b4,bx⟩:∃x,aq.set k ⟨⟨N,O,P⟩,a3,Y⟩=x:=⟨_,rfl⟩
    have ak:b4[k]? = some M:=(by rw[<- bx,<- bw];exact Qg (Qb.1 am.out).1);have bp:=zH ak
    obtain⟨ai,fn,dl⟩:∃ai,b4[p]? = some ai/\ai.knew=cn:=by
     by_cases fi:k=p
     ·subst fi;refine⟨M,ak,?_⟩;have cd:=am.out;rw[a5.out]at cd;injection cd with cd
      injection cd with _ h4 _
      rw[<- bw];exact h4.symm
     exact⟨⟨⟨ad,aj,ae⟩,cn,jc⟩,by rw[<- bx,Qu fi];exact a5.out,rfl⟩
    have ih:=zH fn;have dp:M.knew=a3:=(by rw[<- bw]);have bn:=zH (show M.knew.length=E.length by rw[dp];exact bn.out);have b6:=zH (show ai.knew.length=E.length by rw[dl];exact b6.out);have h8:=zH (show b4.set k { M with knew:=orL M.knew ai.knew }=aq.set k ⟨⟨N,O,P⟩,orL a3 cn,Y⟩ by rw[dl,dp,<- bx,<- bw,zhu]);rw[bx]at h
    skip
    clear ak fn dl dp bw bx;go_wp2_with fail
    go_loopw [12] (fun i wr=>∃(j:Nat) (b5:List RepV),i=I j/\j<=E.length/\MemX af wr base R b5 (b4.set k { M with knew:=orP M.knew ai.knew j }) (Xa bm E.length b3) E/\BelowX af base W wr) (fun i _=>E.length-(intOf i).toNat)
    case atStart=>exact⟨0,_,rfl,Nat.zero_le _,by rw[zr1,zrw bp.out];exact h.out,F.out⟩
    obtain⟨j,b5,rfl,jv,ay,hb⟩:=hrel;have jt:=h7.out
    by_cases bu:j<E.length
    ·obtain⟨x,cm⟩:∃x,M.knew[j]? = some x:=⟨_,Qd (by rw[bn.out];exact bu)⟩
     obtain⟨y,b0⟩:∃y,ai.knew[j]? = some y:=⟨_,Qd (by rw[b6.out];exact bu)⟩
     obtain⟨q3,fo,ds⟩:=zp7 bp.out ih.out cm b0;have dm:(b4.set k { M with knew:=orP M.knew ai.knew j })[k]? = some { M with knew:=orP M.knew ai.knew j }:=Qg (Qb.1 bp.out).1;have eo:=zH (zr3 cm b0);have fw:(orP M.knew ai.knew j)[j]? = some x:=(by rw[zr2];exact cm);have de:Ext wr wr.drew:=(Xi wr).drew;have az:=ay.drew;obtain⟨jj,da⟩:∃X,wr.drew=X:=⟨_,rfl⟩
     rw[da]at az de;obtain⟨hs,cl,ck⟩:=az.get dm;obtain⟨j8,fu,fp⟩:=az.get fo;obtain⟨cc,c1,a6,-,-,ez,hu⟩:=ck.bit fw;obtain⟨a7,c2,c9,-,-,e1,-⟩:=fp.bit ds;simp only[zem]at a6;have fy:=az.cell (j:=3) cl rfl;have fz:=az.cell (j:=3) fu rfl;rw[a6]at fy;rw[c9]at fz;have ek:=zH az;have eq:=zH cl;have ef:=zH a6;have em:=zH dm;have ft:=ay.bl;have F:=zH (ygp hb ft de);have bb:j<M.knew.length:=(by rw[bn.out];exact bu);have jw:j<q3.knew.length:=(Qb.1 ds).1;have dj:zad hs.kn cc:=⟨cc,_,c1,a6,by have:=(ck.kn.form);obtain⟨A,c,e,h1,ak⟩:=this;rw[a6]at e;injection e with _ _ e3;subst e3;simp only[zem]at h1;omega,rfl⟩
     have fg:base<=cc/\∀b,af b->b≠cc:=⟨(ck.kn.base_le dj).1,fun b hb e=>(az.xA b hb).2.1 hs (Qe cl) (e▸dj)⟩
     clear dj;have er:=zH da;clear ay hb cm b0 fo ds fu ck fp de az cl a6 c9 dm fw da ft;go_wp2_with fail
     cases x
     case true=>
      refine wp_region_still_tail 24 (by kernel_rfl) (by kernel_rfl) ?_;simp only[zD];change wpStill _ _ wr.drew (fun c8=>wpList _ _ _ _ c8 wr.drew) _ _;rw[er.out];generalize a8:Act.mk _ _=A0;repeat (refine wpStill_step (fun br ah=>?_);subst a8;go_simp;generalize a8:Act.mk _ _=A0;refine ah A0 ?_;clear ah br)
      refine wpStill_nil ?_;subst a8;go_wp2_with fail;go_roundw
      case rel=>exact⟨j+1,b5,by simp,bu,by have l:=ek.out.setKnew eq.out em.out (by simp only[zem];exact bb) (by simp only[zem];exact ef.out) true;have ak:=eo.out;simp only[Bool.true_or,Bool.false_or]at ak;simp only[ak,zhu]at l;exact l,F.out.setCell fg _⟩
      case measure=>simp[intOf];omega
     refine wp_region_still_tail 24 (by kernel_rfl) (by kernel_rfl) ?_;simp only[zD];change wpStill _ _ wr.drew (fun c8=>wpList _ _ _ _ c8 wr.drew) _ _;rw[er.out];generalize a8:Act.mk _ _=A0;repeat (refine wpStill_step (fun br ah=>?_);subst a8;go_simp;generalize a8:Act.mk _ _=A0;refine ah A0 ?_;clear ah br)
     refine wpStill_nil ?_;subst a8;go_wp2_with fail;go_roundw
     case rel=>exact⟨j+1,b5,by simp,bu,by have l:=ek.out.setKnew eq.out em.out (by simp only[zem];exact bb) (by simp only[zem];exact ef.out) y;have ak:=eo.out;simp only[Bool.true_or,Bool.false_or]at ak;simp only[ak,zhu]at l;exact l,F.out.setCell fg _⟩
     case measure=>simp[intOf];omega
    obtain rfl:j=E.length:=by omega
    have ie:=zH ay;have h2:=zH hb;clear ay hb;go_wp2_with fail
    go_ret2
    rw[aw.out];have l:=ie.out;rw[zt0 bn.out b6.out,h8.out]at l;exact⟨_,b5,rfl,l,h2.out⟩
   clear t
   by_cases ci:Z=3
   ·have i0:((Z:Int)==3)=true:=(by simp[ci]);have i6:(Z==3)=true:=by simp[ci]
    have h3:=zH (fun(X:Xg) (o:Ext u X)=>by have l:=zib (ep.out.ext o) (el.out.ext o) eu.out ew.out;rw[eh.out]at l;exact l)
    go_wp2_with fail;refine zat [fun v _=>v=Xa (some ⟨R,0,none⟩) n n,fun v _=>v=I k,fun v _=>v=Xa (some ⟨R,0,none⟩) n n,fun v _=>v=I k,fun v _=>v=Xb (some ⟨R,k * 5,none⟩),fun v _=>v=Xb (some ⟨R,k * 5,none⟩),fun v _=>v=stV (Xa av ab.length a2) (Xa bj ar.length b1) (Xa bk au.length b2),fun v _=>v=Xa (some ⟨R,0,none⟩) n n,fun v _=>v=I p,fun v _=>v=Xb (some ⟨R,p * 5,none⟩),fun v _=>v=Xb (some ⟨R,p * 5,none⟩),fun v _=>v=stV (Xa cs ad.length dt) (Xa ct aj.length du) (Xa cu ae.length dv),fun v W=>∃z G B H D J,v=stV (Xa z N.length G) (Xa B O.length H) (Xa D P.length J)/\StAt W (fun b=>u.heap.size<=b) ⟨N,O,P⟩ (Xa z N.length G) (Xa B O.length H) (Xa D P.length J),fun v _=>v=Xb (some ⟨R,k * 5,none⟩),fun v _=>v=Xb (some ⟨R,k * 5,none⟩)] rfl (by kernel_rfl) ?hR ?hstep ?hend
    case hR=>simp only[zM];exact⟨kP,kP,kP,kP,kP,kP,kP,kP,kP,kP,kP,kP,fun v _ _ l o=>by obtain⟨z,G,B,H,D,J,e,l⟩:=l;exact⟨z,G,B,H,D,J,e,l.ext o⟩,kP,kP⟩
    case hstep =>
     simp only[zS,zD,Qh,zbj]
     and_intros<;>intro x W o f
     ·have h0:x 0=Xa (some ⟨R,0,none⟩) n n:=f.1;go_wp;exact sQ
     ·have h0:x 8=I k:=f.1;go_wp;exact sQ
     ·have h0:x 0=Xa (some ⟨R,0,none⟩) n n:=f.1;go_wp;exact sQ
     ·have h0:x 8=I k:=f.1;go_wp;exact sQ
     ·have h0:_=_:=f.1;have h1:_=_:=f.2.1;go_wp;exact sQ
     ·have h0:_=_:=f.1;go_wp;exact sQ
     ·have h0:_=_:=f.1;obtain⟨an,c1,c2⟩:=c3.out W o;go_wp;exact sQ
     ·have h0:x 0=Xa (some ⟨R,0,none⟩) n n:=f.1;go_wp;exact sQ
     ·have h0:x 9=I p:=f.1;go_wp;exact sQ
     ·have h0:_=_:=f.1;have h1:_=_:=f.2.1;go_wp;exact sQ
     ·have h0:_=_:=f.1;go_wp;exact sQ
     ·have h0:_=_:=f.1;obtain⟨an,c1,c2⟩:=cz.out W o;go_wp;exact sQ
     ·have h0:_=_:=f.1;have h1:_=_:=f.2.1;have a4:=zH (h3.out W o);go_wp;refine a4.out.mono ?_;rintro e X⟨cq,cr,d9,rfl,L,a1⟩;obtain⟨z,G,B,H,D,J,rfl,rfl,rfl⟩:=L.fm;have cw:=zH L.at;clear L;dsimp only;go_wp;exact zaa ⟨z,G,B,H,D,J,rfl,cw.out.mono fun b _ l=>Ql o.size l⟩ a1
     ·have h0:_=_:=f.1;have h1:_=_:=f.2.1;go_wp;exact sQ
     have h0:_=_:=f.1;go_wp;exact sQ
    case hend=>intro x iq U f;obtain⟨z,G,B,H,D,J,it,bz⟩:∃z G B H D J,x 61=stV (Xa z N.length G) (Xa B O.length H) (Xa D P.length J)/\StAt iq (fun b=>u.heap.size<=b) ⟨N,O,P⟩ (Xa z N.length G) (Xa B O.length H) (Xa D P.length J):=f.2.2.2.2.2.2.2.2.2.2.2.2.1;have iu:x 63=Xb (some ⟨R,k * 5,none⟩):=f.2.2.2.2.2.2.2.2.2.2.2.2.2.2.1;clear f;have bo:=zH (fun(b:Nat) (hb:u.heap.size<=b)=>h.out.free_new hb);have cx:=zH (bz.mono fun b _ hb=>bo.out b hb);have F:=zH (ygp F.out h.out.bl U);have h:=zH (h.out.ext U);have an:=h.out.cell (j:=0) aa.out rfl;have c1:=h.out.cell (j:=1) aa.out rfl;have c2:=h.out.cell (j:=2) aa.out rfl;have ea:=h.out.row.frozen (k * 5+0);have hu:=h.out.row.frozen (k * 5+1);have jf:=h.out.row.frozen (k * 5+2);simp only[Qs]at an ea;clear bz U bo;simp only[zS,zD,zU,Qh,Qk,zav,Act.put,it,iu];go_wp;have bc:=h.out.loX;exact et _ _ (h.out.putS (s:=⟨N,O,P⟩) aa.out am.out cx.out) (((F.out.setCell bc _).setCell bc _).setCell bc _)
   have i0:((Z:Int)==3)=false:=(by rw[beq_eq_false_iff_ne];omega);have i6:(Z==3)=false:=(by simp[ci]);have dr:zic ⟨ad,aj,ae⟩ Y=⟨ad,aj.filter (zde Y),ae⟩:=rfl;have db:=ax.out.app (by rw[<- eg.out];exact ch) _ _ (by rw[bd.out];exact am.out) (by rw[cy.out];exact a5.out);have cf:=db.2;simp only at cf;rw[eh.out,dr]at cf;have cv:=zH cf;have i7:=zcp Y [];have fj:Y.length<=549755813888:=Ql db.1 (by decide)
   have dh:(za0 Y []).length<=549755813888:=by have l:=zeo Y;rw[<- zka]at l;omega
   have b7:=zH (ax.out.lim _ (.inr (by rw[cy.out];exact a5.out)));have ex:Hid (SmallS ⟨ad,aj.filter (zde Y),ae⟩):=zH (LimS.small (n:=402) ⟨b7.out.all,Ql (List.length_filter_le _ _) b7.out.entries,b7.out.pruned,fun e o=>b7.out.each e (List.mem_filter.1 o).1⟩ (by decide));have hy:=zH (h.out.rep k _ _ aa.out am.out).ask;have b9:=zH (fun(X:Xg) (o:Ext u X)=>zod (el.out.ext o) (hy.out.ext (by decide) o) ew.out fj);obtain⟨es,fh⟩:∃x,za0 Y []=x:=⟨_,rfl⟩
   rw[fh]at b9 cv dh;rw[dr]at b9;obtain⟨e2,fb⟩:∃x,aj.filter (zde Y)=x:=⟨_,rfl⟩
   rw[fb]at b9 cv ex
   have hw:=zH (fun(X:Xg) (o:Ext u X) (Q ez e1 ir:Xh) (h0:Sl markT X (fun b=>u.heap.size<=b) Q es) (h1:StAt X (fun b=>u.heap.size<=b) ⟨ad,e2,ae⟩ ez e1 ir)=>by have l:=zu7 (ep.out.ext o) h1 h0 eu.out ex.out dh;rw[cv.out]at l;exact l)
   have ia:=zH (fun(X:Xg) (o:Ext u X)=>o.cell (h.out.cell (j:=4) aa.out rfl));clear cf db i7 fj dh fh fb dr;go_wp2_with fail;rename_i io hK;have ei:=zH hK;clear hK;refine zc7 [some fun v=>v=Xa (some ⟨R,0,none⟩) n n,some fun v=>v=I k,some fun v=>v=Xb (some ⟨R,k * 5,none⟩),some fun v=>v=Xb (some ⟨R,k * 5,none⟩),some fun v=>v=stV (Xa av ab.length a2) (Xa bj ar.length b1) (Xa bk au.length b2),some fun v=>v=Xa (some ⟨R,0,none⟩) n n,some fun v=>v=I p,some fun v=>v=Xb (some ⟨R,p * 5,none⟩),some fun v=>v=Xb (some ⟨R,p * 5,none⟩),some fun v=>v=stV (Xa cs ad.length dt) (Xa ct aj.length du) (Xa cu ae.length dv),some fun v=>v=Xa (some ⟨R,0,none⟩) n n,some fun v=>v=I k,some fun v=>v=Xb (some ⟨R,k * 5,none⟩),some fun v=>v=Xb (some ⟨R,k * 5+4,none⟩),some fun v=>v=Xa hv Y.length jb,none,none,none,none,some fun v=>v=I 0,none,none] (fun st w=>BoxK u.heap.size 26 zol (CSt u.heap.size ⟨N,O,P⟩) (tupS 0) agS 16 17 18 20 21 st w/\(st 21=none->DltK u.heap.size 15 ⟨ad,aj,ae⟩ ⟨ad,e2,ae⟩ es st w)) rfl (by kernel_rfl) ?hK ?h0 ?hstep ?hend
   case hK=>exact fun st w w' l o=>⟨l.1.ext CSt.keep o,fun h0=>(l.2 h0).ext o⟩
   case h0=>exact⟨BoxK.start _,fun _ v al=>by cases al⟩
   case hstep =>
    simp only[zS,zD,Qh,zew,zf6]
    and_intros<;>intro x W st o hK
    ·intro f;have h0:x 0=Xa (some ⟨R,0,none⟩) n n:=f.1;clear hK;go_wp;exact sQ
    ·intro f;have h0:x 8=I k:=f.1;clear hK;go_wp;exact sQ
    ·intro f;have h0:_=_:=f.1;have h1:_=_:=f.2.1;clear hK;go_wp;exact sQ
    ·intro f;have h0:_=_:=f.1;clear hK;go_wp;exact sQ
    ·intro f;have h0:_=_:=f.1;clear hK;obtain⟨an,c1,c2⟩:=c3.out W o;go_wp;exact sQ
    ·intro f;have h0:x 0=Xa (some ⟨R,0,none⟩) n n:=f.1;clear hK;go_wp;exact sQ
    ·intro f;have h0:x 9=I p:=f.1;clear hK;go_wp;exact sQ
    ·intro f;have h0:_=_:=f.1;have h1:_=_:=f.2.1;clear hK;go_wp;exact sQ
    ·intro f;have h0:_=_:=f.1;clear hK;go_wp;exact sQ
    ·intro f;have h0:_=_:=f.1;clear hK;obtain⟨an,c1,c2⟩:=cz.out W o;go_wp;exact sQ
    ·intro f;have h0:x 0=Xa (some ⟨R,0,none⟩) n n:=f.1;clear hK;go_wp;exact sQ
    ·intro f;have h0:x 8=I k:=f.1;clear hK;go_wp;exact sQ
    ·intro f;have h0:_=_:=f.1;have h1:_=_:=f.2.1;clear hK;go_wp;exact sQ
    ·intro f;have h0:_=_:=f.1;clear hK;go_wp;exact sQ
    ·intro f;have h0:_=_:=f.1;clear hK;have c4:=ia.out W o;go_wp;exact sQ
    ·intro L f;have h0:_=_:=f.1;have h1:_=_:=f.2.1;have a4:=zH (b9.out W o);have t:=zH hK;clear hK;go_wp;refine a4.out.mono ?_;rintro r ip⟨j5,f0,f3,f4,rfl,a9,e7,a1⟩;have ao:=(zbb a9).mono (S':=fun b=>u.heap.size<=b) (by decide) (fun b _ l=>Ql o.size l);have bf:=e7.at.mono (S':=fun b=>u.heap.size<=b) (fun b _ l=>Ql o.size l);obtain⟨eb,d8,rfl,-,-⟩:=ao.form;obtain⟨ec,cq,ed,cr,ee,d9,rfl,rfl,rfl⟩:=bf.fm;have ig:=zH ao;have ij:=zH bf;clear a9 e7 ao bf;dsimp only;go_wp;exact za2 ⟨⟨(t.out.1.ext CSt.keep a1).other (by decide),fun _ v al=>by rw[zb2]at al;cases al;exact⟨eb,d8,ec,cq,ed,cr,ee,d9,rfl,ig.out,ij.out⟩⟩,o.trans a1⟩
    ·intro L f;have h0:_=_:=f.1;have iw:st 15=some (x 80):=f.2.1
     have iv:st 21=none:=Classical.byContradiction fun i8=>by obtain⟨xs,lo,hi,g,fy,fz,j2,j3,ja⟩:=hK.1;exact(ja i8).1 L
     obtain⟨eb,d8,ec,cq,ed,cr,ee,d9,jr,ao,bf⟩:=hK.2 iv (x 80) iw;have a4:=zH (hw.out W o _ _ _ _ ao bf);have t:=zH hK;clear hK ao bf f;go_wp;refine a4.out.mono ?_;rintro r ip⟨f0,f3,f4,rfl,di,a1⟩;obtain⟨z,G,B,H,D,J,rfl,rfl,rfl⟩:=di.fm;have cw:=zH di;clear di;dsimp only;go_wp;exact za2 ⟨⟨t.out.1.call (xs:=[Xa z N.length G,Xa B O.length H,Xa D P.length J]) (by decide) L a1 o.size ⟨z,G,B,H,D,J,rfl,cw.out.mono fun b hb l=>⟨⟨l,hb⟩,Ql o.size l⟩⟩,fun l=>((t.out.2 (by rwa[zah st _ (by decide)]at l)).ext a1).other (by decide)⟩,o.trans a1⟩
    ·intro L f;have h0:st 16=some (x 81):=f.1;have t:=zH hK;clear hK;go_wp;exact za2 ⟨⟨t.out.1.move (by decide) h0,fun l=>(t.out.2 (by rwa[zah st _ (by decide)]at l)).other (by decide)⟩,o⟩
    ·intro L f;have h0:st 17=some (x 64):=f.1;obtain⟨xs,S,al,⟨z,G,B,H,D,J,rfl,-⟩,ah⟩:=hK.1.part (by decide) h0;have t:=zH ah;have bd:=zH hK.2;clear hK ah;go_wp;exact za2 ⟨⟨t.out,fun l=>(bd.out (by rwa[zah st _ (by decide)]at l)).other (by decide)⟩,o⟩
    ·intro f;have h0:st 17=some (x 64):=f.1;obtain⟨xs,S,al,⟨z,G,B,H,D,J,rfl,-⟩,ah⟩:=hK.1.part (by decide) h0;have t:=zH ah;have bd:=zH hK.2;clear hK ah;go_wp;exact sQ
    ·intro L f;have t:=zH hK;clear hK;go_wp;exact za2 ⟨⟨t.out.1.alloc CSt.keep (by decide) L o.size,fun l=>((t.out.2 (by rwa[zah st _ (by decide)]at l)).ext ((Xi _).alloc _)).other (by decide)⟩,o.alloc _⟩
    intro L f;have h0:st 20=some (x 10):=f.1;have h1:st 18=some (x 82):=f.2.1;obtain⟨xs,S,a7,al,fl,ff,a0,⟨z,G,B,H,D,J,rfl,-⟩,fe⟩:=hK.1.store CSt.keep (by decide) h1 h0 L;obtain⟨r0,r1,M⟩:=a0.p3;obtain⟨d8,cq,cr⟩:=a0.q3;have fd:=fe (((W.setCell ⟨a7,0,none⟩ (Xa z N.length G)).setCell ⟨a7,1,none⟩ (Xa B O.length H)).setCell ⟨a7,2,none⟩ (Xa D P.length J)) (Xc true) (zi0 a0) (Nat.le_of_eq (zjl W a7 (Xa z N.length G) (Xa B O.length H) (Xa D P.length J)).symm) (fun y b0=>zht W a7 (Xa z N.length G) (Xa B O.length H) (Xa D P.length J) y b0);have fx:=zi1 o ff (Xa z N.length G) (Xa B O.length H) (Xa D P.length J);have t:=zH fd;have im:=zH fx;clear hK fe fd fx a0 h0 h1;go_wp;exact za2 (v:=Xc true) ⟨⟨t.out,fun l=>by rw[zb2]at l;cases l⟩,im.out⟩
   case hend=>intro x ji st U hK L f;have e4:st 20=some (x 10):=f.2.2.2.2.2.2.2.2.2.2.2.2.2.2.2.2.2.2.2.2.1;have ix:x 83=I 0:=f.2.2.2.2.2.2.2.2.2.2.2.2.2.2.2.2.2.2.2.1;obtain⟨xs,S,a7,fl,ff,fr,⟨z,G,B,H,D,J,rfl,bz⟩,iy⟩:=hK.1.done e4 (L 21 (show 21<22 by decide) rfl);have ii:=zH fr;have bo:=zH (fun(b:Nat) (hb:u.heap.size<=b)=>h.out.free_new hb);have cx:=zH (bz.mono fun b _ hb=>bo.out b hb.2);have F:=zH (ygp F.out h.out.bl U);have h:=zH (h.out.ext U);obtain⟨r0,r1,M⟩:=ii.out.p3;have an:=h.out.cell (j:=0) aa.out rfl;have c1:=h.out.cell (j:=1) aa.out rfl;have c2:=h.out.cell (j:=2) aa.out rfl;have ea:=h.out.row.frozen (k * 5+0);have hu:=h.out.row.frozen (k * 5+1);have jf:=h.out.row.frozen (k * 5+2);simp only[Qs]at an ea;clear hK L f fr bz U bo iy e4;simp only[zS,zD,zU,Qh,Qk,zav,Act.put,ix,fl];go_wp;refine ei.out _ _ ?_;clear ei io;go_wp2_with fail;have bc:=h.out.loX;exact et _ _ (h.out.putS (s:=⟨N,O,P⟩) aa.out am.out cx.out) (((F.out.setCell bc _).setCell bc _).setCell bc _)
  have fc:¬(3:Int)<=(Z:Int):=(by omega);have iz:¬(Z:Int)≥3:=(by omega);have ci:decide ((3:Int)<=(Z:Int))=false:=decide_eq_false fc;rw[zN ch]at aw;obtain⟨m,ay⟩:∃m,m=49+k:=⟨_,rfl⟩
  have j0:(49:Int)+(k:Int)=(m:Int):=(by omega);have j1:(m:Int)<256:=(by omega);have js:(convert 90 9 (Xa (some ⟨u.heap.size,0,none⟩) 1 1)).run Tryz.prog (u.alloc (Xf #[.int .u8 (m:Int)] 5))=.ok (St [UInt8.ofNat m]) (u.alloc (Xf #[.int .u8 (m:Int)] 5)):=zvi ((zaf u 5 [.int .u8 (m:Int)]).cell (j:=0) rfl);have jz:=zp8 ay;have U:Ext u (u.alloc (Xf #[.int .u8 (m:Int)] 5)):=(Xi u).alloc _;have e5:=ac.out.ext U;obtain⟨e0,a6,c9,e3,jo,jp,jq⟩:=e5.p7;have dc:=yjm h6.out (h.out.ext U) ax.out bd.out hk (by rw[<- eg.out];exact ch);simp only[zqv,hx.out]at dc;have a4:=zH dc;clear dc;have F:=zH (ygp F.out h.out.bl U);clear ay U e5;go_wp2_with fail;refine a4.out.mono ?_;rintro r X⟨jd,cp,rfl,ap,ba⟩;go_wp2_with fail
  go_ret2
  rw[aw.out];exact⟨jd,cp,rfl,ap,BelowX.trans F.out ba⟩
 cases ask with
 | true =>
  have an:=h.out.cell (j:=0) bq.out rfl;have c4:=h.out.cell (j:=4) bq.out rfl;have ka:=h.out.row.frozen (k * 5+4);simp only[Qs]at an;have ap:=h.out.putAsked bq.out b8.out ik.out.all;have ce:=ybb b8.out;simp only at ce;have bt:RowIs (ey.setCell ⟨R,k * 5+4,none⟩ (Xa av ab.length a2)) Q 70 [K8 d.key,K8 d.do_,K8 d.n,.int .i16 d.by_,K8 d.text,K8 d.other,Xc true] []:=ac.out.other en.out _;have ba:BelowX af base W (ey.setCell ⟨R,k * 5+4,none⟩ (Xa av ab.length a2)):=F.out.setCell h.out.loX _;have bh:(askR rs k)[k]? = some ⟨⟨ab,ar,au⟩,a3,ab⟩:=by rw[ce];exact Qg (Qb.1 b8.out).1
  rw[<- ce]at ap;have bi:=Qg (a:=(⟨Xa av ab.length a2,Xa bj ar.length b1,Xa bk au.length b2,ht,Xa av ab.length a2⟩:RepV)) (Qb.1 bq.out).1;have c6:=zH ca;have ic:=zH ap;have h5:=zH bt;have hz:=zH ba;have bp:=zH bh;have il:=zH bi;clear ca ap bt ba bh bi ce;go_wp2_with fail;exact c6.out _ _ _ _ _ _ _ _ _ _ _ _ _ _ _ ic.out h5.out hz.out bp.out il.out (by simpa using c5.out) rfl
 | false=>have c6:=zH ca;clear ca;go_wp2_with fail;exact c6.out _ _ _ _ _ _ _ _ _ _ _ _ _ _ _ h.out ac.out F.out b8.out bq.out (by simpa using c5.out) rfl
theorem yai {E:List Ev}{rs:List Rep}{vs:List RepV}{h:Xh}{base R n:Nat}{d:Deed}{W:Xg}(g:DeedOk d)(l:Mem W base R vs rs h E)(hR:RepsOk E n rs)(c:0<n)(k:E.length<200) :
  Calls Tryz.prog 21 #[Xa (some ⟨R,0,none⟩) n n,h,zqv d] W fun r W'=>∃a f,r=.returned (Xd #[a,Xc true])/\Mem W' base R f (zit E rs d).2 a (zit E rs d).1/\Below base W W':=by
 obtain⟨m,hk⟩:∃r,rs[d.n % n]? = some r:=⟨_,Qd (by rw[hR.len];exact Qy _ c)⟩
 obtain⟨h1,b⟩:=hR.doesOk c k g hk;rw[b];refine(yia g l hR.len c h1).mono fun r W' i=>?_
 obtain⟨a,f,e,b,j⟩:=i;exact⟨a,f,e,b,j.below⟩
abbrev zom:Shape Deed:=flat 7 yb8 (fun _=>rfl) (fun _ u hu=>by simp at hu;rcases hu with rfl|rfl|rfl|rfl|rfl|rfl|rfl<;>rfl)
theorem ybc {w wr:Xg}{S:Nat->Prop}{A:Option Addr}{n c:Nat}{l pre post:List Deed}{m:Deed}(d:Sl zom w S (Xa A n c) l)(hb:Ext w wr)(e:l=pre++m::post) :
  ∃b o,A=some ⟨b,o,none⟩/\wr.cell? ⟨b,o+pre.length * 7,none⟩=some (K8 m.key)/\wr.cell? ⟨b,o+pre.length * 7+1,none⟩=some (K8 m.do_)/\wr.cell? ⟨b,o+pre.length * 7+2,none⟩=some (K8 m.n) /\
   wr.cell? ⟨b,o+pre.length * 7+3,none⟩=some (.int .i16 m.by_)/\wr.cell? ⟨b,o+pre.length * 7+4,none⟩=some (K8 m.text)/\wr.cell? ⟨b,o+pre.length * 7+5,none⟩=some (K8 m.other)/\wr.cell? ⟨b,o+pre.length * 7+6,none⟩=some (Xc m.asks):=by
 obtain⟨b,o,vs,g,f,h,rfl,a⟩:=d.at_ e;injection f with e1 e2 e3
 subst e1;exact⟨b,o,rfl,hb.cell (a 0 _ rfl),hb.cell (a 1 _ rfl),hb.cell (a 2 _ rfl),hb.cell (a 3 _ rfl),hb.cell (a 4 _ rfl),hb.cell (a 5 _ rfl),hb.cell (a 6 _ rfl)⟩
def zvm:RepV:=⟨Xa none 0 0,Xa none 0 0,Xa none 0 0,Xa none 0 0,Xa none 0 0⟩
theorem Mem.zero {W:Xg}{base R n:Nat}(d:RowIs W R 75 ((Qt n zvm).flatMap RepV.cells) [])(hb:base<=R):Mem W base R (Qt n zvm) (Qt n rep0) (Xa none 0 0) [] where
 row:=d
 len:=by simp
 lo:=hb
 rep k v r hv hr:=by have h1:=Qi (Qe hv);have f:=Qi (Qe hr);subst h1 f;exact⟨StAt.none _ _ none none none,Own.nil _ _ _ _ none,Sl.nil none 0 (by decide)⟩
 noR v hv ho:=by
  have h1:=Qi hv;subst h1;obtain⟨g,m,c,e,a,-⟩:=ho;injection e with _ _ e3
  omega
 apart i j v u b _ hv _ ho:=by
  have h1:=Qi (Qe hv);subst h1;obtain⟨g,m,c,e,a,-⟩:=ho;injection e with _ _ e3
  omega
 noEv v hv b ho:=by
  have h1:=Qi hv;subst h1;obtain⟨g,m,c,e,a,-⟩:=ho;injection e with _ _ e3
  omega
 evR ho:=by
  obtain⟨g,m,c,e,a,-⟩:=ho;injection e with _ _ e3
  omega
 ev:=OwnL.nil _ _
 ltX b hb:=hb.elim
 xA b hb:=hb.elim
structure Deed17 where
 d:Deed
 prunes:Bool
abbrev ykm (x:Deed17):List Xh:=[K8 x.d.key,K8 x.d.do_,K8 x.d.n,.int .i16 x.d.by_,K8 x.d.text,K8 x.d.other,Xc x.d.asks,Xc x.prunes]
abbrev yhf:Shape Deed17:=flat 8 ykm (fun _=>rfl) (fun _ u hu=>by simp at hu;rcases hu with rfl|rfl|rfl|rfl|rfl|rfl|rfl|rfl<;>rfl)
theorem yjn {w wr:Xg}{S:Nat->Prop}{A:Option Addr}{n c:Nat}{l pre post:List Deed17}{m:Deed17}(e:Sl yhf w S (Xa A n c) l)(hb:Ext w wr)(f:l=pre++m::post) :
  ∃b o,A=some ⟨b,o,none⟩/\wr.cell? ⟨b,o+pre.length * 8,none⟩=some (K8 m.d.key)/\wr.cell? ⟨b,o+pre.length * 8+1,none⟩=some (K8 m.d.do_)/\wr.cell? ⟨b,o+pre.length * 8+2,none⟩=some (K8 m.d.n) /\
   wr.cell? ⟨b,o+pre.length * 8+3,none⟩=some (.int .i16 m.d.by_)/\wr.cell? ⟨b,o+pre.length * 8+4,none⟩=some (K8 m.d.text)/\wr.cell? ⟨b,o+pre.length * 8+5,none⟩=some (K8 m.d.other)/\wr.cell? ⟨b,o+pre.length * 8+6,none⟩=some (Xc m.d.asks)/\wr.cell? ⟨b,o+pre.length * 8+7,none⟩=some (Xc m.prunes):=by
 obtain⟨b,o,vs,h,g,i,rfl,a⟩:=e.at_ f;injection g with e1 e2 e3
 subst e1;exact⟨b,o,rfl,hb.cell (a 0 _ rfl),hb.cell (a 1 _ rfl),hb.cell (a 2 _ rfl),hb.cell (a 3 _ rfl),hb.cell (a 4 _ rfl),hb.cell (a 5 _ rfl),hb.cell (a 6 _ rfl),hb.cell (a 7 _ rfl)⟩
theorem zqe {w:Xg}{g base:Nat}{m:Mark}(h:RowIs w g 97 [St m.1,U m.2] [])(hb:base<=g):Own w base 97 2 (Xa (some ⟨g,0,none⟩) 1 1) 1 ([m].flatMap zaj) :=
 RowIs.own h hb (by omega) (by omega) rfl rfl rfl
end
end Go.Proofs.YtaabaflgeljbjaaGreat
