/- Laws. -/
import Derived.Test.YtaabaflgeljbjaaGreatPr03
import Derived.Test.YtaabaflgeljbjaaGreatPr04
import Derived.Test.YtaabaflgeljbjaaGreatPr05
import Derived.StillTailTactics
set_option linter.unusedVariables false
set_option linter.unusedSimpArgs false
set_option maxRecDepth 100000
set_option maxHeartbeats 40000000
namespace Go.Proofs.YtaabaflgeljbjaaGreat
open Go renaming World→Xa
open Nat renaming lt_of_lt_of_le→Qb
open Go.RowKit.Below renaming heap_setCell→Qa
section
open Go.RowKit
theorem zd8:KeyOk Tryz.prog 9 St:=zv6 Tryz.underlying9
theorem yb4 (w:Xa):(zeroValue 27).run Tryz.prog w=.ok (U 0) w:=Tryz.zeroValue27 w
structure HowOk (P:Program) (g:Nat) (f:Nat->Nat->Nat):Prop where
 enters:∀args w,(callFunc g args).run P w=.ok (.enter g args) w
 does:∀a b W,Calls P g #[U a,U b] W fun e w'=>e=.returned (U (f a b))/\W=w'
structure Kept2 (w w':Xa) (p m:Nat):Prop where
 os:w'.os=w.os
 tape:w'.tape=w.tape
 output:w'.output=w.output
 size:w.heap.size<=w'.heap.size
 other:∀j,j<w.heap.size->j≠p->j≠m->w'.heap[j]? = w.heap[j]?
theorem ze5 {w:Xa}{b:Nat}{L:List (Str×Nat)}(h:MapIs St U w b L)(k:Str) :
  (Instr.lookup 208 (.map (some b)) (St k) false).run Tryz.prog w=.ok (U (getL 0 L k)) w:=(zbi (z:=0) Tryz.underlying208 zd8 yb4 h k).1
theorem zor {g:Nat}{f:Nat->Nat->Nat}(v:HowOk Tryz.prog g f){p m:Nat}{Lp Lm:List (Str×Nat)}(c:zag){w:Xa}(A:MapIs St U w p Lp)(x:MapIs St U w m Lm)(G:p≠m) :
  Calls Tryz.prog 141 #[.agg #[.map (some p),.map (some m)],.agg #[St c.1,U c.2.1,U c.2.2],.func (.func g) #[] #[]] w fun e w'=>e=.returned (.tuple #[])/\MapIs St U w' p (putL Lp c.1 (f (getL 0 Lp c.1) c.2.1))/\MapIs St U w' m (putL Lm c.1 (f (getL 0 Lm c.1) c.2.2))/\Kept2 w w' p m:=by
 have av:=v.enters;have B:=zH v.does;obtain⟨b,q⟩:∃b,(w.alloc (.cells #[.map (some p),.map (some m)] 210)).alloc (.cells #[St c.1,U c.2.1,U c.2.2] 54)=b:=⟨_,rfl⟩
 have k:Ext w b:=by rw[<- q];exact((Ext.refl w).alloc _).alloc _
 have Q:b.cell? ⟨w.heap.size,0,none⟩=some (.map (some p)):=by rw[<- q];simp[go_sem]
 have c1:b.cell? ⟨w.heap.size,1,none⟩=some (.map (some m)):=by rw[<- q];simp[go_sem]
 have d0:b.cell? ⟨w.heap.size+1,0,none⟩=some (St c.1):=by rw[<- q];simp[go_sem]
 have d1:b.cell? ⟨w.heap.size+1,1,none⟩=some (U c.2.1):=by rw[<- q];simp[go_sem]
 have ab:b.cell? ⟨w.heap.size+1,2,none⟩=some (U c.2.2):=by rw[<- q];simp[go_sem]
 have t:=A.ext k;have F:=x.ext k;obtain⟨H,y⟩:=zhj (P:=Tryz.prog) Tryz.underlying208 zd8 t c.1 (f (getL 0 Lp c.1) c.2.1);have M:=zH (fun W i=>(y W i));obtain⟨l,C⟩:∃l,b.drew=l:=⟨_,rfl⟩
 have a:Ext b l:=by rw[<- C];exact(Ext.refl b).drew
 have aw:=ze5 (t.ext a) c.1;have az:=(y l (a.block p t.lt)).1;have O:=zH A;have J:=zH x;have am:=zH t;have K:=zH F;have R:=a.cell Q;have T:=a.cell c1;have X:=a.cell d0;have Z:=a.cell d1;have ac:=a.cell ab;clear v y A x t F;go_enter Tryz.func141,Tryz.ntmps141;go_wp2_with fail;refine wp_region_still_tail 13 (by kernel_rfl) (by kernel_rfl) ?_;simp only[zD];change wpStill _ _ b.drew (fun u=>wpList _ _ _ _ u b.drew) _ _;rw[C]
 repeat still_step
 still_call ((B.out _ _ _).mono fun e w' i=>⟨i.1,i.2.symm⟩)
 refine wpStill_nil ?_;go_wp2_with fail;have al:p<w.heap.size:=O.out.lt;have ay:m<w.heap.size:=J.out.lt;have ak:l.heap[p]? = b.heap[p]?:=a.block p (Qb al k.size);have af:=zH ((M.out l ak).2);have h:=Turned.put l p H;generalize l.putObj p H=o at *;have S:=h.cell R (by omega);have V:=h.cell T (by omega);have Y:=h.cell X (by omega);have aa:=h.cell Z (by omega);have ad:=h.cell ac (by omega);have s:MapIs St U o m Lm:=(K.out.ext a).turned h (fun e=>G e.symm);obtain⟨I,z⟩:=zhj (P:=Tryz.prog) Tryz.underlying208 zd8 s c.1 (f (getL 0 Lm c.1) c.2.2);have N:=zH (fun W i=>(z W i));obtain⟨n,D⟩:∃n,o.drew=n:=⟨_,rfl⟩
 have d:Ext o n:=by rw[<- D];exact(Ext.refl o).drew
 have ax:=ze5 (s.ext d) c.1;have a0:=(z n (d.block m s.lt)).1;have ao:=d.cell S;have ap:=d.cell V;have aq:=d.cell Y;have ar:=d.cell aa;have au:=d.cell ad;have L:=zH s;clear z s;refine wp_region_still_tail 13 (by kernel_rfl) (by kernel_rfl) ?_;simp only[zD];change wpStill _ _ o.drew (fun u=>wpList _ _ _ _ u o.drew) _ _;rw[D]
 repeat still_step
 still_call ((B.out _ _ _).mono fun e w' i=>⟨i.1,i.2.symm⟩)
 refine wpStill_nil ?_;go_wp2_with fail;have aj:n.heap[m]? = o.heap[m]?:=d.block m L.out.lt;have ae:=(N.out n aj).2;have r:=Turned.put n m I;generalize n.putObj m I=an at *
 go_end0
 have ag:=((af.out).ext d).turned r G;refine⟨rfl,ag,ae,?_⟩
 exact⟨r.os.trans (d.os.trans (h.os.trans (a.os.trans k.os))),r.tape.trans (d.tape.trans (h.tape.trans (a.tape.trans k.tape))),r.output.trans (d.output.trans (h.output.trans (a.output.trans k.output))),
  by rw[r.size];exact Nat.le_trans (k.trans a).size (by rw[<- h.size];exact d.size),
  fun j E ai ah=>(r.other j ah).trans ((d.block j (by rw[h.size];exact Qb E (k.trans a).size)).trans ((h.other j ai).trans ((k.trans a).block j E)))⟩
theorem ya0:HowOk Tryz.prog 188 max where
 enters:=enters_of Tryz.func188 (by kernel_rfl) rfl
 does a b W:=by go_enter Tryz.func188,Tryz.ntmps188;go_wp2;go_ret;exact⟨by simp[U];omega,rfl⟩
def addU (a b:Nat):Nat:=(a+b) % 18446744073709551616
theorem ztt:HowOk Tryz.prog 189 addU where
 enters:=enters_of Tryz.func189 (by kernel_rfl) rfl
 does a b W:=by go_enter Tryz.func189,Tryz.ntmps189;go_wp2;go_ret;exact⟨by simp[U,addU,IntKind.wrap,IntKind.signed,IntKind.bits],rfl⟩
theorem zli (W:Xa):Calls Tryz.prog 142 #[] W fun e w'=>e=.returned (.func (.func 189) #[] #[])/\W=w':=by
 go_enter Tryz.func142,Tryz.ntmps142;go_wp2;go_ret;exact⟨rfl,rfl⟩
def putP (f:Nat->Nat->Nat)(L:List (Str×Nat))(c:zag):List (Str×Nat):=putL L c.1 (f (getL 0 L c.1) c.2.1)
def putM (f:Nat->Nat->Nat)(L:List (Str×Nat))(c:zag):List (Str×Nat):=putL L c.1 (f (getL 0 L c.1) c.2.2)
def zax (cs:List zag):List (Str×Nat):=cs.foldl (putP max) []
def zaz (cs:List zag):List (Str×Nat):=cs.foldl (putM max) []
theorem zgg {w wr:Xa}{S:Nat->Prop}{A:Option Addr}{n c:Nat}{l pre post:List zag}{m:zag}(d:Sl zcl w S (.slice A n c) l)(hb:Ext w wr)(e:l=pre++m::post) :
  ∃b o,A=some ⟨b,o,none⟩/\wr.cell? ⟨b,o+pre.length * 3,none⟩=some (St m.1)/\wr.cell? ⟨b,o+pre.length * 3+1,none⟩=some (U m.2.1)/\wr.cell? ⟨b,o+pre.length * 3+2,none⟩=some (U m.2.2):=by
 obtain⟨b,o,vs,g,f,h,rfl,a⟩:=d.at_ e;injection f with e1 e2 e3
 subst e1;exact⟨b,o,rfl,hb.cell (a 0 _ rfl),hb.cell (a 1 _ rfl),hb.cell (a 2 _ rfl)⟩
theorem yaw {α:Type}{T:Shape α}{hk:0<T.k}{w wr:Xa}{S:Nat->Prop}{A:Option Addr}{n c:Nat}{a pre post:List (List α)}{l:List α}(d:Sl (slT T hk) w S (.slice A n c) a)(hb:Ext w wr)(f:a=pre++l::post) :
  ∃b o v,A=some ⟨b,o,none⟩/\wr.cell? ⟨b,o+pre.length,none⟩=some v/\Sl T w S v l:=by
 obtain⟨b,o,vs,i,g,j,⟨v,rfl,h⟩,e⟩:=d.at_ f;injection g with e1 e2 e3
 subst e1;have h0:=e 0 _ rfl;simp only[slT,Nat.mul_one,Nat.add_zero]at h0;exact⟨b,o,v,rfl,hb.cell h0,h⟩
theorem Ext.kept2 {w c d:Xa}{p m:Nat}(a:Ext w c)(k:Kept2 c d p m)(f:w.heap.size<=p)(e:w.heap.size<=m):Ext w d :=
 ⟨k.os.trans a.os,k.tape.trans a.tape,k.output.trans a.output,Nat.le_trans a.size k.size,fun j b=>(k.other j (Qb b a.size) (by omega) (by omega)).trans (a.block j b)⟩
theorem Kept2.cell {w w':Xa}{p m b o:Nat}{v:Value}(k:Kept2 w w' p m)(c:w.cell? ⟨b,o,none⟩=some v)(e:b≠p)(d:b≠m):w'.cell? ⟨b,o,none⟩=some v :=
 (World.cell?_of_block (a:=⟨b,o,none⟩) (k.other b (zae c) e d)).trans c
theorem Kept2.frozen {w w':Xa}{p m b o:Nat}(k:Kept2 w w' p m)(hb:b<w.heap.size)(c:b≠p)(a:b≠m):w'.frozen? ⟨b,o,none⟩=w.frozen? ⟨b,o,none⟩:=by
 unfold World.frozen?;simp only[];rw[k.other b hb c a]
structure SumsAt (w W:Xa) (cs:List zag):Prop where
 s0:W.cell? ⟨w.heap.size+3,0,none⟩=some (.map (some (w.heap.size+1)))
 s1:W.cell? ⟨w.heap.size+3,1,none⟩=some (.map (some (w.heap.size+2)))
 r0:W.cell? ⟨w.heap.size,0,none⟩=some (.map none)
 r1:W.cell? ⟨w.heap.size,1,none⟩=some (.map none)
 f0:W.frozen? ⟨w.heap.size,0,none⟩=false
 f1:W.frozen? ⟨w.heap.size,1,none⟩=false
 plus:MapIs St U W (w.heap.size+1) (zax cs)
 minus:MapIs St U W (w.heap.size+2) (zaz cs)
 ext:Ext w W
theorem SumsAt.next {w W b:Xa}{cs:List zag}(a:SumsAt w W cs)(k:Ext W b):SumsAt w b cs :=
 ⟨k.cell a.s0,k.cell a.s1,k.cell a.r0,k.cell a.r1,(k.frozen (zae a.r0)).trans a.f0,(k.frozen (zae a.r1)).trans a.f1,a.plus.ext k,a.minus.ext k,a.ext.trans k⟩
theorem SumsAt.put {w W b:Xa}{cs:List zag}{c:zag}(a:SumsAt w W cs)(e:MapIs St U b (w.heap.size+1) (putP max (zax cs) c))(d:MapIs St U b (w.heap.size+2) (putM max (zaz cs) c))(k:Kept2 W b (w.heap.size+1) (w.heap.size+2)):SumsAt w b (cs++[c]) :=
 ⟨k.cell a.s0 (by omega) (by omega),k.cell a.s1 (by omega) (by omega),k.cell a.r0 (by omega) (by omega),k.cell a.r1 (by omega) (by omega),(k.frozen (zae a.r0) (by omega) (by omega)).trans a.f0,(k.frozen (zae a.r1) (by omega) (by omega)).trans a.f1,
  by unfold zax;rw[List.foldl_append];exact e,by unfold zaz;rw[List.foldl_append];exact d,a.ext.kept2 k (by omega) (by omega)⟩
theorem zgz {S:Nat->Prop}{v:Value}{d:List (List zag)}{w:Xa}(B:Sl (slT zcl (by decide)) w S v d) :
  Calls Tryz.prog 140 #[v] w fun e w'=>∃p m,e=.returned (.agg #[.map (some p),.map (some m)])/\w.heap.size<=p/\w.heap.size<=m/\p≠m/\MapIs St U w' p (zax d.flatten)/\MapIs St U w' m (zaz d.flatten)/\Ext w w':=by
 have D:=B;obtain⟨A,c,rfl,ai,aj⟩:=B.form;have F:=zH (fun(pre post:List (List zag)) (l:List zag) (wr:Xa) (y:Ext w wr) (a:d=pre++l::post)=>yaw D y a);have M:=zH (fun(c:zag) (W:Xa) (Lp Lm:List (Str×Nat)) (h1:MapIs St U W (w.heap.size+1) Lp) (r:MapIs St U W (w.heap.size+2) Lm)=>zor ya0 c h1 r (by omega));have ap:=@run_makeMap Tryz.prog;clear B D;go_enter Tryz.func140,Tryz.ntmps140;go_wp2_with fail
 go_loopw [14] (fun i wr=>∃pre post,d=pre++post/\i=I pre.length/\SumsAt w wr pre.flatten) (fun i _=>d.length-(intOf i).toNat)
 case atStart=>refine⟨[],d,rfl,rfl,?_⟩;have h1:=MapIs.new (κ:=Str) (ν:=Nat) (K:=St) (V:=U) (w.alloc (.cells #[.map none,.map none] 210));have r:=MapIs.new (κ:=Str) (ν:=Nat) (K:=St) (V:=U) ((w.alloc (.cells #[.map none,.map none] 210)).alloc (.map #[] 0));simp only[World.size_alloc]at h1 r;exact⟨by simp[go_sem],by simp[go_sem],by simp[go_sem],by simp[go_sem],by simp[go_sem],by simp[go_sem],(h1.ext ((Ext.refl _).alloc _)).ext ((Ext.refl _).alloc _),r.ext ((Ext.refl _).alloc _),((((Ext.refl w).alloc _).alloc _).alloc _).alloc _⟩
 obtain⟨pre,post,a,rfl,s⟩:=hrel
 cases post
 case cons l post=>
  obtain⟨b,o,av,rfl,am,z⟩:=F.out pre post l wr s.ext a;have an:pre.length<d.length:=(by rw[a];simp);have C:=z;obtain⟨ae,c2,rfl,ak,al⟩:=z.form;have H:=zH a;have P:=zH s;have G:=zH (fun(pre post:List zag) (x:zag) (ac:Xa) (y:Ext w ac) (a:l=pre++x::post)=>zgg C y a);clear a s z C;go_wp2_with fail
  go_loopw [20] (fun j ad=>∃f k,l=f++k/\j=I f.length/\SumsAt w ad (pre.flatten++f)) (fun j _=>l.length-(intOf j).toNat)
  case atStart=>exact⟨[],l,rfl,rfl,by simpa using P.out⟩
  obtain⟨f,k,h,rfl,g⟩:=hrel
  cases k
  case cons x k=>
   obtain⟨af,aq,rfl,e0,ag,ah⟩:=G.out f k x wr g.ext h;have ao:f.length<l.length:=(by rw[h];simp);have E:=(Ext.refl wr).alloc (.cells #[St x.1,U x.2.1,U x.2.2] 54);have u:=zH (g.next E);obtain⟨s0,s1,r0,r1,f0,f1,q,n,t⟩:=g.next E;have O:=zH (M.out x _ _ _ q n);have ar:=s0;have au:=s1;obtain⟨s0,s1,r0,r1,f0,f1,X,T,ab⟩:=g;have J:=zH h;clear h q n t X T ab;go_wp2_with fail;refine O.out.mono ?_;rintro e aw⟨rfl,aa,Z,Y⟩;have Q:=zH (u.out.put aa Z Y);go_wp2;go_roundw
   case rel=>exact⟨f++[x],k,by rw[J.out];simp,by simp,by rw[<- List.append_assoc];exact Q.out⟩
   case measure=>simp[intOf];omega
  rw[List.append_nil]at h;subst h;have u:=zH g;clear g;go_wp2_with fail;go_roundw
  case rel=>exact⟨pre++[l],post,by rw[H.out];simp,by simp,by simpa using u.out⟩
  case measure=>simp[intOf];omega
 rw[List.append_nil]at a;subst a;obtain⟨s0,s1,r0,r1,f0,f1,q,n,t⟩:=s;have N:=zH q;have L:=zH n;have R:=zH t;clear q n t;go_wp2_with fail
 (try simp only[Exit.inBlock,Exit.then])
 refine bodyPost_ret (v:=.agg #[.map (some (w.heap.size+1)),.map (some (w.heap.size+2))]) (by simp[results,Tryz.f140,go_sem,r0,r1]) rfl ?_;refine⟨w.heap.size+1,w.heap.size+2,rfl,by omega,by omega,by omega,?_,?_,(R.out.set (by simp) _).set (by simp) _⟩
 ·exact N.out.keep (by rw[Qa _ _ _ _ (by simp),Qa _ _ _ _ (by simp)])
 exact L.out.keep (by rw[Qa _ _ _ _ (by simp),Qa _ _ _ _ (by simp)])
def subU (a b:Nat):Nat:=(a+(18446744073709551616-b % 18446744073709551616)) % 18446744073709551616
theorem zca (x:Int):IntKind.u64.wrap x=x % 18446744073709551616:=by simp[IntKind.wrap,IntKind.signed,IntKind.bits]
theorem zqy (t a b:Nat):Value.int .u64 (IntKind.u64.wrap ((t:Int)+IntKind.u64.wrap ((a:Int)-b)))=U (addU t (subU a b)):=by
 unfold U addU subU;rw[zca,zca]
 congr 1
 omega
def ziw (Lm:List (Str×Nat))(t:Nat)(p:Str×Nat):Nat:=addU t (subU p.2 (getL 0 Lm p.1))
def sumL (Lp Lm:List (Str×Nat)):Nat:=Lp.foldl (ziw Lm) 0
theorem zv9 {A B Lm:List (Str×Nat)}(h:A.Perm B):sumL A Lm=sumL B Lm:=by
 unfold sumL;refine h.foldl_eq' (fun x _ y _ z=>?_) 0;unfold ziw addU;omega
theorem zwa (A Lm:List (Str×Nat))(p:Str×Nat):sumL (A++[p]) Lm=ziw Lm (sumL A Lm) p:=by simp[sumL]
theorem zo6 {p m:Nat}{Lp Lm:List (Str×Nat)}{w:Xa}(j:MapIs St U w p Lp)(r:MapIs St U w m Lm) :
  Calls Tryz.prog 148 #[.agg #[.map (some p),.map (some m)]] w fun e w'=>e=.returned (I (wrap64 (sumL Lp Lm)))/\Ext w w':=by
 have u:=(Ext.refl w).alloc (.cells #[.map (some p),.map (some m)] 210);obtain⟨o,M,hR,h,S⟩:=zcz (P:=Tryz.prog) Tryz.underlying208 (j.ext u);have A:=zH hR;have D:=zH (u.trans h);have l:=zH r;have O:=zH j;have J:o.cell? ⟨w.heap.size,0,none⟩=some (.map (some p)):=h.cell (by simp[go_sem]);have c1:o.cell? ⟨w.heap.size,1,none⟩=some (.map (some m)):=h.cell (by simp[go_sem]);clear hR h r j;rw[World.size_alloc]at M;go_enter Tryz.func148,Tryz.ntmps148;go_wp2_with fail
 go_loopw [3] (fun t wr=>∃done k,t=U (sumL done Lm)/\(done++k).Perm Lp/\RangeIs St U wr p (w.heap.size+1) Lp k/\(wr.cell? ⟨w.heap.size,0,none⟩=some (.map (some p))/\wr.cell? ⟨w.heap.size,1,none⟩=some (.map (some m)))/\Ext w wr) (fun _ wr=>wr.rangeLeft p (w.heap.size+1))
 case atStart=>exact⟨[],Lp,rfl,.refl _,by have:=A.out;rwa[World.size_alloc]at this,⟨J,c1⟩,D.out⟩
 obtain⟨done,k,rfl,f,hR,⟨E,G⟩,g⟩:=hrel;have s:=l.out.ext g;have K:m≠w.heap.size+1:=by have:=l.out.lt;omega
 rcases zdh (P:=Tryz.prog) 0 hR with⟨rfl,b⟩|⟨r1,q,v,N,rfl,b,i,c,Q⟩
 ·have L:∀d,(Instr.next (.pointer (some ⟨w.heap.size+1,0,none⟩)) false d).run Tryz.prog wr=.ok (.tuple #[.bool false]) wr:=fun d=>b
  have n:=zH (zv9 (Lm:=Lm) f);clear f hR b;rw[List.append_nil]at n;go_wp2_with fail;go_ret;exact⟨by rw[<- n.out];rfl,g⟩
 have L:∀d,(Instr.next (.pointer (some ⟨w.heap.size+1,0,none⟩)) false d).run Tryz.prog wr=.ok (.tuple #[.bool true,St q.1,U q.2]) N:=fun d=>b
 have F:=c.cell E (by omega);have H:=c.cell G (by omega);have R:=ze5 (s.turned c K) q.1;have x:=zH hR.left_eq;have y:=zH i.left_eq;have B:=zH i;have z:=zH f;have C:=zH (g.turned c (by omega));clear f hR b i s g c;go_wp2_with fail;go_roundw
 case rel=>exact⟨done++[q],r1++v,(by rw[zwa,ziw];exact zqy _ _ _),(by rw[List.append_assoc];exact((List.perm_middle (l₁:=r1) (a:=q) (l₂:=v)).symm.append_left done).trans z.out),B.out,⟨F,H⟩,C.out⟩
 case measure=>rw[x.out,y.out];simp
def zb7 (cs:List zag):Int:=wrap64 (sumL (zax cs) (zaz cs))
theorem zqz {α:Type}{T:Shape α}{hk:0<T.k}{w:Xa}{S:Nat->Prop}{v:Value}{l:List α}(t:TypeId)(d:Sl T w S v l):Sl (slT T hk) (w.alloc (.cells #[v] t)) (fun b=>S b ∨ b=w.heap.size) (.slice (some ⟨w.heap.size,0,none⟩) 1 1) [l] :=
 ⟨_,1,rfl,Nat.le_refl _,by omega,fun pre x post c=>by
  cases pre with
  | nil =>
   simp at c;obtain⟨rfl,-⟩:=c
   exact⟨_,0,[v],rfl,.inr rfl,⟨v,rfl,(d.ext hk ((Ext.refl w).alloc _)).mono hk (fun b _ hb=>.inl hb)⟩,fun j u e=>by
    rw[cell_of_row _ w.heap.size _ #[v] t (0,0) (Go.heap_alloc_new w _)]
    simpa using e⟩
  | cons a r=>simp at c⟩
theorem zi6 {S:Nat->Prop}{v:Value}{l:List zag}{w:Xa}(a:Sl zcl w S v l) :
  Calls Tryz.prog 101 #[v] w fun e w'=>e=.returned (I (zb7 l))/\Ext w w':=by
 have f:=zH (zgz (zqz 41 a));have g:=zH (fun(p m:Nat) (Lp Lm:List (Str×Nat)) (w:Xa)=>@zo6 p m Lp Lm w);obtain⟨A,c,rfl,-,-⟩:=a.form;have j:=(Ext.refl w).alloc (.cells #[.slice A l.length c] 41);clear a;go_enter Tryz.func101,Tryz.ntmps101;go_wp2_with fail;refine f.out.mono ?_;rintro e n⟨p,m,rfl,-,-,-,d,b,i⟩;have h:=zH (g.out _ _ _ _ _ d b);clear d b;go_wp2_with fail;refine h.out.mono ?_;rintro e o⟨rfl,k⟩;go_wp2;go_ret;exact⟨by simp[zb7],(j.trans i).trans k⟩
end
end Go.Proofs.YtaabaflgeljbjaaGreat
