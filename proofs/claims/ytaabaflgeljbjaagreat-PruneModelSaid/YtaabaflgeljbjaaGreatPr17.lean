/- Laws. -/
import Derived.Test.YtaabaflgeljbjaaGreatPr16
import Derived.Test.YtaabaflgeljbjaaGreatPr12
import Derived.Test.YtaabaflgeljbjaaGreatPr05
set_option linter.unusedVariables false
set_option linter.unusedSimpArgs false
set_option maxRecDepth 100000
set_option maxHeartbeats 40000000
namespace Go.Proofs.YtaabaflgeljbjaaGreat
section
open Go.RowKit
theorem zq8 (l:List Item)(it:Item):zab (l++[it])=zab l++it.2.map fun d=>(it.1,d):=by simp[zab]
theorem zkc {S:Nat->Prop}{v:Value}{l:List Item}{w:World}(F:Sl itemT w S v l) :
  Calls Tryz.prog 144 #[v] w fun e w'=>∃p,e=.returned (.map (some p))/\w.heap.size<=p/\SetOf zar w' p (setL (zab l))/\Ext w w':=by
 have M:=F;obtain⟨A,c,rfl,ag,ah⟩:=F.form;have N:=zH (fun(pre post:List Item) (m:Item) (wr:World) (C:Ext w wr) (a:l=pre++m::post)=>zgr M C a);have ao:=@run_makeMap Tryz.prog;clear F M;go_enter Tryz.func144,Tryz.ntmps144;go_wp2_with fail
 go_loopw [11] (fun i wr=>∃pre post,l=pre++post/\i=I pre.length/\SetOf zar wr w.heap.size (setL (zab pre))/\Ext w wr) (fun i _=>l.length-(intOf i).toNat)
 case atStart=>exact⟨[],l,rfl,rfl,SetOf.new w,(Ext.refl w).alloc _⟩
 obtain⟨pre,post,a,rfl,k,n⟩:=hrel
 cases post with
 | cons it post =>
  obtain⟨b,o,av,rfl,ak,al,D⟩:=N.out pre post it wr n a;have am:pre.length<l.length:=(by rw[a];simp);have K:=D;obtain⟨r,c2,rfl,ai,aj⟩:=D.form;have u:=zH a;have G:=(Ext.refl wr).alloc (.cells #[St it.1,.slice r it.2.length c2] 57);have z:=zH (k.ext G);have B:=zH (n.trans G);have ab:(wr.alloc (.cells #[St it.1,.slice r it.2.length c2] 57)).cell? ⟨wr.heap.size,0,none⟩=some (St it.1):=(by simp[go_sem]);have aq:=k.lt;have O:=zH (fun(f h:List Dot) (x:Dot) (ac:World) (C:Ext w ac) (a:it.2=f++x::h)=>zje K C a);have ar:(wr.alloc (.cells #[St it.1,.slice r it.2.length c2] 57)).heap.size=wr.heap.size+1:=(by simp);clear a k D K n G;go_wp2_with fail;generalize W:wr.alloc (.cells #[St it.1,.slice r it.2.length c2] 57)=ad at *;clear W;obtain⟨H,rfl⟩:∃H:World,H=wr:=⟨_,rfl⟩
  go_loopw [18] (fun j J=>∃f h,it.2=f++h/\j=I f.length/\SetOf zar J w.heap.size (setL (zab pre++f.map fun d=>(it.1,d)))/\J.cell? ⟨H.heap.size,0,none⟩=some (St it.1)/\Ext w J) (fun j _=>it.2.length-(intOf j).toNat)
  case atStart=>exact⟨[],it.2,rfl,rfl,by simpa using z.out,ab,B.out⟩
  obtain⟨f,h,g,rfl,s,Y,q⟩:=hrel
  cases h
  case cons x h=>
   obtain⟨ae,au,rfl,e0,af⟩:=O.out f h x wr q g;have an:f.length<it.2.length:=(by rw[g];simp);have t:=(Ext.refl wr).alloc (.cells #[St x.1,U x.2] 59);have Z:=t.cell Y;obtain⟨aw,ap,L,E⟩:=zc9 (P:=Tryz.prog) Tryz.underlying217 zjd (s.ext t) (it.1,x);have aa:=E.cell Z (by omega);have R:=zH L;have V:=zH ((q.trans t).turned E (Nat.le_refl _));have y:=zH g;clear g s q t L E;go_wp2_with fail;go_roundw
   case rel=>exact⟨f++[x],h,by rw[y.out];simp,by simp,by rw[List.map_append,<- List.append_assoc,List.map_singleton,zh6];exact R.out,aa,V.out⟩
   case measure=>simp[intOf];omega
  rw[List.append_nil]at g;have Q:=zH s;have T:=zH q;have X:it.2.length=f.length:=(by rw[g]);have y:=zH g;clear s q g;go_wp2_with fail;go_roundw
  case rel=>exact⟨pre++[it],post,by rw[u.out];simp,by simp,by rw[zq8,y.out];exact Q.out,T.out⟩
  case measure=>simp[intOf];omega
 | nil=>rw[List.append_nil]at a;have X:l.length=pre.length:=(by rw[a]);have u:=zH a;have z:=zH k;have B:=zH n;clear a k n;go_wp2_with fail;go_ret;exact⟨_,rfl,Nat.le_refl _,by rw[u.out];exact z.out,B.out⟩
structure PredK {κ:Type} (K:κ->Value) (P:Program) (g:Nat) (cb:Array Value) (base:Nat) (C:World->Prop) (p:κ->Bool):Prop where
 enters:∀args w,(callFunc g args).run P w=.ok (.enter g args) w
 keep:∀W W',C W->Below base W W'->C W'
 does:∀m W,C W->Calls P g (#[K m]++cb) W fun e w'=>e=.returned (.bool (p m))/\Ext W w'
theorem zku {b g base:Nat}{N:Array Value}{C:World->Prop}{p:zan->Bool}{h:List zan}{w:World}(r:SetOf zar w b h)(B:PredK zar Tryz.prog g N base C p)(O:C w)(ai:base<=w.heap.size) :
  Calls Tryz.prog 156 #[.map (some b),.func (.func g) #[] N] w fun e w'=>∃q V,e=.returned (.map (some q))/\w.heap.size<=q/\V.Perm (h.filter p)/\SetOf zar w' q V/\Ext w w':=by
 have E:=(Ext.refl w).alloc (.map #[] 0);obtain⟨ap,am,hR,d,an⟩:=zcz (P:=Tryz.prog) Tryz.underlying217 (r.ext E);have aa:=zH hR;have ae:=zH (E.trans d);have X:=zH (SetOf.new (K:=zar) w |>.ext d);have Y:=zH r.nodup;have J:=zH B;have W:=zH O;have aq:=B.enters;have ar:=r.lt;have ay:=@run_makeMap Tryz.prog;rw[World.size_alloc]at am an;clear hR E d r B O;go_enter Tryz.func156,Tryz.ntmps156;go_wp2_with fail
 go_loopw [10] (fun u wr=>∃done G,(done++G.map Prod.fst).Perm h/\RangeIs zar zeg wr b (w.heap.size+1) (h.map fun k=>(k,())) G/\SetOf zar wr w.heap.size (done.filter p)/\Ext w wr) (fun _ wr=>wr.rangeLeft b (w.heap.size+1))
 case atStart=>exact⟨[],_,by rw[ze3];exact .refl _,by have:=aa.out;rwa[World.size_alloc]at this,X.out,ae.out⟩
 obtain⟨done,G,i,hR,n,s⟩:=hrel;rcases zdh (P:=Tryz.prog) 0 hR with⟨rfl,j⟩|⟨r1,q,l,c,rfl,j,z,D,ax⟩
 ·have aj:∀m,(Instr.next (.pointer (some ⟨w.heap.size+1,0,none⟩)) false m).run Tryz.prog wr=.ok (.tuple #[.bool false]) wr:=fun m=>j
  have t:=zH i;have ac:=zH n;have ag:=zH s;clear i hR j n s;go_wp2_with fail;go_ret;exact⟨_,_,rfl,Nat.le_refl _,by have:=t.out;simp at this;exact this.filter p,ac.out,ag.out⟩
 have aj:∀m,(Instr.next (.pointer (some ⟨w.heap.size+1,0,none⟩)) false m).run Tryz.prog wr=.ok (.tuple #[.bool true,zar q.1,zeg q.2]) c:=fun m=>j
 have F:=s.turned D (by omega);have A:SetOf zar c w.heap.size (done.filter p):=n.keep (D.other _ (by omega));have d:=(Ext.refl c).alloc (.cells #[St q.1.1,St q.1.2.1,U q.1.2.2] 220);have Z:=zH (J.out.does q.1 _ (J.out.keep _ _ W.out ((F.trans d).below ai)))
 have al:q.1∉done:=fun ak=>by
  have:=(i.nodup_iff.2 Y.out)
  rw[List.nodup_append]at this;exact this.2.2 q.1 ak q.1 (by simp) rfl
 have I:=zH hR.left_eq;have ab:=zH z;have t:=zH i;have ad:=zH (A.ext d);have af:=zH (F.trans d);have az:w.heap.size<c.heap.size:=A.lt;have a0:w.heap.size+1<c.heap.size:=z.lt;clear i hR j z s D F A n d;go_wp2_with fail;refine Z.out.mono ?_;rintro e H⟨rfl,f⟩;have au:H.cell? ⟨c.heap.size,0,none⟩=some (St q.1.1):=f.cell (by simp[go_sem]);have av:H.cell? ⟨c.heap.size,1,none⟩=some (St q.1.2.1):=f.cell (by simp[go_sem]);have aw:H.cell? ⟨c.heap.size,2,none⟩=some (U q.1.2.2):=f.cell (by simp[go_sem]);have v:=zH ((ab.out.ext ((Ext.refl c).alloc (.cells #[St q.1.1,St q.1.2.1,U q.1.2.2] 220))).ext f);have M:=zH (af.out.trans f);have o:=ad.out.ext f;have a2:=f.size
 have L:=zH (show((done++[q.1])++(r1++l).map Prod.fst).Perm h by have h1:=t.out;simp only[List.map_append,List.map_cons]at h1 ⊢;rw[List.append_assoc];exact((List.perm_middle (l₁:=r1.map Prod.fst) (a:=q.1) (l₂:=l.map Prod.fst)).symm.append_left done).trans h1)
 clear f;cases R:p q.1
 ·have HF:=zH (show(done++[q.1]).filter p=done.filter p by simp[List.filter_append,R]);have x:=zH o;clear o;go_wp2_with fail;go_roundw
  case rel=>exact⟨done++[q.1],r1++l,L.out,v.out,by rw[HF.out];exact x.out,M.out⟩
  case measure=>rw[I.out,v.out.left_eq];simp
 obtain⟨ao,a1,S,T⟩:=zc9 (P:=Tryz.prog) Tryz.underlying217 zjd o q.1
 have HF:=zH (show addK (done.filter p) q.1=(done++[q.1]).filter p by rw[List.filter_append];unfold addK;rw[zN (fun ah=>al (List.mem_filter.1 ah).1)];simp[R])
 have x:=zH S;have y:=zH T;clear o S T;go_wp2_with fail;have Q:RangeIs zar zeg ao b (w.heap.size+1) (h.map fun k=>(k,())) (r1++l):=v.out.keep (y.out.other b (by omega)) (y.out.other _ (by omega));go_roundw
 case rel=>exact⟨done++[q.1],r1++l,L.out,Q,by rw[<- HF.out];exact x.out,M.out.turned y.out (Nat.le_refl _)⟩
 case measure=>rw[I.out,Q.left_eq];simp
end
end Go.Proofs.YtaabaflgeljbjaaGreat
