/- Laws. -/
import Derived.Test.YtaabaflgeljbjaaGreatPr26
import Derived.Test.YtaabaflgeljbjaaGreatPr02
import Derived.Test.YtaabaflgeljbjaaGreatPr11
import Derived.Test.YtaabaflgeljbjaaGreatPr22
import Derived.Test.YtaabaflgeljbjaaGreatPr27
import Derived.Test.YtaabaflgeljbjaaGreatPr05
import Derived.Test.YtaabaflgeljbjaaGreatPr17
import Derived.Test.YtaabaflgeljbjaaGreatPr06
import Derived.Test.YtaabaflgeljbjaaGreatPr25
import Derived.Test.YtaabaflgeljbjaaGreatPr15
import Derived.Test.YtaabaflgeljbjaaGreatPr24
set_option linter.unusedVariables false
set_option linter.unusedSimpArgs false
set_option maxRecDepth 100000
set_option maxHeartbeats 40000000
namespace Go.Proofs.YtaabaflgeljbjaaGreat
open Go.Value renaming slice→Xk,pointer→Xl,bool→Xm,tuple→Xn
open Go.Obj renaming cells→Xo
open Go.Ending renaming returned→Xp
open Go renaming World→Xq,Value→Xr
open Go renaming undef→Qa
open List renaming mem_cons→Qd,lookup→Qe,filterMap_cons→Qh,pairwise_cons→Qk,length_eq_zero_iff→Ql,mem_append→Qo,foldl_cons→Qp,map_cons→Qq,mem_map→Qr,all_eq_true→Qs,mem_filter→Qt,mem_append_right→Qu,mem_append_left→Qv,mem_singleton→Qw,pairwise_map→Qy,mem_flatMap→Qz
open Nat renaming le_trans→Qc,reduceAdd→Qf,le_refl→Qg,lt_of_le_of_lt→Qx
open Go.World renaming size_setCell→Qj,size_alloc→Qm
open Go.RowKit.Below renaming heap_setCell→Qb
open Bool renaming and_eq_true→Qi
open Option renaming getD_some→Qn
section
open Go.RowKit Go.Shelf
def zgd:Cell:=(0,[],false)
def may1 (e:Entry):Bool:=mayL e.counts&&(zfv e&&(decide (e.items.length=0)&&decide (e.cell=zgd)))
def may2 (e:Entry):Bool:=mayB e.items&&(zgt e&&(decide (e.counts.length=0)&&decide (e.cell=zgd)))
def may3 (e:Entry):Bool:=mayC e.cell&&(decide (e.counts.length=0)&&decide (e.items.length=0))
def mayE (e:Entry):Bool:=mayM e.seen&&(!decide (e.seen.length=0)&&(if zas e.key=1 then may1 e else if zas e.key=2 then may2 e else if zas e.key=3 then may3 e else false))
theorem zzj {S:Nat->Prop}{e:Entry}{v1 v2 v3:Xr}{W:Xq}{B:Nat}(hb:RowIs W B 46 (entL e v1 v2 v3) [])(t:EntAt W S e v1 v2 v3) :
  Calls Tryz.prog 73 #[Xl (some ⟨B,0,none⟩)] W fun r w'=>r=Xp (Xm (may1 e))/\Ext W w':=by
 obtain⟨p,es,m,n,h,i,l⟩:=e;have s:=zH (show may1 ⟨p,es,m,n,(h,i,l)⟩=(mayL m&&(zfv ⟨p,es,m,n,(h,i,l)⟩&&(decide (n.length=0)&&decide ((h,i,l)=zgd))))from rfl);have D:=zH (zyy t.counts);have C:=zH t;obtain⟨G,Y,H,Z,I,aa,rfl,rfl,rfl⟩:=t.fm;have X:=hb.cell (j:=2) rfl;have F:=fun w=>znc (h,i,l) (0,[],false) w
 simp only at F;clear t;go_enter Tryz.func73,Tryz.ntmps73;go_wp2_with fail;refine D.out.mono ?_;rintro r J⟨rfl,v⟩;have z:=hb.ext v
 cases u:mayL m
 case false=>have o:=zH (show may1 ⟨p,es,m,n,(h,i,l)⟩=false by rw[s.out,u];rfl);go_wp2_with fail;go_ret;exact⟨by rw[o.out];rfl,v⟩
 obtain⟨L,c1,c2,M,c4,N,O⟩:=z.p7;have E:=zH (zra (C.out.ext v));go_wp2_with fail;refine E.out.mono ?_;rintro r K⟨rfl,A⟩;have q:=z.ext A;have P:=q.cell (j:=2) rfl;have Q:=q.cell (j:=3) rfl;have R:=q.cell (j:=4) rfl;have U:=q.cell (j:=5) rfl;have V:=q.cell (j:=6) rfl;have x:=zH (v.trans A)
 cases y:zfv ⟨p,es,m,n,(h,i,l)⟩
 case false=>have o:=zH (show may1 ⟨p,es,m,n,(h,i,l)⟩=false by rw[s.out,u,y];rfl);go_wp2_with fail;go_ret;exact⟨by rw[o.out];rfl,x.out⟩
 cases n with
 | nil =>
  have o:=zH (show may1 ⟨p,es,m,[],(h,i,l)⟩=decide ((h,i,l)=((0,[],false):Cell)) by rw[s.out,u,y];rfl);go_wp2_with fail
  all_goals
   go_ret;refine⟨?_,x.out⟩;rw[o.out];simp[*]
 | cons it n=>have o:=zH (show may1 ⟨p,es,m,it::n,(h,i,l)⟩=false by rw[s.out,u,y];rfl);go_wp2_with fail;go_ret;exact⟨by rw[o.out];rfl,x.out⟩
theorem zzk {S:Nat->Prop}{e:Entry}{v1 v2 v3:Xr}{W:Xq}{B:Nat}(F:e.items.length<=1099511627776)(hb:RowIs W B 46 (entL e v1 v2 v3) [])(t:EntAt W S e v1 v2 v3) :
  Calls Tryz.prog 76 #[Xl (some ⟨B,0,none⟩)] W fun r w'=>r=Xp (Xm (may2 e))/\Ext W w':=by
 obtain⟨p,es,m,n,h,i,l⟩:=e;have s:=zH (show may2 ⟨p,es,m,n,(h,i,l)⟩=(mayB n&&(zgt ⟨p,es,m,n,(h,i,l)⟩&&(decide (m.length=0)&&decide ((h,i,l)=zgd))))from rfl);have D:=zH (zzd t.items F);have C:=zH t;obtain⟨H,Z,I,aa,J,ab,rfl,rfl,rfl⟩:=t.fm;have Y:=hb.cell (j:=3) rfl;have G:=fun w=>znc (h,i,l) (0,[],false) w
 simp only at G;clear t;go_enter Tryz.func76,Tryz.ntmps76;go_wp2_with fail;refine D.out.mono ?_;rintro r K⟨rfl,v⟩;have z:=hb.ext v
 cases u:mayB n
 case false=>have o:=zH (show may2 ⟨p,es,m,n,(h,i,l)⟩=false by rw[s.out,u];rfl);go_wp2_with fail;go_ret;exact⟨by rw[o.out];rfl,v⟩
 obtain⟨M,c1,c2,N,c4,O,P⟩:=z.p7;have E:=zH (zsw (C.out.ext v));go_wp2_with fail;refine E.out.mono ?_;rintro r L⟨rfl,A⟩;have q:=z.ext A;have Q:=q.cell (j:=2) rfl;have R:=q.cell (j:=3) rfl;have U:=q.cell (j:=4) rfl;have V:=q.cell (j:=5) rfl;have X:=q.cell (j:=6) rfl;have x:=zH (v.trans A)
 cases y:zgt ⟨p,es,m,n,(h,i,l)⟩
 case false=>have o:=zH (show may2 ⟨p,es,m,n,(h,i,l)⟩=false by rw[s.out,u,y];rfl);go_wp2_with fail;go_ret;exact⟨by rw[o.out];rfl,x.out⟩
 cases m with
 | nil =>
  have o:=zH (show may2 ⟨p,es,[],n,(h,i,l)⟩=decide ((h,i,l)=((0,[],false):Cell)) by rw[s.out,u,y];rfl);go_wp2_with fail
  all_goals
   go_ret;refine⟨?_,x.out⟩;rw[o.out];simp[*]
 | cons it m=>have o:=zH (show may2 ⟨p,es,it::m,n,(h,i,l)⟩=false by rw[s.out,u,y];rfl);go_wp2_with fail;go_ret;exact⟨by rw[o.out];rfl,x.out⟩
theorem zzl {S:Nat->Prop}{e:Entry}{v1 v2 v3:Xr}{W:Xq}{B:Nat}(hb:RowIs W B 46 (entL e v1 v2 v3) [])(u:EntAt W S e v1 v2 v3) :
  Calls Tryz.prog 79 #[Xl (some ⟨B,0,none⟩)] W fun r w'=>r=Xp (Xm (may3 e))/\Ext W w':=by
 obtain⟨p,es,o,n,h,i,l⟩:=e;have s:=zH (show may3 ⟨p,es,o,n,(h,i,l)⟩=(mayC (h,i,l)&&(decide (o.length=0)&&decide (n.length=0)))from rfl);have x:=zH (zzf (h,i,l) W);obtain⟨y,H,z,I,A,J,rfl,rfl,rfl⟩:=u.fm;have E:=hb.cell (j:=4) rfl;have F:=hb.cell (j:=5) rfl;have G:=hb.cell (j:=6) rfl;clear u;go_enter Tryz.func79,Tryz.ntmps79;go_wp2_with fail;refine x.out.mono ?_;rintro r C⟨rfl,q⟩;have v:=hb.ext q;have c2:=v.cell (j:=2) rfl;have D:=v.cell (j:=3) rfl
 cases t:mayC (h,i,l)
 case false=>have m:=zH (show may3 ⟨p,es,o,n,(h,i,l)⟩=false by rw[s.out,t];rfl);go_wp2_with fail;go_ret;exact⟨by rw[m.out];rfl,q⟩
 cases o with
 | nil =>
  cases n with
  | nil=>have m:=zH (show may3 ⟨p,es,[],[],(h,i,l)⟩=true by rw[s.out,t];rfl);go_wp2_with fail;go_ret;exact⟨by rw[m.out];rfl,q⟩
  | cons it n=>have m:=zH (show may3 ⟨p,es,[],it::n,(h,i,l)⟩=false by rw[s.out,t];rfl);go_wp2_with fail;go_ret;exact⟨by rw[m.out];rfl,q⟩
 | cons c o=>have m:=zH (show may3 ⟨p,es,c::o,n,(h,i,l)⟩=false by rw[s.out,t];rfl);go_wp2_with fail;go_ret;exact⟨by rw[m.out];rfl,q⟩
def mayV (B:Nat):Option Nat->Xr
 | none=>.nilFunc
 | some f=>.func (.func f) #[] #[Xl (some ⟨B,0,none⟩)]
theorem yb7 (B:Nat)(w:Xq):(zeroValue 31).run Tryz.prog w=.ok (mayV B none) w:=Tryz.zeroValue31 w
theorem keyOk8:KeyOk Tryz.prog 5 K8:=zzh Tryz.underlying5
theorem zkx {S:Nat->Prop}{e:Entry}{v1 v2 v3:Xr}{w:Xq}(E:EntAt w S e v1 v2 v3)(a4:e.items.length<=1099511627776) :
  Calls Tryz.prog 34 #[entV e v1 v2 v3] w fun r w'=>r=Xp (Xm (mayE e))/\Ext w w':=by
 obtain⟨h,es,i,l,n,o,p⟩:=e;have M:=zH (show mayE ⟨h,es,i,l,(n,o,p)⟩=(mayM es&&(!decide (es.length=0)&&(if zas h=1 then may1 ⟨h,es,i,l,(n,o,p)⟩else if zas h=2 then may2 ⟨h,es,i,l,(n,o,p)⟩else if zas h=3 then may3 ⟨h,es,i,l,(n,o,p)⟩else false)))from rfl);generalize mayE ⟨h,es,i,l,(n,o,p)⟩=R at *;have J:=zH E;obtain⟨G,Y,H,Z,I,aa,rfl,rfl,rfl⟩:=E.fm;have ai:=(Ext.refl w).alloc (Xo #[St h,Xk G es.length Y,Xk H i.length Z,Xk I l.length aa,U n,St o,Xm p] 46);have ah:=zaf w 46 [St h,Xk G es.length Y,Xk H i.length Z,Xk I l.length aa,U n,St o,Xm p];have bd:=ah.cell (j:=1) rfl;have az:=zH (ztv (E.seen.ext (by decide) ai));clear E;have a8:∀args w,(callFunc 73 args).run Tryz.prog w=.ok (.enter 73 args) w:=enters_of Tryz.func73 (by kernel_rfl) rfl;have a9:∀args w,(callFunc 76 args).run Tryz.prog w=.ok (.enter 76 args) w:=enters_of Tryz.func76 (by kernel_rfl) rfl;have ba:∀args w,(callFunc 79 args).run Tryz.prog w=.ok (.enter 79 args) w:=enters_of Tryz.func79 (by kernel_rfl) rfl;have bb:=@run_makeMap Tryz.prog;go_enter Tryz.func34,Tryz.ntmps34;go_wp2_with fail;generalize a3:w.alloc (Xo #[St h,Xk G es.length Y,Xk H i.length Z,Xk I l.length aa,U n,St o,Xm p] 46)=a5 at *;clear a3;refine az.out.mono ?_;rintro r s⟨rfl,aj⟩;have D:=ah.ext aj;have a6:=D.cell (j:=0) rfl;have c1:=D.cell (j:=1) rfl;have N:=ai.trans aj
 cases Q:mayM es
 case false=>have q:=zH (show R=false by rw[M.out,Q];rfl);go_wp2_with fail;go_ret;exact⟨by rw[q.out];rfl,N⟩
 cases es
 case nil=>have q:=zH (show R=false by rw[M.out,Q];rfl);go_wp2_with fail;go_ret;exact⟨by rw[q.out];rfl,N⟩
 rename_i m es
 have q:=zH (show R=(if zas h=1 then may1 ⟨h,m::es,i,l,(n,o,p)⟩else if zas h=2 then may2 ⟨h,m::es,i,l,(n,o,p)⟩else if zas h=3 then may3 ⟨h,m::es,i,l,(n,o,p)⟩else false) by rw[M.out,Q];rfl);have bc:=D.lt;obtain⟨ad,au,am,ap⟩:=zaw (P:=Tryz.prog) (t:=149) Tryz.underlying149 keyOk8 (MapIs.new (K:=K8) (V:=mayV w.heap.size) s) 1 (some 73);obtain⟨ae,av,an,aq⟩:=zaw (P:=Tryz.prog) (t:=149) Tryz.underlying149 keyOk8 am 2 (some 76);obtain⟨af,aw,ao,ar⟩:=zaw (P:=Tryz.prog) (t:=149) Tryz.underlying149 keyOk8 an 3 (some 79);have ak:=((Ext.refl s).alloc (.map #[] 0)).turned ap (Qg _);have al:=ak.turned aq (Qg _);have X:=al.turned ar (Qg _);have d0:=(D.ext X).cell (j:=0) rfl;have ay:=zH (zkw h af);have ax:=zH ao;have ab:=zH X;clear ap aq ar ak al X am an ao;have be:(Instr.mapUpdate 149 (.map (some s.heap.size)) (.int .u8 1) (.func (.func 73) #[] #[Xl (some ⟨w.heap.size,0,none⟩)])).run Tryz.prog (s.alloc (.map #[] 0))=.ok () ad:=au;have bf:(Instr.mapUpdate 149 (.map (some s.heap.size)) (.int .u8 2) (.func (.func 76) #[] #[Xl (some ⟨w.heap.size,0,none⟩)])).run Tryz.prog ad=.ok () ae:=av;have bg:(Instr.mapUpdate 149 (.map (some s.heap.size)) (.int .u8 3) (.func (.func 79) #[] #[Xl (some ⟨w.heap.size,0,none⟩)])).run Tryz.prog ae=.ok () af:=aw;clear au av aw;go_wp2_with fail;refine ay.out.mono ?_;rintro r u⟨rfl,W⟩;have ag:=(zbi (P:=Tryz.prog) (t:=149) (z:=none) Tryz.underlying149 keyOk8 (yb7 w.heap.size) (ax.out.ext W) (zas h)).2;have L:=zH (D.ext (ab.out.trans W));have A:=zH (N.trans (ab.out.trans W));generalize F:zas h=kk at *;have v:(Instr.lookup 149 (.map (some s.heap.size)) (U8 kk) true).run Tryz.prog u=.ok (Xn #[mayV w.heap.size (getL none (putL (putL (putL [] 1 (some 73)) 2 (some 76)) 3 (some 79)) kk),Xm (decide (kk∈[1,2,3]))]) u:=ag;clear ag;rcases(show kk=1 ∨ kk=2 ∨ kk=3 ∨ (kk≠1/\kk≠2/\kk≠3) by omega)with h1|h1|h1|⟨h1,h2,h3⟩
 ·subst h1;have O:(Instr.lookup 149 (.map (some s.heap.size)) (U8 1) true).run Tryz.prog u=.ok (Xn #[.func (.func 73) #[] #[Xl (some ⟨w.heap.size,0,none⟩)],Xm true]) u:=v;have y:=zH (show R=may1 ⟨h,m::es,i,l,(n,o,p)⟩ by rw[q.out];rfl);clear v F q;have B:=zH (zzj L.out (J.out.ext A.out));go_wp2_with fail;refine B.out.mono ?_;rintro r ac⟨rfl,x⟩;have C:=zH (A.out.trans x);clear x;go_wp2_with fail;go_ret;exact⟨by rw[y.out];rfl,C.out⟩
 ·subst h1;have O:(Instr.lookup 149 (.map (some s.heap.size)) (U8 2) true).run Tryz.prog u=.ok (Xn #[.func (.func 76) #[] #[Xl (some ⟨w.heap.size,0,none⟩)],Xm true]) u:=v;have y:=zH (show R=may2 ⟨h,m::es,i,l,(n,o,p)⟩ by rw[q.out];rfl);clear v F q;have B:=zH (zzk a4 L.out (J.out.ext A.out));go_wp2_with fail;refine B.out.mono ?_;rintro r ac⟨rfl,x⟩;have C:=zH (A.out.trans x);clear x;go_wp2_with fail;go_ret;exact⟨by rw[y.out];rfl,C.out⟩
 ·subst h1;have O:(Instr.lookup 149 (.map (some s.heap.size)) (U8 3) true).run Tryz.prog u=.ok (Xn #[.func (.func 79) #[] #[Xl (some ⟨w.heap.size,0,none⟩)],Xm true]) u:=v;have y:=zH (show R=may3 ⟨h,m::es,i,l,(n,o,p)⟩ by rw[q.out];rfl);clear v F q;have B:=zH (zzl L.out (J.out.ext A.out));go_wp2_with fail;refine B.out.mono ?_;rintro r ac⟨rfl,x⟩;have C:=zH (A.out.trans x);clear x;go_wp2_with fail;go_ret;exact⟨by rw[y.out];rfl,C.out⟩
 have O:(Instr.lookup 149 (.map (some s.heap.size)) (U8 kk) true).run Tryz.prog u=.ok (Xn #[.nilFunc,Xm false]) u:=by
  rw[v];have a7:(1==kk)=false:=(by simp;omega);have a0:(kk==1)=false:=(by simp;omega);have a1:(kk==2)=false:=(by simp;omega);have a2:(kk==3)=false:=(by simp;omega);simp[getL,putL,Qe,a0,a1,a2,h1,h2,h3,mayV]
 have y:=zH (show R=false by rw[q.out,zN h1,zN h2,zN h3]);clear v F q;go_wp2_with fail;go_ret;exact⟨by rw[y.out];rfl,A.out⟩
theorem zuo {S:Nat->Prop}{e:Entry}{v1 v2 v3:Xr}{W:Xq}{B:Nat}(hb:RowIs W B 46 (entL e v1 v2 v3) [])(h:EntAt W S e v1 v2 v3) :
  Calls Tryz.prog 100 #[Xl (some ⟨B,0,none⟩)] W fun r w'=>r=Xp (.iface 2 (I (zb7 e.counts)))/\Ext W w':=by
 have i:=zH (zi6 h.counts);obtain⟨m,p,rfl,-,-⟩:=h.counts.form;have o:=hb.cell (j:=2) rfl;clear h hb;go_enter Tryz.func100,Tryz.ntmps100;go_wp2_with fail;refine i.out.mono ?_;rintro r n⟨rfl,l⟩;go_wp2_with fail;go_ret;exact⟨rfl,l⟩
theorem zup {S:Nat->Prop}{e:Entry}{v1 v2 v3:Xr}{W:Xq}{B:Nat}(m:(zab e.items).length<=1099511627776)(hb:RowIs W B 46 (entL e v1 v2 v3) [])(h:EntAt W S e v1 v2 v3) :
  Calls Tryz.prog 102 #[Xl (some ⟨B,0,none⟩)] W fun r w'=>∃s,r=Xp (.iface 24 s)/\Own w' W.heap.size 9 1 s (zdo e.items).length ((zdo e.items).flatMap strC)/\Ext W w':=by
 have l:=zH (zw3 h.items m);obtain⟨p,u,rfl,-,-⟩:=h.items.form;have t:=hb.cell (j:=3) rfl;clear h hb;go_enter Tryz.func102,Tryz.ntmps102;go_wp2_with fail;refine l.out.mono ?_;rintro r q⟨v',rfl,i,o⟩;obtain⟨A,n,rfl,-,-⟩:=i.form;go_wp2_with fail;go_ret;exact⟨_,rfl,i,o⟩
def zkd (c:Cell):Xr:=if(zio c).2 then .iface 9 (St (zio c).1)else .nilIface
theorem zuq {S:Nat->Prop}{e:Entry}{v1 v2 v3:Xr}{W:Xq}{B:Nat}(hb:RowIs W B 46 (entL e v1 v2 v3) [])(q:EntAt W S e v1 v2 v3) :
  Calls Tryz.prog 104 #[Xl (some ⟨B,0,none⟩)] W fun r w'=>r=Xp (zkd e.cell)/\Ext W w':=by
 obtain⟨x,es,u,v,h,i,l⟩:=e;have o:=zH (zxc (h,i,l) W);have m:=zH (show zkd (h,i,l)=if(zio (h,i,l)).2 then .iface 9 (St (zio (h,i,l)).1)else .nilIface from rfl);generalize zkd (h,i,l)=V at *;have y:=hb.cell (j:=4) rfl;have z:=hb.cell (j:=5) rfl;have A:=hb.cell (j:=6) rfl;clear q hb;go_enter Tryz.func104,Tryz.ntmps104;go_wp2_with fail;refine o.out.mono ?_;rintro r t⟨rfl,n⟩;generalize zio (h,i,l)=p at *;obtain⟨C,s⟩:=p
 cases s with
 | false=>go_wp2_with fail;go_ret;exact⟨by rw[m.out];rfl,n⟩
 | true=>go_wp2_with fail;go_ret;exact⟨by rw[m.out];rfl,n⟩
def ValAt (W:Xq)(base:Nat)(e:Entry)(v:Xr):Prop :=
 if zas e.key=1 then v=.iface 2 (I (zb7 e.counts))else
 if zas e.key=2 then(∃s,v=.iface 24 s/\Own W base 9 1 s (zdo e.items).length ((zdo e.items).flatMap strC))else
 if zas e.key=3 then v=zkd e.cell else v=.nilIface
theorem ybl (B:Nat)(w:Xq):(zeroValue 169).run Tryz.prog w=.ok (mayV B none) w:=Tryz.zeroValue169 w
theorem zn5 {S:Nat->Prop}{e:Entry}{v1 v2 v3:Xr}{w:Xq}(L:EntAt w S e v1 v2 v3)(az:(zab e.items).length<=1099511627776) :
  Calls Tryz.prog 50 #[entV e v1 v2 v3] w fun r w'=>∃v,r=Xp v/\ValAt w' w.heap.size e v/\Ext w w':=by
 obtain⟨m,es,x,p,y,A,B⟩:=e;have H:=zH L;obtain⟨E,R,F,X,G,Y,rfl,rfl,rfl⟩:=L.fm;have af:=(Ext.refl w).alloc (Xo #[St m,Xk E es.length R,Xk F x.length X,Xk G p.length Y,U y,St A,Xm B] 46);have D:=zaf w 46 [St m,Xk E es.length R,Xk F x.length X,Xk G p.length Y,U y,St A,Xm B];clear L;have a1:∀args w,(callFunc 100 args).run Tryz.prog w=.ok (.enter 100 args) w:=enters_of Tryz.func100 (by kernel_rfl) rfl;have a2:∀args w,(callFunc 102 args).run Tryz.prog w=.ok (.enter 102 args) w:=enters_of Tryz.func102 (by kernel_rfl) rfl;have a3:∀args w,(callFunc 104 args).run Tryz.prog w=.ok (.enter 104 args) w:=enters_of Tryz.func104 (by kernel_rfl) rfl;have a4:=@run_makeMap Tryz.prog;obtain⟨h,ay⟩:∃h,w.alloc (Xo #[St m,Xk E es.length R,Xk F x.length X,Xk G p.length Y,U y,St A,Xm B] 46)=h:=⟨_,rfl⟩
 rw[ay]at af D;have a5:=D.lt;obtain⟨ab,ao,ai,al⟩:=zaw (P:=Tryz.prog) (t:=170) Tryz.underlying170 keyOk8 (MapIs.new (K:=K8) (V:=mayV w.heap.size) h) 1 (some 100);obtain⟨ac,ap,aj,am⟩:=zaw (P:=Tryz.prog) (t:=170) Tryz.underlying170 keyOk8 ai 2 (some 102);obtain⟨ad,aq,ak,an⟩:=zaw (P:=Tryz.prog) (t:=170) Tryz.underlying170 keyOk8 aj 3 (some 104);have ag:=((Ext.refl h).alloc (.map #[] 0)).turned al (Qg _);have ah:=ag.turned am (Qg _);have Q:=ah.turned an (Qg _);have d0:=(D.ext Q).cell (j:=0) rfl;have au:=zH (zkw m ad);have ar:=zH ak;have Z:=zH Q;clear al am an ag ah Q ai aj ak;have a6:(Instr.mapUpdate 170 (.map (some h.heap.size)) (.int .u8 1) (.func (.func 100) #[] #[Xl (some ⟨w.heap.size,0,none⟩)])).run Tryz.prog (h.alloc (.map #[] 0))=.ok () ab:=ao;have a7:(Instr.mapUpdate 170 (.map (some h.heap.size)) (.int .u8 2) (.func (.func 102) #[] #[Xl (some ⟨w.heap.size,0,none⟩)])).run Tryz.prog ab=.ok () ac:=ap;have a8:(Instr.mapUpdate 170 (.map (some h.heap.size)) (.int .u8 3) (.func (.func 104) #[] #[Xl (some ⟨w.heap.size,0,none⟩)])).run Tryz.prog ac=.ok () ad:=aq;clear ao ap aq;go_enter Tryz.func50,Tryz.ntmps50;go_wp2_with fail;refine au.out.mono ?_;rintro r l⟨rfl,O⟩;have ae:=(zbi (P:=Tryz.prog) (t:=170) (z:=none) Tryz.underlying170 keyOk8 (ybl w.heap.size) (ar.out.ext O) (zas m)).2;have J:=zH (D.ext (Z.out.trans O));have i:=zH (af.trans (Z.out.trans O));have C:=zH (show ∀W b v,ValAt W b ⟨m,es,x,p,(y,A,B)⟩ v=(if zas m=1 then v=.iface 2 (I (zb7 x))else if zas m=2 then(∃s,v=.iface 24 s/\Own W b 9 1 s (zdo p).length ((zdo p).flatMap strC))else if zas m=3 then v=zkd (y,A,B)else v=.nilIface)from fun _ _ _=>rfl);generalize zas m=kk at *;have n:(Instr.lookup 170 (.map (some h.heap.size)) (U8 kk) true).run Tryz.prog l=.ok (Xn #[mayV w.heap.size (getL none (putL (putL (putL [] 1 (some 100)) 2 (some 102)) 3 (some 104)) kk),Xm (decide (kk∈[1,2,3]))]) l:=ae;clear ae;rcases(show kk=1 ∨ kk=2 ∨ kk=3 ∨ (kk≠1/\kk≠2/\kk≠3) by omega)with h1|h1|h1|⟨h1,h2,h3⟩
 ·subst h1;have M:(Instr.lookup 170 (.map (some h.heap.size)) (U8 1) true).run Tryz.prog l=.ok (Xn #[.func (.func 100) #[] #[Xl (some ⟨w.heap.size,0,none⟩)],Xm true]) l:=n;clear n;have q:=zH (zuo J.out (H.out.ext i.out));go_wp2_with fail;refine q.out.mono ?_;rintro r aa⟨rfl,o⟩;have u:=zH (i.out.trans o);have N:=i.out.size;clear o;go_wp2_with fail;go_ret;exact⟨_,rfl,by rw[C.out];exact rfl,u.out⟩
 ·subst h1;have M:(Instr.lookup 170 (.map (some h.heap.size)) (U8 2) true).run Tryz.prog l=.ok (Xn #[.func (.func 102) #[] #[Xl (some ⟨w.heap.size,0,none⟩)],Xm true]) l:=n;clear n;have q:=zH (zup az J.out (H.out.ext i.out));go_wp2_with fail;refine q.out.mono ?_;rintro r aa⟨s,rfl,a0,o⟩;have u:=zH (i.out.trans o);have N:=i.out.size;clear o;go_wp2_with fail;go_ret;exact⟨_,rfl,by rw[C.out];exact⟨_,rfl,a0.lower N⟩,u.out⟩
 ·subst h1;have M:(Instr.lookup 170 (.map (some h.heap.size)) (U8 3) true).run Tryz.prog l=.ok (Xn #[.func (.func 104) #[] #[Xl (some ⟨w.heap.size,0,none⟩)],Xm true]) l:=n;clear n;have q:=zH (zuq J.out (H.out.ext i.out));go_wp2_with fail;refine q.out.mono ?_;rintro r aa⟨rfl,o⟩;have u:=zH (i.out.trans o);have N:=i.out.size;clear o;go_wp2_with fail;go_ret;exact⟨_,rfl,by rw[C.out];exact rfl,u.out⟩
 have M:(Instr.lookup 170 (.map (some h.heap.size)) (U8 kk) true).run Tryz.prog l=.ok (Xn #[.nilFunc,Xm false]) l:=by
  rw[n];have av:(kk==1)=false:=(by simp;omega);have aw:(kk==2)=false:=(by simp;omega);have ax:(kk==3)=false:=(by simp;omega);simp[getL,putL,Qe,av,aw,ax,h1,h2,h3,mayV]
 clear n;go_wp2_with fail;go_ret;exact⟨_,rfl,by rw[C.out,zN h1,zN h2,zN h3];rfl,i.out⟩
def Did (W w':Xq)(E pr:Nat)(S:Nat->Prop)(e':Entry)(v1:Xr):Prop :=
 ∃u2 u3,RowIs w' E 46 (entL e' v1 u2 u3) []/\EntAt w' (fun b=>S b ∨ W.heap.size<=b) e' v1 u2 u3/\Kept2 W w' E pr
def MvE (E:Nat)(w w':Xq):Prop:=w.heap.size<=w'.heap.size/\∀b,b<w.heap.size->b≠E->w'.heap[b]? = w.heap[b]?
theorem MvE.refl (E:Nat)(w:Xq):MvE E w w:=⟨Qg _,fun _ _ _=>rfl⟩
theorem Ext.mvE {E:Nat}{w w':Xq}(h:Ext w w'):MvE E w w':=⟨h.size,fun b hb _=>h.block b hb⟩
theorem MvE.set (E j:Nat)(w:Xq)(v:Xr):MvE E w (w.setCell ⟨E,j,none⟩ v):=⟨by rw[Qj];exact Qg _,fun b _ hb=>Qb _ _ _ _ hb⟩
theorem Own.mvE {w w':Xq}{base T k n E:Nat}{v:Xr}{xs:List Xr}(h:Own w base T k v n xs)(m:MvE E w w')(j:E<base):Own w' base T k v n xs :=
 h.keep fun b hb i=>m.2 b i (by have:=(h.base_le hb).1;omega)
theorem OwnL.mvE {α:Type}{T:Shape α}{j:Nat}{w w':Xq}{base E:Nat}{v:Xr}{l:List α}(i:OwnL T j w base (fun b=>base<=b) v l)(m:MvE E w w')(n:E<base):OwnL T j w' base (fun b=>base<=b) v l :=
 i.keep (fun b hb h=>m.2 b h (by omega)) fun b hb h=>m.2 b h (by have:=(i.base_le hb).1;omega)
theorem Kept2.refl (w:Xq)(p m:Nat):Kept2 w w p m:=⟨rfl,rfl,rfl,Qg _,fun _ _ _ _=>rfl⟩
theorem Kept2.set1 {W w:Xq}{p m j:Nat}(k:Kept2 W w p m)(v:Xr):Kept2 W (w.setCell ⟨p,j,none⟩ v) p m :=
 ⟨k.os,k.tape,k.output,by rw[Qj];exact k.size,fun b hb h1 h=>(Qb _ _ _ _ h1).trans (k.other b hb h1 h)⟩
theorem Kept2.set2 {W w:Xq}{p m j:Nat}(k:Kept2 W w p m)(v:Xr):Kept2 W (w.setCell ⟨m,j,none⟩ v) p m :=
 ⟨k.os,k.tape,k.output,by rw[Qj];exact k.size,fun b hb h1 h=>(Qb _ _ _ _ h).trans (k.other b hb h1 h)⟩
theorem Ext.kept {W w:Xq}(h:Ext W w)(p m:Nat):Kept2 W w p m:=⟨h.os,h.tape,h.output,h.size,fun j i _ _=>h.block j i⟩
theorem EntAt.kept {W w:Xq}{S:Nat->Prop}{e:Entry}{v1 v2 v3:Xr}{p m:Nat}(j:EntAt W S e v1 v2 v3)(k:Kept2 W w p m)(h:∀b,S b->b≠p/\b≠m):EntAt w S e v1 v2 v3 :=
 ⟨j.seen.keep (by decide) fun b hb i=>k.other b i (h b hb).1 (h b hb).2,j.counts.keep (by decide) fun b hb i=>k.other b i (h b hb).1 (h b hb).2,j.items.keep (by decide) fun b hb i=>k.other b i (h b hb).1 (h b hb).2⟩
theorem zrc {S:Nat->Prop}{W:Xq}{pe q E:Nat}{e:Entry}{v1 v2 v3 z:Xr}{G:Nat}{d1:Str}(n:Int)(am:-9223372036854775808<=n)(an:n<=9223372036854775807)(aj:W.cell? ⟨G,0,none⟩=some (St d1))(ak:e.counts.length<1099511627776)(V:W.cell? ⟨pe,0,none⟩=some (Xl (some ⟨E,0,none⟩)))(Y:RowIs W q 32 [z] [])(K:RowIs W E 46 (entL e v1 v2 v3) [])(t:EntAt W S e v1 v2 v3)(Q:∀b,S b->b≠E/\b≠q)(X:q≠E) :
  Calls Tryz.prog 173 #[I n,Xl (some ⟨pe,0,none⟩),Xl (some ⟨G,0,none⟩),Xl (some ⟨q,0,none⟩)] W fun r w'=>r=Xp (I (addC e.counts d1 n).2)/\Did W w' E q S { e with counts:=(addC e.counts d1 n).1 } v1:=by
 obtain⟨ac,aq,ad,ar,ae,au,rfl,rfl,rfl⟩:=t.fm;have L:=zH t;have ag:=zH Q;clear t Q;have C:=K.lt
 let J1:Xq->Prop:=fun w=>∃u,Own w W.heap.size 54 3 u (addC e.counts d1 n).1.length ((addC e.counts d1 n).1.flatMap zbx)/\RowIs w E 46 (entL e (Xk ac e.seen.length aq) u (Xk ae e.items.length au)) []/\RowIs w q 32 [z] []/\Kept2 W w E q
 go_enter Tryz.func173,Tryz.ntmps173;go_wp2_with fail
 refine zgl [.early (fun v _=>v=Xl (some ⟨E,0,none⟩)),
  .early (fun v _=>v=Xl (some ⟨E,0,none⟩)),
  .early (fun v _=>v=Xl (some ⟨E,0,none⟩)),
  .early (fun v _=>v=Xl (some ⟨E,2,none⟩)),
  .early (fun v _=>v=Xk ad e.counts.length ar),
  .early (fun v _=>v=Xl (some ⟨G,0,none⟩)),
  .early (fun v _=>v=St d1),
  .early (fun v _=>v=I n),
  .early (fun v s=>∃m,v=Xn #[m,I (addC e.counts d1 n).2]/\Own s W.heap.size 54 3 m (addC e.counts d1 n).1.length ((addC e.counts d1 n).1.flatMap zbx)),
  .early (fun v s=>∃m,v=Xn #[m,I (addC e.counts d1 n).2]/\Own s W.heap.size 54 3 m (addC e.counts d1 n).1.length ((addC e.counts d1 n).1.flatMap zbx)),
  .early (fun v s=>Own s W.heap.size 54 3 v (addC e.counts d1 n).1.length ((addC e.counts d1 n).1.flatMap zbx)),
  .late (fun v _=>v=I (addC e.counts d1 n).2),
  .early (fun v _=>v=Xl (some ⟨E,0,none⟩)),
  .early (fun v _=>v=Xl (some ⟨E,2,none⟩)),
  .store] 14 (fun w=>Ext W w) J1 (MvE E) rfl (by kernel_rfl) (by kernel_rfl) ?hR ?hJ ?hstep ?hend
 case hR=>simp only[zM,HF.fact];exact⟨kP,kP,kP,kP,kP,kP,kP,kP,fun v _ _ i y=>by obtain⟨u,J,o⟩:=i;exact⟨u,J,o.mvE y C⟩,fun v _ _ i y=>by obtain⟨u,J,o⟩:=i;exact⟨u,J,o.mvE y C⟩,fun v _ _ i y=>i.mvE y C,kP,kP,kP,kP⟩
 case hJ=>exact(Ext.refl W).drew
 case hstep =>
  simp only[zS,zD,Qf,zd0]
  and_intros
  ·intro x l h f;have i:x 1=Xl (some ⟨pe,0,none⟩):=f.1;have D:=h.cell V;go_wp;exact zai rfl ⟨h,MvE.refl _ _⟩
  ·intro x l h f;have i:x 1=Xl (some ⟨pe,0,none⟩):=f.1;have D:=h.cell V;go_wp;exact zai rfl ⟨h,MvE.refl _ _⟩
  ·intro x l h f;have i:_=_:=f.1;go_wp;exact zai rfl ⟨h,MvE.refl _ _⟩
  ·intro x l h f;have i:_=_:=f.1;go_wp;exact zai rfl ⟨h,MvE.refl _ _⟩
  ·intro x l h f;have i:_=_:=f.1;have D:=(K.ext h).cell (j:=2) rfl;go_wp;exact zai rfl ⟨h,MvE.refl _ _⟩
  ·intro x l h f;have i:x 2=Xl (some ⟨G,0,none⟩):=f.1;go_wp;exact zai rfl ⟨h,MvE.refl _ _⟩
  ·intro x l h f;have i:_=_:=f.1;have D:=h.cell aj;go_wp;exact zai rfl ⟨h,MvE.refl _ _⟩
  ·intro x l h f;have i:x 0=I n:=f.1;go_wp;exact zai rfl ⟨h,MvE.refl _ _⟩
  ·intro x l h f;have h1:_=_:=f.1;have aw:_=_:=f.2.1;have ax:_=_:=f.2.2.1;have ap:=h.size;have af:=zH (zyz d1 n am an (L.out.counts.ext (by decide) h) ak);go_wp;refine af.out.mono ?_;rintro r s⟨m,rfl,o,aa⟩;dsimp only;go_wp;exact zai (v:=Xn #[m,I (addC e.counts d1 n).2]) ⟨m,rfl,o.lower ap⟩ ⟨h.trans aa,aa.mvE⟩
  ·intro x l h f;obtain⟨m,i,o⟩:∃m,x 15=Xn #[m,I (addC e.counts d1 n).2]/\Own l W.heap.size 54 3 m (addC e.counts d1 n).1.length ((addC e.counts d1 n).1.flatMap zbx):=f.1;go_wp;exact zai ⟨m,rfl,o⟩ ⟨h,MvE.refl _ _⟩
  ·intro x l h f;obtain⟨m,i,o⟩:∃m,x 6=Xn #[m,I (addC e.counts d1 n).2]/\Own l W.heap.size 54 3 m (addC e.counts d1 n).1.length ((addC e.counts d1 n).1.flatMap zbx):=f.1;go_wp;exact zai o ⟨h,MvE.refl _ _⟩
  ·intro x l b h f;obtain⟨m,i,o⟩:∃m,x 6=Xn #[m,I (addC e.counts d1 n).2]/\Own l W.heap.size 54 3 m (addC e.counts d1 n).1.length ((addC e.counts d1 n).1.flatMap zbx):=f.1;go_wp;exact zai rfl ⟨h,MvE.refl _ _⟩
  ·intro x l h f;have i:_=_:=f.1;go_wp;exact zai rfl ⟨h,MvE.refl _ _⟩
  ·intro x l h f;have i:_=_:=f.1;go_wp;exact zai rfl ⟨h,MvE.refl _ _⟩
  intro x l h f;have i:_=_:=f.1;have o:Own l W.heap.size 54 3 (x 16) (addC e.counts d1 n).1.length ((addC e.counts d1 n).1.flatMap zbx):=f.2.1;obtain⟨A,c,t,-,-⟩:=o.form;have B:=K.ext h;have D:=B.cell (j:=2) rfl;have az:=B.frozen 2;rw[t]at o;have ao:J1 (l.setCell ⟨E,2,none⟩ (Xk A (addC e.counts d1 n).1.length c)):=⟨_,o.mvE (MvE.set _ _ _ _) C,B.set (j:=2) (by simp) _,(Y.ext h).other X.symm _,(h.kept E q).set1 _⟩
  have al:=MvE.set E 2 l (Xk A (addC e.counts d1 n).1.length c);generalize ay:l.setCell ⟨E,2,none⟩ (Xk A (addC e.counts d1 n).1.length c)=s at *;clear h o B;go_wp;exact zai (v:=Qa) trivial ⟨ao,al⟩
 case hend =>
  intro x l h f;obtain⟨u,o,P,F,hk⟩:=h;have ai:x 17=I (addC e.counts d1 n).2:=f.2.2.2.2.2.2.2.2.2.2.2.1;simp only[zS,zD,zU,Qf,Qh,zav,Act.put,ai];have a1:=F.frozen 0;have a0:=F.cell (j:=0) rfl;clear f;have H:=zH (hk.set2 (j:=0) (I (addC e.counts d1 n).2));have M:=zH (P.other (p:=⟨q,0,none⟩) X (I (addC e.counts d1 n).2));have N:=zH (o.keep (w':=l.setCell ⟨q,0,none⟩ (I (addC e.counts d1 n).2)) fun b hb _=>Qb _ _ _ _ (fun ah=>by have:=(o.base_le hb).1;have:=Y.lt;have av:b=q:=ah;omega));have R:=(F.set (j:=0) (by simp) (I (addC e.counts d1 n).2)).cell (j:=0) rfl;obtain⟨ab,Z⟩:∃ab,l.setCell ⟨q,0,none⟩ (I (addC e.counts d1 n).2)=ab:=⟨_,rfl⟩
  rw[Z]at H M N R;obtain⟨err,U⟩:∃err:Nat,(addC e.counts d1 n).2=err:=⟨_,rfl⟩
  rw[U]at Z R ⊢;clear F o P hk;go_wp;go_wp2_with fail;go_ret;have O:=L.out.kept H.out ag.out;exact⟨by rw[U];rfl,u,_,M.out,⟨O.seen.mono (by decide) fun b _ i=>.inl i,(OwnL.flat_iff (S:=fun b=>S b ∨ W.heap.size<=b).2 N.out).sl (by decide) (fun _ _ i=>i) (fun b i _=>.inr i),O.items.mono (by decide) fun b _ i=>.inl i⟩,H.out⟩
theorem zrd {S:Nat->Prop}{W:Xq}{pe o E:Nat}{e:Entry}{v1 v2 v3 z:Xr}(l:Str)(i:Bool)(M:W.cell? ⟨pe,0,none⟩=some (Xl (some ⟨E,0,none⟩)))(ai:RowIs W o 32 [z] [])(s:RowIs W E 46 (entL e v1 v2 v3) [])(A:EntAt W S e v1 v2 v3)(J:∀b,S b->b≠E/\b≠o)(t:o≠E) :
  Calls Tryz.prog 175 #[St l,Xm i,Xl (some ⟨pe,0,none⟩),Xl (some ⟨o,0,none⟩)] W fun r w'=>r=Xp (I (za5 e.cell l i).2)/\Did W w' E o S { e with cell:=(za5 e.cell l i).1 } v1:=by
 obtain⟨Q,aj,R,ak,V,al,rfl,rfl,rfl⟩:=A.fm;have X:=zH A;have Z:=zH J;clear A J;have ao:=s.lt
 let J1:Xq->Prop:=fun w=>RowIs w E 46 (entL { e with cell:=(za5 e.cell l i).1 } (Xk Q e.seen.length aj) (Xk R e.counts.length ak) (Xk V e.items.length al)) []/\RowIs w o 32 [z] []/\Kept2 W w E o
 go_enter Tryz.func175,Tryz.ntmps175;go_wp2_with fail
 refine zgl [.early (fun v _=>v=Xl (some ⟨E,0,none⟩)),
  .early (fun v _=>v=Xl (some ⟨E,0,none⟩)),
  .early (fun v _=>v=Xl (some ⟨E,0,none⟩)),
  .early (fun v _=>v=Xl (some ⟨E,4,none⟩)),
  .early (fun v _=>v=zdc e.cell),
  .early (fun v _=>v=St l),
  .early (fun v _=>v=Xm i),
  .early (fun v _=>v=Xn #[zdc (za5 e.cell l i).1,I (za5 e.cell l i).2]),
  .early (fun v _=>v=Xn #[zdc (za5 e.cell l i).1,I (za5 e.cell l i).2]),
  .early (fun v _=>v=zdc (za5 e.cell l i).1),
  .late (fun v _=>v=I (za5 e.cell l i).2),
  .early (fun v _=>v=Xl (some ⟨E,0,none⟩)),
  .early (fun v _=>v=Xl (some ⟨E,4,none⟩)),
  .store] 13 (fun w=>Ext W w) J1 (MvE E) rfl (by kernel_rfl) (by kernel_rfl) ?hR ?hJ ?hstep ?hend
 case hR=>simp only[zM,HF.fact];exact⟨kP,kP,kP,kP,kP,kP,kP,kP,kP,kP,kP,kP,kP,kP⟩
 case hJ=>exact(Ext.refl W).drew
 case hstep =>
  simp only[zS,zD,Qf,zd0]
  and_intros
  ·intro x m h f;have n:x 2=Xl (some ⟨pe,0,none⟩):=f.1;have ac:=h.cell M;go_wp;exact zai rfl ⟨h,MvE.refl _ _⟩
  ·intro x m h f;have n:x 2=Xl (some ⟨pe,0,none⟩):=f.1;have ac:=h.cell M;go_wp;exact zai rfl ⟨h,MvE.refl _ _⟩
  ·intro x m h f;have n:_=_:=f.1;go_wp;exact zai rfl ⟨h,MvE.refl _ _⟩
  ·intro x m h f;have n:_=_:=f.1;go_wp;exact zai rfl ⟨h,MvE.refl _ _⟩
  ·intro x m h f;have n:_=_:=f.1;have ad:=(s.ext h).cell (j:=4) rfl;have ae:=(s.ext h).cell (j:=5) rfl;have af:=(s.ext h).cell (j:=6) rfl;go_wp;exact zai rfl ⟨h,MvE.refl _ _⟩
  ·intro x m h f;have n:x 0=St l:=f.1;go_wp;exact zai rfl ⟨h,MvE.refl _ _⟩
  ·intro x m h f;have n:x 1=Xm i:=f.1;go_wp;exact zai rfl ⟨h,MvE.refl _ _⟩
  ·intro x m h f;have h1:_=_:=f.1;have ab:_=_:=f.2.1;have an:_=_:=f.2.2.1;have Y:=zH (zul e.cell l i m);go_wp;refine Y.out.mono ?_;rintro r am⟨rfl,O⟩;dsimp only;go_wp;exact zai rfl ⟨h.trans O,O.mvE⟩
  ·intro x m h f;have n:_=_:=f.1;go_wp;exact zai rfl ⟨h,MvE.refl _ _⟩
  ·intro x m h f;have n:_=_:=f.1;go_wp;exact zai rfl ⟨h,MvE.refl _ _⟩
  ·intro x m b h f;have n:_=_:=f.1;go_wp;exact zai rfl ⟨h,MvE.refl _ _⟩
  ·intro x m h f;have n:_=_:=f.1;go_wp;exact zai rfl ⟨h,MvE.refl _ _⟩
  ·intro x m h f;have n:_=_:=f.1;go_wp;exact zai rfl ⟨h,MvE.refl _ _⟩
  intro x m h f;have n:_=_:=f.1;have ab:_=_:=f.2.1;have q:=s.ext h;have ad:=q.cell (j:=4) rfl;have ae:=q.cell (j:=5) rfl;have af:=q.cell (j:=6) rfl;have ap:=q.frozen 4;have aq:=q.frozen 5;have ar:=q.frozen 6;have F:=q.set (j:=4) (by simp) (U (za5 e.cell l i).1.1);have G:=F.set (j:=5) (by simp) (St (za5 e.cell l i).1.2.1);have H:=G.set (j:=6) (by simp) (Xm (za5 e.cell l i).1.2.2);have ah:J1 (((m.setCell ⟨E,4,none⟩ (U (za5 e.cell l i).1.1)).setCell ⟨E,5,none⟩ (St (za5 e.cell l i).1.2.1)).setCell ⟨E,6,none⟩ (Xm (za5 e.cell l i).1.2.2)):=⟨H,(((ai.ext h).other t.symm _).other t.symm _).other t.symm _,(((h.kept E o).set1 _).set1 _).set1 _⟩
  have ag:MvE E m (((m.setCell ⟨E,4,none⟩ (U (za5 e.cell l i).1.1)).setCell ⟨E,5,none⟩ (St (za5 e.cell l i).1.2.1)).setCell ⟨E,6,none⟩ (Xm (za5 e.cell l i).1.2.2)):=⟨by simp only[Qj];exact Qg _,fun b _ hb=>((Qb _ _ _ _ hb).trans (Qb _ _ _ _ hb)).trans (Qb _ _ _ _ hb)⟩
  clear F G H q h;go_wp;exact zai (v:=Qa) trivial ⟨ah,ag⟩
 case hend =>
  intro x m h f;obtain⟨D,u,hk⟩:=h;have aa:x 17=I (za5 e.cell l i).2:=f.2.2.2.2.2.2.2.2.2.2.1;simp only[zS,zD,zU,Qf,Qh,zav,Act.put,aa];have av:=u.frozen 0;have au:=u.cell (j:=0) rfl;clear f;have y:=zH (hk.set2 (j:=0) (I (za5 e.cell l i).2));have C:=zH (D.other (p:=⟨o,0,none⟩) t (I (za5 e.cell l i).2));have K:=(u.set (j:=0) (by simp) (I (za5 e.cell l i).2)).cell (j:=0) rfl;obtain⟨P,N⟩:∃P,m.setCell ⟨o,0,none⟩ (I (za5 e.cell l i).2)=P:=⟨_,rfl⟩
  rw[N]at y C K;obtain⟨err,L⟩:∃err:Nat,(za5 e.cell l i).2=err:=⟨_,rfl⟩
  rw[L]at N K ⊢;clear u D hk;go_wp;go_wp2_with fail;go_ret;have B:=X.out.kept y.out Z.out;exact⟨by rw[L];rfl,_,_,C.out,⟨B.seen.mono (by decide) fun b _ n=>.inl n,B.counts.mono (by decide) fun b _ n=>.inl n,B.items.mono (by decide) fun b _ n=>.inl n⟩,y.out⟩
theorem zzm {S:Nat->Prop}{W:Xq}{pe o E:Nat}{e:Entry}{v1 v2 v3 z:Xr}{G F:Nat}{tx:Str}{d1:Dot}(ap:W.cell? ⟨G,3,none⟩=some (St tx))(al:W.cell? ⟨F,0,none⟩=some (St d1.1))(am:W.cell? ⟨F,1,none⟩=some (U d1.2))(an:(zab e.items).length<1099511627776)(Z:W.cell? ⟨pe,0,none⟩=some (Xl (some ⟨E,0,none⟩)))(M:RowIs W o 32 [z] [])(L:RowIs W E 46 (entL e v1 v2 v3) [])(s:EntAt W S e v1 v2 v3)(V:∀b,S b->b≠E/\b≠o)(aa:o≠E) :
  Calls Tryz.prog 179 #[Xl (some ⟨pe,0,none⟩),Xl (some ⟨G,0,none⟩),Xl (some ⟨F,0,none⟩),Xl (some ⟨o,0,none⟩)] W fun r w'=>r=Xp (I (putB e.items tx d1).2)/\Did W w' E o S { e with items:=(putB e.items tx d1).1 } v1:=by
 obtain⟨af,ar,ag,au,ah,av,rfl,rfl,rfl⟩:=s.fm;have N:=zH s;have aj:=zH V;clear s V;have C:=L.lt
 let J1:Xq->Prop:=fun w=>∃u,OwnL itemT 57 w W.heap.size (fun b=>W.heap.size<=b) u (putB e.items tx d1).1/\RowIs w E 46 (entL e (Xk af e.seen.length ar) (Xk ag e.counts.length au) u) []/\RowIs w o 32 [z] []/\Kept2 W w E o
 go_enter Tryz.func179,Tryz.ntmps179;go_wp2_with fail
 refine zgl [.early (fun v _=>v=Xl (some ⟨E,0,none⟩)),
  .early (fun v _=>v=Xl (some ⟨E,0,none⟩)),
  .early (fun v _=>v=Xl (some ⟨E,0,none⟩)),
  .early (fun v _=>v=Xl (some ⟨E,3,none⟩)),
  .early (fun v _=>v=Xk ah e.items.length av),
  .early (fun v _=>v=Xl (some ⟨G,3,none⟩)),
  .early (fun v _=>v=St tx),
  .early (fun v _=>v=dotV d1),
  .early (fun v q=>∃m,v=Xn #[m,I (putB e.items tx d1).2]/\OwnL itemT 57 q W.heap.size (fun b=>W.heap.size<=b) m (putB e.items tx d1).1),
  .early (fun v q=>∃m,v=Xn #[m,I (putB e.items tx d1).2]/\OwnL itemT 57 q W.heap.size (fun b=>W.heap.size<=b) m (putB e.items tx d1).1),
  .early (fun v q=>OwnL itemT 57 q W.heap.size (fun b=>W.heap.size<=b) v (putB e.items tx d1).1),
  .late (fun v _=>v=I (putB e.items tx d1).2),
  .early (fun v _=>v=Xl (some ⟨E,0,none⟩)),
  .early (fun v _=>v=Xl (some ⟨E,3,none⟩)),
  .store] 14 (fun w=>Ext W w) J1 (MvE E) rfl (by kernel_rfl) (by kernel_rfl) ?hR ?hJ ?hstep ?hend
 case hR=>simp only[zM,HF.fact];exact⟨kP,kP,kP,kP,kP,kP,kP,kP,fun v _ _ i y=>by obtain⟨u,J,n⟩:=i;exact⟨u,J,n.mvE y C⟩,fun v _ _ i y=>by obtain⟨u,J,n⟩:=i;exact⟨u,J,n.mvE y C⟩,fun v _ _ i y=>i.mvE y C,kP,kP,kP,kP⟩
 case hJ=>exact(Ext.refl W).drew
 case hstep =>
  simp only[zS,zD,Qf,zd0]
  and_intros
  ·intro x l h f;have i:x 0=Xl (some ⟨pe,0,none⟩):=f.1;have t:=h.cell Z;go_wp;exact zai rfl ⟨h,MvE.refl _ _⟩
  ·intro x l h f;have i:x 0=Xl (some ⟨pe,0,none⟩):=f.1;have t:=h.cell Z;go_wp;exact zai rfl ⟨h,MvE.refl _ _⟩
  ·intro x l h f;have i:_=_:=f.1;go_wp;exact zai rfl ⟨h,MvE.refl _ _⟩
  ·intro x l h f;have i:_=_:=f.1;go_wp;exact zai rfl ⟨h,MvE.refl _ _⟩
  ·intro x l h f;have i:_=_:=f.1;have t:=(L.ext h).cell (j:=3) rfl;go_wp;exact zai rfl ⟨h,MvE.refl _ _⟩
  ·intro x l h f;have i:x 1=Xl (some ⟨G,0,none⟩):=f.1;go_wp;exact zai rfl ⟨h,MvE.refl _ _⟩
  ·intro x l h f;have i:_=_:=f.1;have t:=h.cell ap;go_wp;exact zai rfl ⟨h,MvE.refl _ _⟩
  ·intro x l h f;have i:x 2=Xl (some ⟨F,0,none⟩):=f.1;have t:=h.cell al;have a0:=h.cell am;go_wp;exact zai rfl ⟨h,MvE.refl _ _⟩
  ·intro x l h f;have h1:_=_:=f.1;have ax:_=_:=f.2.1;have ay:_=_:=f.2.2.1;have ab:=h.size;have ai:=zH (zzc tx d1 (N.out.items.ext (by decide) h) an);go_wp;refine ai.out.mono ?_;rintro r q⟨m,rfl,n,ad⟩;dsimp only;go_wp;exact zai (v:=Xn #[m,I (putB e.items tx d1).2]) ⟨m,rfl,(n.lower ab).mono fun b _ i=>Qc ab i⟩ ⟨h.trans ad,ad.mvE⟩
  ·intro x l h f;obtain⟨m,i,n⟩:∃m,x 14=Xn #[m,I (putB e.items tx d1).2]/\OwnL itemT 57 l W.heap.size (fun b=>W.heap.size<=b) m (putB e.items tx d1).1:=f.1;go_wp;exact zai ⟨m,rfl,n⟩ ⟨h,MvE.refl _ _⟩
  ·intro x l h f;obtain⟨m,i,n⟩:∃m,x 5=Xn #[m,I (putB e.items tx d1).2]/\OwnL itemT 57 l W.heap.size (fun b=>W.heap.size<=b) m (putB e.items tx d1).1:=f.1;go_wp;exact zai n ⟨h,MvE.refl _ _⟩
  ·intro x l b h f;obtain⟨m,i,n⟩:∃m,x 5=Xn #[m,I (putB e.items tx d1).2]/\OwnL itemT 57 l W.heap.size (fun b=>W.heap.size<=b) m (putB e.items tx d1).1:=f.1;go_wp;exact zai rfl ⟨h,MvE.refl _ _⟩
  ·intro x l h f;have i:_=_:=f.1;go_wp;exact zai rfl ⟨h,MvE.refl _ _⟩
  ·intro x l h f;have i:_=_:=f.1;go_wp;exact zai rfl ⟨h,MvE.refl _ _⟩
  intro x l h f;have i:_=_:=f.1;have n:OwnL itemT 57 l W.heap.size (fun b=>W.heap.size<=b) (x 15) (putB e.items tx d1).1:=f.2.1;obtain⟨A,c,s,-,-⟩:=n.form;have B:=L.ext h;have t:=B.cell (j:=3) rfl;have a1:=B.frozen 3;rw[s]at n;have aq:J1 (l.setCell ⟨E,3,none⟩ (Xk A (putB e.items tx d1).1.length c)):=⟨_,n.mvE (MvE.set _ _ _ _) C,B.set (j:=3) (by simp) _,(M.ext h).other aa.symm _,(h.kept E o).set1 _⟩
  have ao:=MvE.set E 3 l (Xk A (putB e.items tx d1).1.length c);generalize az:l.setCell ⟨E,3,none⟩ (Xk A (putB e.items tx d1).1.length c)=q at *;clear h n B;go_wp;exact zai (v:=Qa) trivial ⟨aq,ao⟩
 case hend =>
  intro x l h f;obtain⟨u,n,R,D,hk⟩:=h;have ak:x 16=I (putB e.items tx d1).2:=f.2.2.2.2.2.2.2.2.2.2.2.1;simp only[zS,zD,zU,Qf,Qh,zav,Act.put,ak];have a3:=D.frozen 0;have a2:=D.cell (j:=0) rfl;clear f;have H:=zH (hk.set2 (j:=0) (I (putB e.items tx d1).2));have O:=zH (R.other (p:=⟨o,0,none⟩) aa (I (putB e.items tx d1).2));have P:=zH ((n.mono (S':=fun b=>W.heap.size<=b/\b≠o) (fun b _ i=>⟨i,by have:=M.lt;omega⟩)).keep (w':=l.setCell ⟨o,0,none⟩ (I (putB e.items tx d1).2)) (fun b hb _=>Qb _ _ _ _ (fun K=>hb.2 K)) fun b hb _=>Qb _ _ _ _ (fun K=>by have:=(n.base_le hb).1;have:=M.lt;have aw:b=o:=K;omega));clear n;have X:=(D.set (j:=0) (by simp) (I (putB e.items tx d1).2)).cell (j:=0) rfl;obtain⟨ae,ac⟩:∃ae,l.setCell ⟨o,0,none⟩ (I (putB e.items tx d1).2)=ae:=⟨_,rfl⟩
  rw[ac]at H O P X;obtain⟨err,Y⟩:∃err:Nat,(putB e.items tx d1).2=err:=⟨_,rfl⟩
  rw[Y]at ac X ⊢;clear D R hk;go_wp;go_wp2_with fail;go_ret;have Q:=N.out.kept H.out aj.out;exact⟨by rw[Y];rfl,_,u,O.out,⟨Q.seen.mono (by decide) fun b _ i=>.inl i,Q.counts.mono (by decide) fun b _ i=>.inl i,P.out.sl (by decide) (fun _ _ i=>.inr i.1) (fun b i _=>.inr i)⟩,H.out⟩
theorem Did.mono {W m w':Xq}{E p:Nat}{S:Nat->Prop}{n:Entry}{v1:Xr}(l:Did m w' E p S n v1)(h:Ext W m):Did W w' E p S n v1:=by
 obtain⟨r,s,h1,q,i⟩:=l;exact⟨r,s,h1,q.mono (fun b _ hb=>hb.elim .inl fun l=>.inr (Qc h.size l)),⟨i.os.trans h.os,i.tape.trans h.tape,i.output.trans h.output,Qc h.size i.size,fun j o a b=>(i.other j (Nat.lt_of_lt_of_le o h.size) a b).trans (h.block j o)⟩⟩
theorem zzn {S:Nat->Prop}{W:Xq}{v y pe x h E:Nat}{e:Entry}{v1 v2 v3 z:Xr}{d1:Str}(n:Int)(p:-9223372036854775808<=n)(q:n<=9223372036854775807)(F:W.cell? ⟨v,0,none⟩=some (.func (.func 173) #[] #[Xl (some ⟨pe,0,none⟩),Xl (some ⟨x,0,none⟩),Xl (some ⟨h,0,none⟩)]))(G:W.cell? ⟨y,2,none⟩=some (I n))(m:W.cell? ⟨x,0,none⟩=some (St d1))(o:e.counts.length<1099511627776)(s:W.cell? ⟨pe,0,none⟩=some (Xl (some ⟨E,0,none⟩)))(u:RowIs W h 32 [z] [])(j:RowIs W E 46 (entL e v1 v2 v3) [])(i:EntAt W S e v1 v2 v3)(l:∀b,S b->b≠E/\b≠h)(t:h≠E) :
  Calls Tryz.prog 177 #[Xl (some ⟨v,0,none⟩),Xl (some ⟨y,0,none⟩)] W fun r w'=>r=Xp (I (addC e.counts d1 n).2)/\Did W w' E h S { e with counts:=(addC e.counts d1 n).1 } v1:=by
 have D:∀args w,(callFunc 173 args).run Tryz.prog w=.ok (.enter 173 args) w:=enters_of Tryz.func173 (by kernel_rfl) rfl;have A:=zH (zrc n p q m o s u j i l t);clear m o s u j i l t p q;go_enter Tryz.func177,Tryz.ntmps177;go_wp2_with fail;refine A.out.mono ?_;rintro r C⟨rfl,B⟩;go_wp2_with fail;go_ret;exact⟨rfl,B⟩
theorem eqI {a b:Int}(h:a=b):(a==b)=true:=by simpa using h
theorem neI {a b:Int}(h:a≠b):(a==b)=false:=by simpa using h
def delC (l:List zag)(s:Str):List zag×Nat:=if zb7 l = -9223372036854775808 then(l,9)else addC l s (-zb7 l)
theorem zzo {S:Nat->Prop}{W:Xq}{G pe H p E:Nat}{e:Entry}{v1 v2 v3 z:Xr}{d1:Str}(P:W.cell? ⟨G,0,none⟩=some (.func (.func 173) #[] #[Xl (some ⟨pe,0,none⟩),Xl (some ⟨H,0,none⟩),Xl (some ⟨p,0,none⟩)]))(A:W.cell? ⟨H,0,none⟩=some (St d1))(B:e.counts.length<1099511627776)(Q:W.cell? ⟨pe,0,none⟩=some (Xl (some ⟨E,0,none⟩)))(D:RowIs W p 32 [z] [])(q:RowIs W E 46 (entL e v1 v2 v3) [])(m:EntAt W S e v1 v2 v3)(x:∀b,S b->b≠E/\b≠p)(C:p≠E) :
  Calls Tryz.prog 178 #[Xl (some ⟨pe,0,none⟩),Xl (some ⟨G,0,none⟩)] W fun r w'=>r=Xp (I (delC e.counts d1).2)/\Did W w' E p S { e with counts:=(delC e.counts d1).1 } v1:=by
 have V:∀args w,(callFunc 173 args).run Tryz.prog w=.ok (.enter 173 args) w:=enters_of Tryz.func173 (by kernel_rfl) rfl;have y:=zo9 (sumL (zax e.counts) (zaz e.counts));have K:=zH (zi6 m.counts);have Z:=q.cell (j:=2) rfl;obtain⟨R,aa,rfl,-,-⟩:=m.counts.form;have s:=zH (show delC e.counts d1=if zb7 e.counts = -9223372036854775808 then(e.counts,9)else addC e.counts d1 (-zb7 e.counts)from rfl);have u:=zH (fun(t:Xq) (n:Int) (a:-9223372036854775808<=n) (b:n<=9223372036854775807) (o:Ext W t)=>zrc n a b (o.cell A) B (o.cell Q) (D.ext o) (q.ext o) (m.ext o) x C);have M:=zH q;have J:=zH m;change -9223372036854775808<=zb7 e.counts/\zb7 e.counts<=9223372036854775807 at y;clear A B D q m x C;go_enter Tryz.func178,Tryz.ntmps178;go_wp2_with fail;refine K.out.mono ?_;rintro r t⟨rfl,i⟩;obtain⟨v,F⟩:∃v,zb7 e.counts=v:=⟨_,rfl⟩
 rw[F]at y s;rw[F];have X:=i.cell P
 by_cases h:v = -9223372036854775808
 ·have l:=zH (show delC e.counts d1=(e.counts,9) by rw[s.out,zP h]);have hk:=eqI h;clear h;go_wp2_with fail;go_ret;exact⟨by rw[l.out];rfl,by rw[l.out];exact⟨_,_,M.out.ext i,(J.out.ext i).mono fun b _ h=>.inl h,i.kept _ _⟩⟩
 have l:=zH (show delC e.counts d1=addC e.counts d1 (-v) by rw[s.out,zN h]);have hk:=neI h;have Y:IntKind.i64.wrap (-v) = -v:=by rw[IntKind.wrap_i64];omega
 have L:=zH (u.out t (-v) (by omega) (by omega) i);have N:=zH i;clear h u i;go_wp2_with fail;refine L.out.mono ?_;rintro r U⟨rfl,O⟩;go_wp2_with fail;go_ret;exact⟨by rw[l.out];rfl,by rw[l.out];exact O.mono N.out⟩
theorem zzp {S:Nat->Prop}{W:Xq}{pe m E:Nat}{e:Entry}{v1 v2 v3:Xr}(v:W.cell? ⟨pe,0,none⟩=some (Xl (some ⟨E,0,none⟩)))(h:RowIs W E 46 (entL e v1 v2 v3) [])(l:EntAt W S e v1 v2 v3)(p:∀b,S b->b≠E/\b≠m) :
  Calls Tryz.prog 183 #[Xl (some ⟨pe,0,none⟩)] W fun r w'=>r=Xp (I 0)/\Did W w' E m S { e with items:=[] } v1:=by
 obtain⟨s,x,rfl,-,-⟩:=l.items.form;have t:=h.cell (j:=3) rfl;have u:=h.frozen 3;have o:=zH ((Kept2.refl W E m).set1 (j:=3) (Xk none 0 0));have q:=zH (h.set (j:=3) (by simp) (Xk none 0 0));have n:=zH (l.kept o.out p);clear h l p;go_enter Tryz.func183,Tryz.ntmps183;go_wp2_with fail;go_ret;exact⟨rfl,_,_,q.out,⟨n.out.seen.mono (by decide) fun b _ i=>.inl i,n.out.counts.mono (by decide) fun b _ i=>.inl i,Sl.nil _ _ (by decide)⟩,o.out⟩
theorem zzq {S:Nat->Prop}{W:Xq}{p q pe h E:Nat}{e:Entry}{v1 v2 v3 z:Xr}{tx:Str}(x:W.cell? ⟨p,0,none⟩=some (.func (.func 175) #[] #[Xl (some ⟨pe,0,none⟩),Xl (some ⟨h,0,none⟩)]))(y:W.cell? ⟨q,3,none⟩=some (St tx))(m:W.cell? ⟨pe,0,none⟩=some (Xl (some ⟨E,0,none⟩)))(o:RowIs W h 32 [z] [])(j:RowIs W E 46 (entL e v1 v2 v3) [])(i:EntAt W S e v1 v2 v3)(l:∀b,S b->b≠E/\b≠h)(n:h≠E) :
  Calls Tryz.prog 184 #[Xl (some ⟨p,0,none⟩),Xl (some ⟨q,0,none⟩)] W fun r w'=>r=Xp (I (za5 e.cell tx false).2)/\Did W w' E h S { e with cell:=(za5 e.cell tx false).1 } v1:=by
 have v:∀args w,(callFunc 175 args).run Tryz.prog w=.ok (.enter 175 args) w:=enters_of Tryz.func175 (by kernel_rfl) rfl;have s:=zH (zrd tx false m o j i l n);clear m o j i l n;go_enter Tryz.func184,Tryz.ntmps184;go_wp2_with fail;refine s.out.mono ?_;rintro r u⟨rfl,t⟩;go_wp2_with fail;go_ret;exact⟨rfl,t⟩
theorem zzr {S:Nat->Prop}{W:Xq}{p pe h E:Nat}{e:Entry}{v1 v2 v3 z:Xr}(v:W.cell? ⟨p,0,none⟩=some (.func (.func 175) #[] #[Xl (some ⟨pe,0,none⟩),Xl (some ⟨h,0,none⟩)]))(m:W.cell? ⟨pe,0,none⟩=some (Xl (some ⟨E,0,none⟩)))(o:RowIs W h 32 [z] [])(j:RowIs W E 46 (entL e v1 v2 v3) [])(i:EntAt W S e v1 v2 v3)(l:∀b,S b->b≠E/\b≠h)(n:h≠E) :
  Calls Tryz.prog 185 #[Xl (some ⟨p,0,none⟩)] W fun r w'=>r=Xp (I (za5 e.cell [] true).2)/\Did W w' E h S { e with cell:=(za5 e.cell [] true).1 } v1:=by
 have u:∀args w,(callFunc 175 args).run Tryz.prog w=.ok (.enter 175 args) w:=enters_of Tryz.func175 (by kernel_rfl) rfl;have q:=zH (zrd [] true m o j i l n);clear m o j i l n;go_enter Tryz.func185,Tryz.ntmps185;go_wp2_with fail;refine q.out.mono ?_;rintro r t⟨rfl,s⟩;go_wp2_with fail;go_ret;exact⟨rfl,s⟩
theorem zzs {S:Nat->Prop}{W:Xq}{p pe t E:Nat}{e:Entry}{v1 v2 v3:Xr}{tx:Str}(P:W.cell? ⟨p,3,none⟩=some (St tx))(O:(zab e.items).length<=1099511627776)(D:W.cell? ⟨pe,0,none⟩=some (Xl (some ⟨E,0,none⟩)))(s:RowIs W E 46 (entL e v1 v2 v3) [])(l:EntAt W S e v1 v2 v3)(C:∀b,S b->b≠E/\b≠t) :
  Calls Tryz.prog 181 #[Xl (some ⟨pe,0,none⟩),Xl (some ⟨p,0,none⟩)] W fun r w'=>r=Xp (I 0)/\Did W w' E t S { e with items:=zf2 e.items tx } v1:=by
 obtain⟨V,aa,X,ab,G,R,rfl,rfl,rfl⟩:=l.fm;have u:=zH l;have L:=zH C;have N:=s.lt;clear l C;go_enter Tryz.func181,Tryz.ntmps181;go_wp2_with fail
 refine zat [fun v _=>v=Xl (some ⟨E,0,none⟩),fun v _=>v=Xl (some ⟨E,0,none⟩),fun v _=>v=Xl (some ⟨E,0,none⟩),fun v _=>v=Xl (some ⟨E,3,none⟩),fun v _=>v=Xk G e.items.length R,fun v _=>v=Xl (some ⟨p,3,none⟩),fun v _=>v=St tx,fun v z=>OwnL itemT 57 z W.heap.size (fun b=>W.heap.size<=b) v (zf2 e.items tx),fun v _=>v=Xl (some ⟨E,0,none⟩),fun v _=>v=Xl (some ⟨E,3,none⟩)] rfl (by kernel_rfl) ?hR ?hstep ?hend
 case hR=>simp only[zM];exact⟨kP,kP,kP,kP,kP,kP,kP,fun v _ _ h i=>h.ext i,kP,kP⟩
 case hstep =>
  simp only[zS,zD,Qf,zbj]
  and_intros<;>intro x q i f
  ·have h:x 0=Xl (some ⟨pe,0,none⟩):=f.1;have o:=i.cell D;go_wp;exact sQ
  ·have h:x 0=Xl (some ⟨pe,0,none⟩):=f.1;have o:=i.cell D;go_wp;exact sQ
  iterate 2 · have h0:_=_:=f.1;go_wp;exact sQ
  ·have h:_=_:=f.1;have o:=(s.ext i).cell (j:=3) rfl;go_wp;exact sQ
  ·have h:x 1=Xl (some ⟨p,0,none⟩):=f.1;go_wp;exact sQ
  ·have h:_=_:=f.1;have o:=i.cell P;go_wp;exact sQ
  ·have h1:_=_:=f.1;have Y:_=_:=f.2.1;have F:=i.size;have H:=zH (zzb tx (u.out.items.ext (by decide) i) O);go_wp;refine H.out.mono ?_;rintro r z⟨U,rfl,m,Q⟩;dsimp only;go_wp;exact zaa (v:=U) ((m.lower F).mono fun b _ h=>Qc F h) Q
  iterate 2 · have h0:_=_:=f.1;go_wp;exact sQ
 case hend=>intro x q i f;have M:x 12=Xl (some ⟨E,3,none⟩):=f.2.2.2.2.2.2.2.2.2.1;have m:OwnL itemT 57 q W.heap.size (fun b=>W.heap.size<=b) (x 10) (zf2 e.items tx):=f.2.2.2.2.2.2.2.1;obtain⟨A,c,l,-,-⟩:=m.form;simp only[zS,zD,zU,Qf,Qh,zav,Act.put,M,l];rw[l]at m;have n:=s.ext i;have o:=n.cell (j:=3) rfl;have Z:=n.frozen 3;have J:=zH (n.set (j:=3) (by simp) (Xk A (zf2 e.items tx).length c));have y:=zH ((i.kept E t).set1 (j:=3) (Xk A (zf2 e.items tx).length c));have K:=zH (m.mvE (MvE.set E 3 q (Xk A (zf2 e.items tx).length c)) N);clear f m n;go_wp;go_wp2_with fail;go_ret;have B:=u.out.kept y.out L.out;exact⟨rfl,_,_,J.out,⟨B.seen.mono (by decide) fun b _ h=>.inl h,B.counts.mono (by decide) fun b _ h=>.inl h,K.out.sl (by decide) (fun b _ h=>.inr h) (fun b h _=>.inr h)⟩,y.out⟩
end
section
def SortedC (l:List zag):Prop:=l.Pairwise fun a b=>ltS a.1 b.1=true
def GoodC (l:List zag):Prop:=SortedC l/\∀c∈l,¬(c.2.1=0/\c.2.2=0)
theorem zlu:∀(l:List zag) (o:Option Str),zdi o l=true↔GoodC l/\∀s,o=some s->∀c∈l,ltS s c.1=true
 | [],o=>by simp[zdi,GoodC,SortedC]
 | c::r,o=>by
  have m:=zlu r (some c.1);unfold zdi;rw[Qi,Qi,m];have h0:((!(c.2.1==0&&c.2.2==0))=true)↔¬(c.2.1=0/\c.2.2=0):=by simp only[Bool.not_eq_true',Bool.and_eq_false_iff,beq_eq_false_iff_ne];omega
  rw[h0]
  constructor
  ·rintro⟨⟨h1,h2⟩,⟨h3,h4⟩,h5⟩;have j:=h5 c.1 rfl;refine⟨⟨Qk.2 ⟨j,h3⟩,fun x h=>?_⟩,fun s i x h=>?_⟩
   ·rcases Qd.1 h with rfl|h
    ·exact h1
    exact h4 x h
   subst i;rcases Qd.1 h with rfl|h
   ·exact h2
   exact zay h2 (j x h)
  rintro⟨⟨h1,h2⟩,h3⟩;refine⟨⟨h2 c (by simp),?_⟩,⟨(Qk.1 h1).2,fun x h=>h2 x (by simp[h])⟩,fun s i=>?_⟩
  ·cases o with
   | none=>rfl
   | some s=>exact h3 s rfl c (by simp)
  cases i;exact(Qk.1 h1).1
theorem mayL_iff {l:List zag}:mayL l=true↔GoodC l:=by
 unfold mayL;rw[zlu];simp
theorem zus {l:List Str}(j:l.Nodup):(zbw l).Pairwise fun a b=>ltS a b=true:=by
 have h1:=zhk l;have i:(zbw l).Nodup:=(zen l).nodup_iff.2 j
 exact(h1.and i).imp fun {a b} h=>by
  rcases zcj a b with k|k|k
  ·exact k
  ·exact absurd k h.2
  rw[h.1]at k;cases k
theorem listL_mem {Lp Lm:List (Str×Nat)}{c:zag}:c∈zdr Lp Lm↔c.1∈Lp.map Prod.fst/\¬(getL 0 Lp c.1=0/\getL 0 Lm c.1=0)/\c.2=(getL 0 Lp c.1,getL 0 Lm c.1):=by
 obtain⟨k,n,m⟩:=c;unfold zdr zb6;rw[Qr]
 constructor
 ·rintro⟨x,hx,he⟩;obtain⟨h1,h⟩:=Qt.1 hx;injection he with e1 e2
  subst e1;refine⟨(zen _).mem_iff.1 h1,?_,e2.symm⟩;rintro⟨h3,h4⟩;simp[h3,h4]at h
 rintro⟨h1,h,h3⟩;refine⟨k,Qt.2 ⟨(zen _).mem_iff.2 h1,?_⟩,by simp only at h3;rw[h3]⟩
 by_cases i:getL 0 Lp k=0
 ·have:getL 0 Lm k≠0:=fun j=>h ⟨i,j⟩
  simp[this]
 simp[i]
theorem zhb {Lp Lm:List (Str×Nat)}(l:(Lp.map Prod.fst).Nodup):GoodC (zdr Lp Lm):=by
 refine⟨?_,fun c j=>?_⟩
 ·unfold zdr zb6 SortedC;rw[Qy];exact(zus l).filter _
 obtain⟨-,h,i⟩:=listL_mem.1 j;rw[i];exact h
theorem zky (f:Nat->Nat->Nat){L:List (Str×Nat)}(h:(L.map Prod.fst).Nodup)(c:zag):((putP f L c).map Prod.fst).Nodup:=zij h _ _
theorem zkz {L:List (Str×Nat)}{k s:Str}{v:Nat}:s∈(putL L k v).map Prod.fst↔s=k ∨ s∈L.map Prod.fst:=by
 rw[zjo]
 by_cases h:k∈L.map Prod.fst
 ·rw[zP h]
  constructor
  ·exact .inr
  rintro(rfl|h')
  ·exact h
  exact h'
 rw[zN h,Qo,Qw];exact⟨fun h=>h.symm,fun h=>h.symm⟩
theorem zj3:∀(cs:List zag) (L:List (Str×Nat)),(L.map Prod.fst).Nodup->((cs.foldl (putP max) L).map Prod.fst).Nodup/\∀s,s∈(cs.foldl (putP max) L).map Prod.fst↔(∃c∈cs,c.1=s) ∨ s∈L.map Prod.fst
 | [],L,h=>⟨h,fun s=>by simp⟩
 | c::r,L,h=>by
  obtain⟨h1,i⟩:=zj3 r (putP max L c) (zky _ h c);refine⟨h1,fun s=>?_⟩;rw[Qp,i];unfold putP;rw[zkz]
  constructor
  ·rintro(⟨x,hx,he⟩|h|h)
   ·exact .inl ⟨x,by simp[hx],he⟩
   ·exact .inl ⟨c,by simp,h.symm⟩
   exact .inr h
  rintro(⟨x,hx,he⟩|h)
  ·rcases Qd.1 hx with rfl|hx
   ·exact .inr (.inl he.symm)
   exact .inl ⟨x,hx,he⟩
  exact .inr (.inr h)
theorem zcd (cs:List zag):((zax cs).map Prod.fst).Nodup:=(zj3 cs [] (by simp)).1
theorem plusOf_key {cs:List zag}{s:Str}:s∈(zax cs).map Prod.fst↔∃c∈cs,c.1=s:=by
 rw[show zax cs=cs.foldl (putP max) []from rfl,(zj3 cs [] (by simp)).2];simp
theorem zxk (l:List zag)(s:Str)(n:Int):GoodC (addL l s n):=zhb (zky _ (zcd l) _)
end
section
open Go.RowKit
section
variable {κ ν:Type} [DecidableEq κ]
theorem zia {a b:κ}(h:¬a=b):(a==b)=false:=beq_eq_false_iff_ne.2 h
theorem zsz (L:List (κ×ν))(k s:κ)(v:ν):(L++[(k,v)]).lookup s=match L.lookup s with|some x=>some x|none=>if s=k then some v else none:=by
 induction L with
 | nil =>
  by_cases h:s=k
  ·subst h;simp[Qe]
  simp[Qe,zia h,h]
 | cons p r i =>
  obtain⟨a,b⟩:=p;simp only[List.cons_append,Qe]
  by_cases h:s=a
  ·subst h;simp
  simp[zia h,i]
theorem zut (L:List (κ×ν))(k s:κ)(v:ν):(L.map fun p=>if p.1=k then(k,v)else p).lookup s=if s=k then(if k∈L.map Prod.fst then some v else none)else L.lookup s:=by
 induction L with
 | nil=>simp[Qe]
 | cons p r l =>
  obtain⟨a,b⟩:=p
  by_cases ha:a=k
  ·subst ha;simp only[Qq,zP,Qe,Qd,true_or]
   by_cases h:s=a
   ·subst h;simp
   simp[zia h,h,l]
  simp only[Qq,zN ha,Qe,Qd]
  by_cases h:s=a
  ·subst h;simp[ha]
  have hk:¬k=a:=fun e=>ha e.symm
  rw[zia h];simp only[l]
  by_cases j:s=k
  ·subst j;rw[zP rfl,zP rfl]
   by_cases i:s∈r.map Prod.fst
   ·rw[zP i,zP (.inr i)]
   rw[zN i,zN fun e=>e.elim h i]
  simp[j]
theorem lookup_none {L:List (κ×ν)}{s:κ}:L.lookup s=none↔s∉L.map Prod.fst:=by
 induction L with
 | nil=>simp[Qe]
 | cons p r i =>
  obtain⟨a,b⟩:=p;simp only[Qe,Qq,Qd]
  by_cases h:s=a
  ·subst h;simp
  simp[zia h,h,i]
theorem zji (z:ν)(L:List (κ×ν))(k s:κ)(v:ν):getL z (putL L k v) s=if s=k then v else getL z L s:=by
 unfold getL putL
 by_cases hk:k∈L.map Prod.fst
 ·rw[zP hk,zut]
  by_cases h:s=k
  ·simp[h,hk]
  simp[h]
 rw[zN hk,zsz]
 by_cases h:s=k
 ·subst h;rw[lookup_none.2 hk];simp
 cases i:L.lookup s<;>simp[h]
theorem zpn {z:ν}{L:List (κ×ν)}{s:κ}(h:s∉L.map Prod.fst):getL z L s=z:=by unfold getL;rw[lookup_none.2 h];rfl
theorem zxl (z:ν)(a:κ)(b:ν)(L:List (κ×ν))(s:κ):getL z ((a,b)::L) s=if s=a then b else getL z L s:=by
 unfold getL;simp only[Qe]
 by_cases h:s=a
 ·subst h;simp
 simp[zia h,h]
end
def zbr (l:List zag)(s:Str):Nat:=getL 0 (zax l) s
def zbf (l:List zag)(s:Str):Nat:=getL 0 (zaz l) s
theorem zpo (s:Str):∀(l:List zag) (L:List (Str×Nat)) (x:Nat),getL 0 (l.foldl (putP max) L) s<=x↔getL 0 L s<=x/\∀c∈l,c.1=s->c.2.1<=x
 | [],L,x=>by simp
 | c::r,L,x=>by
  rw[Qp,zpo s r];unfold putP;rw[zji];simp only[Qd,forall_eq_or_imp]
  by_cases h:s=c.1
  ·subst h;rw[zP rfl]
   constructor
   ·rintro⟨h1,h2⟩;exact⟨by omega,fun _=>by omega,h2⟩
   rintro⟨h1,h2,h3⟩;have:=h2 rfl;exact⟨by omega,h3⟩
  rw[zN h]
  constructor
  ·rintro⟨h1,h2⟩;exact⟨h1,fun e=>absurd e.symm h,h2⟩
  rintro⟨h1,-,h3⟩;exact⟨h1,h3⟩
theorem zpp (s:Str):∀(l:List zag) (L:List (Str×Nat)) (x:Nat),getL 0 (l.foldl (putM max) L) s<=x↔getL 0 L s<=x/\∀c∈l,c.1=s->c.2.2<=x
 | [],L,x=>by simp
 | c::r,L,x=>by
  rw[Qp,zpp s r];unfold putM;rw[zji];simp only[Qd,forall_eq_or_imp]
  by_cases h:s=c.1
  ·subst h;rw[zP rfl]
   constructor
   ·rintro⟨h1,h2⟩;exact⟨by omega,fun _=>by omega,h2⟩
   rintro⟨h1,h2,h3⟩;have:=h2 rfl;exact⟨by omega,h3⟩
  rw[zN h]
  constructor
  ·rintro⟨h1,h2⟩;exact⟨h1,fun e=>absurd e.symm h,h2⟩
  rintro⟨h1,-,h3⟩;exact⟨h1,h3⟩
theorem plusC_le {l:List zag}{s:Str}{x:Nat}:zbr l s<=x↔∀c∈l,c.1=s->c.2.1<=x:=by
 unfold zbr zax;rw[zpo];simp[getL,Qe]
theorem minusC_le {l:List zag}{s:Str}{x:Nat}:zbf l s<=x↔∀c∈l,c.1=s->c.2.2<=x:=by
 unfold zbf zaz;rw[zpp];simp[getL,Qe]
theorem zip {a b:Nat}(h:∀x,a<=x↔b<=x):a=b:=Nat.le_antisymm ((h b).2 (Qg _)) ((h a).1 (Qg _))
theorem zre (a b:List zag)(s:Str):zbr (a++b) s=max (zbr a s) (zbr b s):=zip fun x=>by
 rw[Nat.max_le,plusC_le,plusC_le,plusC_le]
 constructor
 ·intro i;exact⟨fun c h=>i c (Qv _ h),fun c h=>i c (Qu _ h)⟩
 rintro⟨h1,h2⟩ c h;rcases Qo.1 h with h|h;exact h1 c h;exact h2 c h
theorem zqn (a b:List zag)(s:Str):zbf (a++b) s=max (zbf a s) (zbf b s):=zip fun x=>by
 rw[Nat.max_le,minusC_le,minusC_le,minusC_le]
 constructor
 ·intro i;exact⟨fun c h=>i c (Qv _ h),fun c h=>i c (Qu _ h)⟩
 rintro⟨h1,h2⟩ c h;rcases Qo.1 h with h|h;exact h1 c h;exact h2 c h
theorem SortedC.uniq {l:List zag}(h:SortedC l){a b:zag}(ha:a∈l)(hb:b∈l)(e:a.1=b.1):a=b:=by
 induction l with
 | nil=>cases ha
 | cons x r j =>
  obtain⟨h1,i⟩:=Qk.1 h;rcases Qd.1 ha with e1|ha'
  ·rcases Qd.1 hb with e2|hb'
   ·rw[e1,e2]
   rw[e1]at e;exact absurd e (zck (h1 b hb'))
  rcases Qd.1 hb with e2|hb'
  ·rw[e2]at e;exact absurd e.symm (zck (h1 a ha'))
  exact j i ha' hb'
theorem SortedC.plus {l:List zag}(i:SortedC l){c:zag}(h:c∈l):zbr l c.1=c.2.1:=zip fun x=>by
 rw[plusC_le];exact⟨fun k=>k c h rfl,fun k d j e=>by rw[i.uniq j h e];exact k⟩
theorem SortedC.minus {l:List zag}(i:SortedC l){c:zag}(h:c∈l):zbf l c.1=c.2.2:=zip fun x=>by
 rw[minusC_le];exact⟨fun k=>k c h rfl,fun k d j e=>by rw[i.uniq j h e];exact k⟩
theorem zf4 {l:List zag}{s:Str}(h:∀c∈l,c.1≠s):zbr l s=0:=Nat.le_zero.1 (plusC_le.2 fun c i e=>absurd e (h c i))
theorem zfi {l:List zag}{s:Str}(h:∀c∈l,c.1≠s):zbf l s=0:=Nat.le_zero.1 (minusC_le.2 fun c i e=>absurd e (h c i))
theorem GoodC.mem_iff {l:List zag}(h:GoodC l){c:zag}:c∈l↔¬(zbr l c.1=0/\zbf l c.1=0)/\c.2=(zbr l c.1,zbf l c.1):=by
 constructor
 ·intro i;rw[h.1.plus i,h.1.minus i];exact⟨h.2 c i,rfl⟩
 rintro⟨h1,h2⟩;obtain⟨s,v⟩:=c;simp only at h1 h2;subst h2
 by_cases n:∃d∈l,d.1=s
 ·obtain⟨d,j,rfl⟩:=n;rw[h.1.plus j,h.1.minus j];exact j
 have m:∀c∈l,c.1≠s:=fun c i e=>n ⟨c,i,e⟩
 exact absurd ⟨zf4 m,zfi m⟩ h1
theorem zo0 {a b:List zag}(ha:SortedC a)(hb:SortedC b)(j:∀m,m∈a↔m∈b):a=b:=by
 unfold SortedC at ha hb;have l:a.Nodup:=ha.imp fun {a b} h e=>by subst e;rw[zap]at h;cases h
 have n:b.Nodup:=hb.imp fun {a b} h e=>by subst e;rw[zap]at h;cases h
 exact List.Perm.eq_of_pairwise (le:=fun a b=>ltS a.1 b.1=true) (fun x y _ _ h1 i=>by rw[zc8 h1]at i;cases i) ha hb (zdl l n j)
theorem GoodC.ext {a b:List zag}(ha:GoodC a)(hb:GoodC b)(h:∀s,zbr a s=zbr b s/\zbf a s=zbf b s):a=b :=
 zo0 ha.1 hb.1 fun m=>by rw[ha.mem_iff,hb.mem_iff,(h m.1).1,(h m.1).2]
theorem zlv {Lp Lm:List (Str×Nat)}(hk:∀s,s∈Lm.map Prod.fst->s∈Lp.map Prod.fst)(o:(Lp.map Prod.fst).Nodup)(s:Str):zbr (zdr Lp Lm) s=getL 0 Lp s/\zbf (zdr Lp Lm) s=getL 0 Lm s:=by
 have m:=zhb (Lm:=Lm) o
 by_cases l:∃c∈zdr Lp Lm,c.1=s
 ·obtain⟨c,h,rfl⟩:=l;rw[m.1.plus h,m.1.minus h,(listL_mem.1 h).2.2];exact⟨rfl,rfl⟩
 have i:∀c∈zdr Lp Lm,c.1≠s:=fun c h e=>l ⟨c,h,e⟩
 rw[zf4 i,zfi i]
 by_cases j:s∈Lp.map Prod.fst
 ·have:getL 0 Lp s=0/\getL 0 Lm s=0:=Classical.byContradiction fun p=>i (s,getL 0 Lp s,getL 0 Lm s) (listL_mem.2 ⟨j,p,rfl⟩) rfl
  exact⟨this.1.symm,this.2.symm⟩
 rw[zpn j,zpn fun n=>j (hk s n)];exact⟨rfl,rfl⟩
theorem zpq:∀(cs:List zag) (L:List (Str×Nat)) (s:Str),s∈(cs.foldl (putM max) L).map Prod.fst↔(∃c∈cs,c.1=s) ∨ s∈L.map Prod.fst
 | [],L,s=>by simp
 | c::r,L,s=>by
  rw[Qp,zpq r];unfold putM;rw[zkz]
  constructor
  ·rintro(⟨x,hx,he⟩|h|h)
   ·exact .inl ⟨x,by simp[hx],he⟩
   ·exact .inl ⟨c,by simp,h.symm⟩
   exact .inr h
  rintro(⟨x,hx,he⟩|h)
  ·rcases Qd.1 hx with rfl|hx
   ·exact .inr (.inl he.symm)
   exact .inl ⟨x,hx,he⟩
  exact .inr (.inr h)
theorem minusOf_key {cs:List zag}{s:Str}:s∈(zaz cs).map Prod.fst↔∃c∈cs,c.1=s:=by
 rw[show zaz cs=cs.foldl (putM max) []from rfl,zpq];simp
theorem zuu (a b:List zag):GoodC (zef a b):=zhb (zcd _)
theorem zpr (a b:List zag)(s:Str):zbr (zef a b) s=max (zbr a s) (zbr b s)/\zbf (zef a b) s=max (zbf a s) (zbf b s):=by
 have:=zlv (Lp:=zax (a++b)) (Lm:=zaz (a++b)) (fun s h=>plusOf_key.2 (minusOf_key.1 h)) (zcd _) s;rw[<- zre,<- zqn];exact this
theorem zrf (l:List zag)(p:Str)(n:Int)(s:Str):zbr (addL l p n) s=(if s=p then addU (zbr l p) (upOf n)else zbr l s)/\zbf (addL l p n) s=(if s=p then addU (zbf l p) (zcb n)else zbf l s):=by
 unfold addL
 have:=zlv (Lp:=putP addU (zax l) (p,upOf n,zcb n)) (Lm:=putM addU (zaz l) (p,upOf n,zcb n)) (fun s h=>by unfold putP;unfold putM at h;rw[zkz]at h ⊢;exact h.imp id fun i=>plusOf_key.2 (minusOf_key.1 i)) (zky _ (zcd l) _) s
 rw[this.1,this.2];unfold putP putM;rw[zji,zji];exact⟨rfl,rfl⟩
end
section
open Go.RowKit Go.Shelf
theorem zps {P:Program}(w:Xq)(T:TypeId)(u v:Xr)(h:v.oneCell'=true)(a:Nat)(ha:a=w.heap.size):(store ⟨a,0,none⟩ v).run P (w.alloc (Xo #[u] T))=.ok () (w.alloc (Xo #[v] T)):=by
 subst ha;have i:(w.alloc (Xo #[u] T)).cell? ⟨w.heap.size,0,none⟩=some u:=(zix w u T).1;have j:=(zix w u T).2;rw[run_store P _ _ v _ h,i];simp only[j,World.setCell_alloc_new]
 rfl
def clo (f:Nat)(l:List Nat):Xr:=.func (.func f) #[] (l.map fun b=>Value.pointer (some ⟨b,0,none⟩)).toArray
abbrev M8 (o:Option Nat):Xr:=.map o
abbrev V8 (v:Xr):Xr:=v
structure UpdAt (w:Xq) (B E:Nat) (n:Int) (tx:Str) (d:Dot) (m:Nat):Prop where
 pe:w.cell? ⟨B,0,none⟩=some (Xl (some ⟨E,0,none⟩))
 po2:w.cell? ⟨B+1,2,none⟩=some (I n)
 po3:w.cell? ⟨B+1,3,none⟩=some (St tx)
 d0:w.cell? ⟨B+2,0,none⟩=some (St d.1)
 d1:w.cell? ⟨B+2,1,none⟩=some (U d.2)
 err:RowIs w (B+3) 32 [I 0] []
 c1:w.cell? ⟨B+4,0,none⟩=some (clo 173 [B,B+2,B+3])
 c2:w.cell? ⟨B+5,0,none⟩=some (clo 175 [B,B+3])
 maps:∃m1 m2 m3,MapIs K8 M8 w m [(1,some m1),(2,some m2),(3,some m3)] /\
  MapIs K8 V8 w m1 [(1,clo 177 [B+4,B+1]),(5,clo 178 [B,B+4])] /\
  MapIs K8 V8 w m2 [(2,clo 179 [B,B+1,B+2,B+3]),(3,clo 181 [B,B+1]),(5,clo 183 [B])] /\
  MapIs K8 V8 w m3 [(4,clo 184 [B+5,B+1]),(5,clo 185 [B+5])]
theorem zs0 {W:Xq}{E:Nat}(k:Str)(p:Nat)(n:Int)(tx:Str)(d:Dot) :
  Calls Tryz.prog 135 #[Xl (some ⟨E,0,none⟩),.agg #[K8 p,St k,I n,St tx],dotV d] W fun r w'=>∃m,r=Xp (.map (some m))/\UpdAt w' W.heap.size E n tx d m/\W.heap.size+6<=w'.heap.size/\Ext W w':=by
 have bg:=@run_makeMap Tryz.prog;obtain⟨B,Q⟩:∃B,B=W.heap.size:=⟨_,rfl⟩
 have bh:=zps (P:=Tryz.prog) ((((W.alloc (Xo #[Xl (some ⟨E,0,none⟩)] 109)).alloc (Xo #[K8 p,St k,I n,St tx] 99)).alloc (Xo #[St d.1,U d.2] 59)).alloc (Xo #[I 0] 32)) 251 .nilFunc (.func (.func 173) #[] #[Xl (some ⟨W.heap.size,0,none⟩),Xl (some ⟨W.heap.size+1+1,0,none⟩),Xl (some ⟨W.heap.size+1+1+1,0,none⟩)]) rfl (W.heap.size+1+1+1+1) (by simp);have bi:=zps (P:=Tryz.prog) (((((W.alloc (Xo #[Xl (some ⟨E,0,none⟩)] 109)).alloc (Xo #[K8 p,St k,I n,St tx] 99)).alloc (Xo #[St d.1,U d.2] 59)).alloc (Xo #[I 0] 32)).alloc (Xo #[(.func (.func 173) #[] #[Xl (some ⟨W.heap.size,0,none⟩),Xl (some ⟨W.heap.size+1+1,0,none⟩),Xl (some ⟨W.heap.size+1+1+1,0,none⟩)])] 251)) 254 .nilFunc (.func (.func 175) #[] #[Xl (some ⟨W.heap.size,0,none⟩),Xl (some ⟨W.heap.size+1+1+1,0,none⟩)]) rfl (W.heap.size+1+1+1+1+1) (by simp);obtain⟨i,h⟩:∃i,i=(((((W.alloc (Xo #[Xl (some ⟨E,0,none⟩)] 109)).alloc (Xo #[K8 p,St k,I n,St tx] 99)).alloc (Xo #[St d.1,U d.2] 59)).alloc (Xo #[I 0] 32)).alloc (Xo #[(.func (.func 173) #[] #[Xl (some ⟨W.heap.size,0,none⟩),Xl (some ⟨W.heap.size+1+1,0,none⟩),Xl (some ⟨W.heap.size+1+1+1,0,none⟩)])] 251)).alloc (Xo #[.func (.func 175) #[] #[Xl (some ⟨W.heap.size,0,none⟩),Xl (some ⟨W.heap.size+1+1+1,0,none⟩)]] 254):=⟨_,rfl⟩
 have bd:i.heap.size=W.heap.size+1+1+1+1+1+1:=by rw[h];simp
 have ac:Ext W i:=by rw[h];exact((((((Ext.refl W).alloc _).alloc _).alloc _).alloc _).alloc _).alloc _
 have N:Hid (∀w,Ext i w->∀m,(∃af ag ah,MapIs K8 M8 w m [(1,some af),(2,some ag),(3,some ah)] /\
   MapIs K8 V8 w af [(1,clo 177 [B+4,B+1]),(5,clo 178 [B,B+4])] /\
   MapIs K8 V8 w ag [(2,clo 179 [B,B+1,B+2,B+3]),(3,clo 181 [B,B+1]),(5,clo 183 [B])] /\
   MapIs K8 V8 w ah [(4,clo 184 [B+5,B+1]),(5,clo 185 [B+5])])->UpdAt w W.heap.size E n tx d m):=zH fun w j m bc=>by
  subst Q;refine⟨j.cell ?_,j.cell ?_,j.cell ?_,j.cell ?_,j.cell ?_,RowIs.ext ?_ j,j.cell ?_,j.cell ?_,bc⟩
  ·rw[h];simp[go_sem]
  ·rw[h];simp[go_sem]
  ·rw[h];simp[go_sem]
  ·rw[h];simp[go_sem]
  ·rw[h];simp[go_sem]
  ·rw[h];have O:=zaf (((W.alloc (Xo #[Xl (some ⟨E,0,none⟩)] 109)).alloc (Xo #[K8 p,St k,I n,St tx] 99)).alloc (Xo #[St d.1,U d.2] 59)) 32 [I 0];simp only[Qm]at O;exact(O.alloc _).alloc _
  ·rw[h];simp[go_sem,clo]
  rw[h];simp[go_sem,clo]
 obtain⟨z,G⟩:∃z,z=i.heap.size:=⟨_,rfl⟩
 obtain⟨l,o⟩:∃l,l=(i.alloc (.map #[] 0)).alloc (.map #[] 0):=⟨_,rfl⟩
 have R:MapIs K8 M8 l z []:=by rw[o,G];exact(MapIs.new i).ext ((Ext.refl _).alloc _)
 have S:MapIs K8 V8 l (z+1) []:=by have:=MapIs.new (K:=K8) (V:=V8) (i.alloc (.map #[] 0));rw[Qm]at this;rw[o,G];exact this
 have Z:Ext i l:=by rw[o];exact((Ext.refl _).alloc _).alloc _
 have ad:l.heap.size=z+1+1:=by rw[o,G];simp
 obtain⟨Xa,az,ai,H⟩:=zaw (P:=Tryz.prog) (t:=203) Tryz.underlying203 keyOk8 S 1 (clo 177 [B+4,B+1]);obtain⟨Xb,a0,aj,J⟩:=zaw (P:=Tryz.prog) (t:=203) Tryz.underlying203 keyOk8 ai 5 (clo 178 [B,B+4]);obtain⟨Xc,a1,an,L⟩:=zaw (P:=Tryz.prog) (t:=204) Tryz.underlying204 keyOk8 ((R.turned H (by omega)).turned J (by omega)) 1 (some (z+1));have aa:=((Z.turned H (by omega)).turned J (by omega)).turned L (by omega);have ak:=aj.turned L (by omega);have ae:Xc.heap.size=z+1+1:=by rw[L.size,J.size,H.size,ad]
 have X:=MapIs.new (K:=K8) (V:=V8) Xc;have F:=(Ext.refl Xc).alloc (.map #[] 0);obtain⟨Xd,a2,md,s⟩:=zaw (P:=Tryz.prog) (t:=203) Tryz.underlying203 keyOk8 X 2 (clo 179 [B,B+1,B+2,B+3]);obtain⟨Xe,a3,ao,u⟩:=zaw (P:=Tryz.prog) (t:=203) Tryz.underlying203 keyOk8 md 3 (clo 181 [B,B+1]);obtain⟨Xf,a4,ap,v⟩:=zaw (P:=Tryz.prog) (t:=203) Tryz.underlying203 keyOk8 ao 5 (clo 183 [B]);obtain⟨Xg,a5,au,x⟩:=zaw (P:=Tryz.prog) (t:=204) Tryz.underlying204 keyOk8 ((((an.ext F).turned s (by omega)).turned u (by omega)).turned v (by omega)) 2 (some Xc.heap.size);have ab:=((((aa.trans F).turned s (by omega)).turned u (by omega)).turned v (by omega)).turned x (by omega);have al:=((((ak.ext F).turned s (by omega)).turned u (by omega)).turned v (by omega)).turned x (by omega);have aq:=ap.turned x (by omega);have be:Xg.heap.size=z+1+1+1:=by rw[x.size,v.size,u.size,s.size,Qm,ae]
 have Y:=MapIs.new (K:=K8) (V:=V8) Xg;have q:=(Ext.refl Xg).alloc (.map #[] 0);obtain⟨Xh,a6,av,y⟩:=zaw (P:=Tryz.prog) (t:=203) Tryz.underlying203 keyOk8 Y 4 (clo 184 [B+5,B+1]);obtain⟨Xi,a7,aw,A⟩:=zaw (P:=Tryz.prog) (t:=203) Tryz.underlying203 keyOk8 av 5 (clo 185 [B+5]);obtain⟨M,a8,ay,C⟩:=zaw (P:=Tryz.prog) (t:=204) Tryz.underlying204 keyOk8 (((au.ext q).turned y (by omega)).turned A (by omega)) 3 (some Xg.heap.size);have D:=(((ab.trans q).turned y (by omega)).turned A (by omega)).turned C (by omega);have am:=(((al.ext q).turned y (by omega)).turned A (by omega)).turned C (by omega);have ar:=(((aq.ext q).turned y (by omega)).turned A (by omega)).turned C (by omega);have ax:=aw.turned C (by omega);have a9:=zH (N.out M D z ⟨z+1,Xc.heap.size,Xg.heap.size,ay,am,ar,ax⟩);have ba:=zH (ac.trans D);have bb:=zH (show W.heap.size+6<=M.heap.size by have:=D.size;omega);subst Q;have bf:(Instr.mapUpdate 203 (.map (some (z+1))) (.int .u8 1) (.func (.func 177) #[] #[Xl (some ⟨W.heap.size+1+1+1+1,0,none⟩),Xl (some ⟨W.heap.size+1,0,none⟩)])).run Tryz.prog l=.ok () Xa:=az;have bj:(Instr.mapUpdate 203 (.map (some (z+1))) (.int .u8 5) (.func (.func 178) #[] #[Xl (some ⟨W.heap.size,0,none⟩),Xl (some ⟨W.heap.size+1+1+1+1,0,none⟩)])).run Tryz.prog Xa=.ok () Xb:=a0;have bk:(Instr.mapUpdate 204 (.map (some z)) (.int .u8 1) (.map (some (z+1)))).run Tryz.prog Xb=.ok () Xc:=a1;have bm:(Instr.mapUpdate 203 (.map (some Xc.heap.size)) (.int .u8 2) (.func (.func 179) #[] #[Xl (some ⟨W.heap.size,0,none⟩),Xl (some ⟨W.heap.size+1,0,none⟩),Xl (some ⟨W.heap.size+1+1,0,none⟩),Xl (some ⟨W.heap.size+1+1+1,0,none⟩)])).run Tryz.prog (Xc.alloc (.map #[] 0))=.ok () Xd:=a2;have bn:(Instr.mapUpdate 203 (.map (some Xc.heap.size)) (.int .u8 3) (.func (.func 181) #[] #[Xl (some ⟨W.heap.size,0,none⟩),Xl (some ⟨W.heap.size+1,0,none⟩)])).run Tryz.prog Xd=.ok () Xe:=a3;have bo:(Instr.mapUpdate 203 (.map (some Xc.heap.size)) (.int .u8 5) (.func (.func 183) #[] #[Xl (some ⟨W.heap.size,0,none⟩)])).run Tryz.prog Xe=.ok () Xf:=a4;have bp:(Instr.mapUpdate 204 (.map (some z)) (.int .u8 2) (.map (some Xc.heap.size))).run Tryz.prog Xf=.ok () Xg:=a5;have bq:(Instr.mapUpdate 203 (.map (some Xg.heap.size)) (.int .u8 4) (.func (.func 184) #[] #[Xl (some ⟨W.heap.size+1+1+1+1+1,0,none⟩),Xl (some ⟨W.heap.size+1,0,none⟩)])).run Tryz.prog (Xg.alloc (.map #[] 0))=.ok () Xh:=a6;have br:(Instr.mapUpdate 203 (.map (some Xg.heap.size)) (.int .u8 5) (.func (.func 185) #[] #[Xl (some ⟨W.heap.size+1+1+1+1+1,0,none⟩)])).run Tryz.prog Xh=.ok () Xi:=a7;have bs:(Instr.mapUpdate 204 (.map (some z)) (.int .u8 3) (.map (some Xg.heap.size))).run Tryz.prog Xi=.ok () M:=a8;clear az a0 a1 a2 a3 a4 a5 a6 a7 a8 ai aj an md ao ap au av aw ay ak al am aq ar ax H J L s u v x y A C Z aa ab D F q R S X Y ae be ad ac N;rw[G,bd]at *;rw[o,h]at bf
 clear o h;go_enter Tryz.func135,Tryz.ntmps135;go_wp2_with fail;go_ret;exact⟨_,rfl,a9.out,bb.out,ba.out⟩
abbrev OpD:=Nat×Str×Int×Str
abbrev opV (o:OpD):Xr:=.agg #[K8 o.1,St o.2.1,I o.2.2.1,St o.2.2.2]
def zce (B kk dO:Nat):Option Xr :=
 if kk=1 then(if dO=1 then some (clo 177 [B+4,B+1])else if dO=5 then some (clo 178 [B,B+4])else none)
 else if kk=2 then(if dO=2 then some (clo 179 [B,B+1,B+2,B+3])else if dO=3 then some (clo 181 [B,B+1])else if dO=5 then some (clo 183 [B])else none)
 else if kk=3 then(if dO=4 then some (clo 184 [B+5,B+1])else if dO=5 then some (clo 185 [B+5])else none)
 else none
def doE (kk:Nat)(e:Entry)(o:OpD)(d:Dot):Option (Entry×Nat) :=
 if kk=1 then(if o.1=1 then some ({ e with counts:=(addC e.counts d.1 o.2.2.1).1 },(addC e.counts d.1 o.2.2.1).2)else if o.1=5 then some ({ e with counts:=(delC e.counts d.1).1 },(delC e.counts d.1).2)else none)
 else if kk=2 then(if o.1=2 then some ({ e with items:=(putB e.items o.2.2.2 d).1 },(putB e.items o.2.2.2 d).2)else if o.1=3 then some ({ e with items:=zf2 e.items o.2.2.2 },0)else if o.1=5 then some ({ e with items:=[] },0)else none)
 else if kk=3 then(if o.1=4 then some ({ e with cell:=(za5 e.cell o.2.2.2 false).1 },(za5 e.cell o.2.2.2 false).2)else if o.1=5 then some ({ e with cell:=(za5 e.cell [] true).1 },(za5 e.cell [] true).2)else none)
 else none
theorem UpdAt.ext {w w':Xq}{B E:Nat}{n:Int}{tx:Str}{d:Dot}{m:Nat}(i:UpdAt w B E n tx d m)(h:Ext w w'):UpdAt w' B E n tx d m:=by
 obtain⟨h1,p,q,r,s,t,u,v,y,z,A,x,j,l,o⟩:=i;exact⟨h.cell h1,h.cell p,h.cell q,h.cell r,h.cell s,t.ext h,h.cell u,h.cell v,y,z,A,x.ext h,j.ext h,l.ext h,o.ext h⟩
theorem ybm (w:Xq):(zeroValue 203).run Tryz.prog w=.ok (M8 none) w:=Tryz.zeroValue203 w
theorem zxm (w:Xq):(zeroValue 201).run Tryz.prog w=.ok (V8 .nilFunc) w:=Tryz.zeroValue201 w
theorem zzt (k:Nat)(w:Xq):(Instr.lookup 203 (.map none) (K8 k) true).run Tryz.prog w=.ok (Xn #[.nilFunc,Xm false]) w:=by
 have j:=zxm w;have i:=keyOk8.check true k w;have h:=MapIs.find (V:=V8) keyOk8 (es:=#[]) (L:=[]) rfl k w;simp at h;simp[Instr.lookup,run_underlying Tryz.underlying203,j,i,h]
def InnerIs (W:Xq)(B kk:Nat)(v:Xr):Prop:=∀W3,Ext W W3->∀dO,(Instr.lookup 203 v (K8 dO) true).run Tryz.prog W3=.ok (Xn #[(zce B kk dO).getD .nilFunc,Xm (zce B kk dO).isSome]) W3
theorem InnerIs.ext {W h:Xq}{B kk:Nat}{v:Xr}(j:InnerIs W B kk v)(m:Ext W h):InnerIs h B kk v:=fun i l=>j i (m.trans l)
theorem zne {W:Xq}{B kk b:Nat}{L:List (Nat×Xr)}(i:MapIs K8 V8 W b L)(l:∀h,zce B kk h=zdd L h):InnerIs W B kk (.map (some b)):=fun m j h=>by
 have:=(zbi (P:=Tryz.prog) (z:=Value.nilFunc) Tryz.underlying203 keyOk8 zxm (i.ext j) h).2;rw[zgv,show getL Value.nilFunc L h=(zdd L h).getD .nilFunc from rfl,<- l]at this;exact this
theorem zzu {w:Xq}{B E:Nat}{n:Int}{tx:Str}{d:Dot}{m:Nat}(t:UpdAt w B E n tx d m)(kk:Nat) :
  ∃u,(∀i,Ext w i->(Instr.lookup 204 (.map (some m)) (K8 kk) false).run Tryz.prog i=.ok u i)/\InnerIs w B kk u:=by
 obtain⟨p,q,r,A,v,x,y⟩:=t.maps;refine⟨M8 (getL none [(1,some p),(2,some q),(3,some r)] kk),fun i s=>(zbi (P:=Tryz.prog) (z:=none) Tryz.underlying204 keyOk8 ybm (A.ext s) kk).1,?_⟩;rw[show getL none [(1,some p),(2,some q),(3,some r)] kk=(zdd [(1,some p),(2,some q),(3,some r)] kk).getD none from rfl];simp only[zfa]
 by_cases h:kk=1
 ·subst h;simp only[if_true,Qn];exact zne v fun j=>by simp only[zfa,zce,if_true];rfl
 by_cases l:kk=2
 ·subst l;simp only[if_true,zN h,Qn];exact zne x fun j=>by simp only[zfa,zce,if_true,zN h];rfl
 by_cases o:kk=3
 ·subst o;simp only[if_true,zN h,zN l,Qn];exact zne y fun j=>by simp only[zfa,zce,if_true,zN h,zN l];rfl
 simp only[zN h,zN l,zN o];intro i s j;rw[show zce B kk j=none by simp only[zce,zN h,zN l,zN o]];exact zzt j i
theorem ybn {S:Nat->Prop}{W:Xq}{B E m:Nat}{kk:Nat}{o:OpD}{d:Dot}{e:Entry}{v1 v2 v3:Xr}(v:UpdAt W B E o.2.2.1 o.2.2.2 d m)(y:-9223372036854775808<=o.2.2.1)(z:o.2.2.1<=9223372036854775807)(p:e.counts.length<1099511627776)(x:(zab e.items).length<1099511627776)(j:RowIs W E 46 (entL e v1 v2 v3) [])(i:EntAt W S e v1 v2 v3)(l:∀b,S b->b≠E/\b≠B+3)(n:B+3≠E) :
  match zce B kk o.1,doE kk e o d with
  | none,none=>True
  | some c,some (e',err)=>∃f args,c=.func (.func f) #[] args/\(∀xs w,(callFunc f xs).run Tryz.prog w=.ok (.enter f xs) w)/\Calls Tryz.prog f args W fun r w'=>r=Xp (I err)/\Did W w' E (B+3) S e' v1
  | _,_=>False:=by
 obtain⟨pe,po2,po3,d0,d1,err,c1,c2,-⟩:=v;unfold zce doE
 by_cases q:kk=1
 ·simp only[q,if_true]
  by_cases q1:o.1=1
  ·simp only[q1,if_true];exact⟨_,_,rfl,enters_of Tryz.func177 (by kernel_rfl) rfl,zzn o.2.2.1 y z c1 po2 d0 p pe err j i l n⟩
  simp only[zN q1]
  by_cases h:o.1=5
  ·simp only[h,if_true];exact⟨_,_,rfl,enters_of Tryz.func178 (by kernel_rfl) rfl,zzo c1 d0 p pe err j i l n⟩
  simp only[zN h]
 by_cases s:kk=2
 ·simp only[s,if_true,zN (by decide:¬(2:Nat)=1)]
  by_cases u:o.1=2
  ·simp only[u,if_true];exact⟨_,_,rfl,enters_of Tryz.func179 (by kernel_rfl) rfl,zzm po3 d0 d1 x pe err j i l n⟩
  simp only[zN u]
  by_cases q3:o.1=3
  ·simp only[q3,if_true];exact⟨_,_,rfl,enters_of Tryz.func181 (by kernel_rfl) rfl,zzs po3 (by omega) pe j i l⟩
  simp only[zN q3]
  by_cases h:o.1=5
  ·simp only[h,if_true];exact⟨_,_,rfl,enters_of Tryz.func183 (by kernel_rfl) rfl,zzp pe j i l⟩
  simp only[zN h]
 by_cases t:kk=3
 ·simp only[t,if_true,zN (by decide:¬(3:Nat)=1),zN (by decide:¬(3:Nat)=2)]
  by_cases q4:o.1=4
  ·simp only[q4,if_true];exact⟨_,_,rfl,enters_of Tryz.func184 (by kernel_rfl) rfl,zzq c2 po3 pe err j i l n⟩
  simp only[zN q4]
  by_cases h:o.1=5
  ·simp only[h,if_true];exact⟨_,_,rfl,enters_of Tryz.func185 (by kernel_rfl) rfl,zzr c2 pe err j i l n⟩
  simp only[zN h]
 simp only[zN q,zN s,zN t]
def zfb (e:Entry)(o:OpD)(d:Dot):Entry×Nat :=
 match doE (zas o.2.1) e o d with
 | none=>(zak,150)
 | some p=>if p.2=0 then({ p.1 with seen:=setM p.1.seen d.1 d.2 },0)else(zak,p.2)
def updE (e:Entry)(o:OpD)(d:Dot):Entry×Nat :=
 if keyS o.2.1=false then(zak,10)else if e.key≠o.2.1/\zbl e zak=false then(zak,2)else if d.1 = [] ∨ d.2<1 ∨ 281474976710656<d.2 ∨ hasM e.seen d=true then(zak,2)else zfb { e with key:=o.2.1 } o d
theorem zgw (w:Xq)(q:Nat)(e:Entry)(v1 v2 v3:Xr)(b:Nat)(hb:b≠q):(put7 w q e v1 v2 v3).heap[b]? = w.heap[b]? :=
 ((((((Qb _ _ _ b hb).trans (Qb _ _ _ b hb)).trans (Qb _ _ _ b hb)).trans (Qb _ _ _ b hb)).trans (Qb _ _ _ b hb)).trans (Qb _ _ _ b hb)).trans (Qb _ _ _ b hb)
theorem zuw (B kk:Nat)(e:Entry)(o:OpD)(d:Dot):(zce B kk o.1).isSome=(doE kk e o d).isSome:=by
 unfold zce doE
 repeat' split
 all_goals first|rfl|(exfalso;omega)
theorem EntAt.keep {W w:Xq}{S:Nat->Prop}{e:Entry}{v1 v2 v3:Xr}(h:EntAt W S e v1 v2 v3)(i:∀b,S b->b<W.heap.size->w.heap[b]? = W.heap[b]?):EntAt w S e v1 v2 v3 :=
 ⟨h.seen.keep (by decide) i,h.counts.keep (by decide) i,h.items.keep (by decide) i⟩
theorem zxn {h:Entry}{c:Nat}{e:Entry}{p:Entry×Nat}(h1:h.seen=e.seen)(j:h.key=e.key)(i:some (h,c)=some p):p.1.seen=e.seen/\p.1.key=e.key:=by
 have:=Option.some.inj i;rw[<- this];exact⟨h1,j⟩
theorem zzv {kk:Nat}{e:Entry}{o:OpD}{d:Dot}{p:Entry×Nat}(h:doE kk e o d=some p):p.1.seen=e.seen/\p.1.key=e.key:=by
 unfold doE at h
 repeat' split at h
 all_goals first|(refine zxn (e:=e) ?_ ?_ h<;>rfl)|cases h
structure U4 (w V:Xq) (E O D:List Xr):Prop where
 ext:Ext w V
 size:w.heap.size+4<=V.heap.size
 e:RowIs V w.heap.size 46 E []
 o:RowIs V (w.heap.size+1) 99 O []
 d:RowIs V (w.heap.size+1+1) 59 D []
 r:RowIs V (w.heap.size+1+1+1) 46 [St [],Xk none 0 0,Xk none 0 0,Xk none 0 0,.int .u64 0,St [],Xm false] []
theorem U4.start (w:Xq)(E h i:List Xr):U4 w ((((w.alloc (Xo E.toArray 46)).alloc (Xo h.toArray 99)).alloc (Xo i.toArray 59)).alloc (Xo #[St [],Xk none 0 0,Xk none 0 0,Xk none 0 0,.int .u64 0,St [],Xm false] 46)) E h i:=by
 have h1:=zaf (w.alloc (Xo E.toArray 46)) 99 h;have j:=zaf ((w.alloc (Xo E.toArray 46)).alloc (Xo h.toArray 99)) 59 i;have l:=zaf (((w.alloc (Xo E.toArray 46)).alloc (Xo h.toArray 99)).alloc (Xo i.toArray 59)) 46 [St [],Xk none 0 0,Xk none 0 0,Xk none 0 0,.int .u64 0,St [],Xm false];simp only[Qm]at h1 j l;exact⟨((((Ext.refl w).alloc _).alloc _).alloc _).alloc _,by simp,(((zaf w _ E).alloc _).alloc _).alloc _,(h1.alloc _).alloc _,j.alloc _,l⟩
theorem U4.on {w V m:Xq}{E l j:List Xr}(h:U4 w V E l j)(i:Ext V m):U4 w m E l j :=
 ⟨h.ext.trans i,Qc h.size i.size,h.e.ext i,h.o.ext i,h.d.ext i,h.r.ext i⟩
section
variable {w:Xq} {g T:Nat} {a b c d e f k:Xr}
theorem RowIs.c7 (h:RowIs w g T [a,b,c,d,e,f,k] []):w.cell? ⟨g,0,none⟩=some a/\w.cell? ⟨g,1,none⟩=some b/\w.cell? ⟨g,2,none⟩=some c/\w.cell? ⟨g,3,none⟩=some d/\w.cell? ⟨g,4,none⟩=some e/\w.cell? ⟨g,5,none⟩=some f/\w.cell? ⟨g,6,none⟩=some k :=
 ⟨h.cell rfl,h.cell rfl,h.cell rfl,h.cell rfl,h.cell rfl,h.cell rfl,h.cell rfl⟩
theorem RowIs.c4 (h:RowIs w g T [a,b,c,d] []):w.cell? ⟨g,0,none⟩=some a/\w.cell? ⟨g,1,none⟩=some b/\w.cell? ⟨g,2,none⟩=some c/\w.cell? ⟨g,3,none⟩=some d:=⟨h.cell rfl,h.cell rfl,h.cell rfl,h.cell rfl⟩
theorem RowIs.c2 (h:RowIs w g T [a,b] []):w.cell? ⟨g,0,none⟩=some a/\w.cell? ⟨g,1,none⟩=some b:=⟨h.cell rfl,h.cell rfl⟩
theorem RowIs.z7 {l:List Xr}(h:RowIs w g T l []):w.frozen? ⟨g,0,none⟩=false/\w.frozen? ⟨g,1,none⟩=false/\w.frozen? ⟨g,2,none⟩=false/\w.frozen? ⟨g,3,none⟩=false/\w.frozen? ⟨g,4,none⟩=false/\w.frozen? ⟨g,5,none⟩=false/\w.frozen? ⟨g,6,none⟩=false :=
 ⟨h.frozen 0,h.frozen 1,h.frozen 2,h.frozen 3,h.frozen 4,h.frozen 5,h.frozen 6⟩
end
theorem zzw {S:Nat->Prop}{e:Entry}{v1 v2 v3:Xr}{w:Xq}(o:OpD)(d:Dot)(t:EntAt w S e v1 v2 v3)(aw:SmallE e)(c3:-9223372036854775808<=o.2.2.1)(c5:o.2.2.1<=9223372036854775807) :
  Calls Tryz.prog 84 #[entV e v1 v2 v3,opV o,dotV d] w fun r w'=>∃ba bb bc,r=Xp (Xn #[entV (updE e o d).1 ba bb bc,I (updE e o d).2])/\EntAt w' (fun b=>w.heap.size<=b) (updE e o d).1 ba bb bc/\Ext w w':=by
 obtain⟨ac,es,z,A,C,D,F⟩:=e;obtain⟨s,k,n,tx⟩:=o;obtain⟨d1,h⟩:=d;obtain⟨bm,b2,bn,b3,bo,b4,rfl,rfl,rfl⟩:=t.fm;have cq:=U4.start w [St ac,Xk bm es.length b2,Xk bn z.length b3,Xk bo A.length b4,U C,St D,Xm F] [K8 s,St k,I n,St tx] [St d1,U h];have cr:=zH (ya4 k ((((w.alloc (Xo #[St ac,Xk bm es.length b2,Xk bn z.length b3,Xk bo A.length b4,U C,St D,Xm F] 46)).alloc (Xo #[K8 s,St k,I n,St tx] 99)).alloc (Xo #[St d1,U h] 59)).alloc (Xo #[St [],Xk none 0 0,Xk none 0 0,Xk none 0 0,.int .u64 0,St [],Xm false] 46)));have cc:=zH t;simp only at c3 c5;obtain⟨Y,hJ⟩:∃Y,updE ⟨ac,es,z,A,C,D,F⟩ (s,k,n,tx) (d1,h)=Y:=⟨_,rfl⟩
 have J:Hid (Y=if keyS k=false then(zak,10)else if ac≠k/\zbl ⟨ac,es,z,A,C,D,F⟩ zak=false then(zak,2)else if d1 = [] ∨ h<1 ∨ 281474976710656<h ∨ hasM es (d1,h)=true then(zak,2)else zfb ⟨k,es,z,A,C,D,F⟩ (s,k,n,tx) (d1,h)):=zH hJ.symm;rw[hJ]
 have c6:∀(c:Nat) (V:Xq),Ext w V->Y=(zak,c)->∃ba bb bc,(Ending.returned (Xn #[entV zak (Xk none 0 0) (Xk none 0 0) (Xk none 0 0),I c]))=Xp (Xn #[entV Y.1 ba bb bc,I Y.2])/\EntAt (put7 V (w.heap.size+1+1+1) zak (Xk none 0 0) (Xk none 0 0) (Xk none 0 0)) (fun b=>w.heap.size<=b) Y.1 ba bb bc/\Ext w (put7 V (w.heap.size+1+1+1) zak (Xk none 0 0) (Xk none 0 0) (Xk none 0 0)):=by rintro c V d9 rfl;exact⟨_,_,_,rfl,EntAt.none _ _ _ _ _,zeb d9 (by omega) zak _ _ _⟩
 have ar:=zH c6;clear t hJ c6;go_enter Tryz.func84,Tryz.ntmps84;refine wpH ?_;intro K ah;go_wp2_with fail;refine ah.out _ _ ?_;clear ah K;refine wpH ?_;intro K ah;go_wp2_with fail;refine cr.out.mono ?_;rintro r V⟨rfl,bj⟩;have i:=zH (cq.on bj);clear cq bj cr
 cases hk:keyS k
 case false=>
  have L:=zH (show Y=(zak,10) by rw[J.out,zP hk]);have M:=zH (i.out).ext;obtain⟨r0,r1,O,P,Q,R,X⟩:=(i.out).r.c7;obtain⟨f0,f1,ak,al,am,an,ao⟩:=(i.out).r.z7;clear J;go_wp2_with fail
  (try simp only[Exit.inBlock,Exit.then])
  exact bodyPost_ret (v:=Xn #[entV zak (Xk none 0 0) (Xk none 0 0) (Xk none 0 0),I 10]) (by simp[results,Tryz.f84,go_sem,entV,entC,zak,r0,r1,O,P,Q,R,X]) rfl (ar.out 10 _ M.out L.out)
 rw[hk]at J;have L:Hid (Y=if ac≠k/\zbl ⟨ac,es,z,A,C,D,F⟩ zak=false then(zak,2)else if d1 = [] ∨ h<1 ∨ 281474976710656<h ∨ hasM es (d1,h)=true then(zak,2)else zfb ⟨k,es,z,A,C,D,F⟩ (s,k,n,tx) (d1,h)):=zH (J.out.trans (zN (by simp)));clear J hk;go_wp2_with fail;refine ah.out _ _ ?_;clear ah K;refine wp_seq_k ?_;intro K hK
 have cx:∀(de df dg dh di dj dk dl dm dn dp dq dr ds:Xr) (V:Xq),U4 w V [St ac,Xk bm es.length b2,Xk bn z.length b3,Xk bo A.length b4,U C,St D,Xm F] [K8 s,St k,I n,St tx] [St d1,U h]->Y=(if d1 = [] ∨ h<1 ∨ 281474976710656<h ∨ hasM es (d1,h)=true then(zak,2)else zfb ⟨k,es,z,A,C,D,F⟩ (s,k,n,tx) (d1,h))->K ⟨#[.agg #[St ac,Xk bm es.length b2,Xk bn z.length b3,Xk bo A.length b4,U C,St D,Xm F],.agg #[K8 s,St k,I n,St tx],.agg #[St d1,U h],Xl (some ⟨w.heap.size,0,none⟩),Xl (some ⟨w.heap.size+1,0,none⟩),Xl (some ⟨w.heap.size+1+1,0,none⟩),Xl (some ⟨w.heap.size+1+1+1,0,none⟩),I 0,Qa,Qa,Qa,Qa,de,df,dg,dh,Qa,di,dj,dk,dl,dm,dn,dp,dq,dr,ds,Qa,Qa,Qa,Qa,Qa,Qa,Qa,Qa,Qa,Qa,Qa,Qa,Qa,Qa,Qa,Qa,Qa,Qa,Qa,Qa,Qa,Qa,Qa,Qa,Qa,Qa,Qa,Qa,Qa,Qa,Qa,Qa,Qa,Qa,Qa,Qa,Qa,Qa,Qa,Qa,Qa,Qa,Qa,Qa,Qa,Qa,Qa,Qa,Qa,Qa,Qa,Qa,Qa,Qa,Qa,Qa,Qa],[]⟩ V:=by
  intro de df dg dh di dj dk dl dm dn dp dq dr ds V c8 c1;have i:=zH c8;have J:=zH c1;refine hK _ _ ?_;clear hK K c8 c1 L;obtain⟨d0,eq⟩:=i.out.d.c2
  by_cases ci:d1 = []
  ·subst ci;have L:=zH (show Y=(zak,2) by rw[J.out,zP (.inl rfl)]);have M:=zH (i.out).ext;obtain⟨r0,r1,O,P,Q,R,X⟩:=(i.out).r.c7;obtain⟨f0,f1,ak,al,am,an,ao⟩:=(i.out).r.z7;clear J;go_wp2_with fail
   (try simp only[Exit.inBlock,Exit.then])
   exact bodyPost_ret (v:=Xn #[entV zak (Xk none 0 0) (Xk none 0 0) (Xk none 0 0),I 2]) (by simp[results,Tryz.f84,go_sem,entV,entC,zak,r0,r1,O,P,Q,R,X]) rfl (ar.out 2 _ M.out L.out)
  have fb:(d1==[])=false:=by simpa using ci
  by_cases Z:(h:Int)<1
  ·skip
   have L:=zH (show Y=(zak,2) by rw[J.out,zP (.inr (.inl (by omega)))]);have M:=zH (i.out).ext;obtain⟨r0,r1,O,P,Q,R,X⟩:=(i.out).r.c7;obtain⟨f0,f1,ak,al,am,an,ao⟩:=(i.out).r.z7;clear J;go_wp2_with fail
   (try simp only[Exit.inBlock,Exit.then])
   exact bodyPost_ret (v:=Xn #[entV zak (Xk none 0 0) (Xk none 0 0) (Xk none 0 0),I 2]) (by simp[results,Tryz.f84,go_sem,entV,entC,zak,r0,r1,O,P,Q,R,X]) rfl (ar.out 2 _ M.out L.out)
  by_cases ad:(h:Int)>281474976710656
  ·skip
   have L:=zH (show Y=(zak,2) by rw[J.out,zP (.inr (.inr (.inl (by omega))))]);have M:=zH (i.out).ext;obtain⟨r0,r1,O,P,Q,R,X⟩:=(i.out).r.c7;obtain⟨f0,f1,ak,al,am,an,ao⟩:=(i.out).r.z7;clear J;go_wp2_with fail
   (try simp only[Exit.inBlock,Exit.then])
   exact bodyPost_ret (v:=Xn #[entV zak (Xk none 0 0) (Xk none 0 0) (Xk none 0 0),I 2]) (by simp[results,Tryz.f84,go_sem,entV,entC,zak,r0,r1,O,P,Q,R,X]) rfl (ar.out 2 _ M.out L.out)
  have ay:=zH (zou (d1,h) (cc.out.seen.ext (by decide) i.out.ext));obtain⟨e0,y,a1,a2,a3,a4,a5⟩:=i.out.e.c7;cases bf:hasM es (d1,h)
  ·rw[bf]at ay;have L:=zH (show Y=zfb ⟨k,es,z,A,C,D,F⟩ (s,k,n,tx) (d1,h) by rw[J.out,zN (by simp[ci,bf];omega)]);clear J bf;refine wp_seq_k ?_;intro K hK;have ah:=zH hK;clear hK ar;have e1:1<=(h:Int):=(by omega);have e2:(h:Int)<=281474976710656:=(by omega);go_wp2_with fail;refine ay.out.mono ?_;rintro r V2⟨rfl,aa⟩;have i:=zH (i.out.on aa);clear e0 y a1 a2 a3 a4 a5 aa ay;go_wp2_with fail;refine ah.out _ _ ?_;clear ah K;have ct:=zH (zgs (cc.out.ext i.out.ext) (Qc aw.seen (by decide)) (Qc aw.counts (by decide)) (Qc aw.items (by decide)) (fun it d5=>Qc (aw.dots it d5) (by omega)));obtain⟨e0,y,a1,a2,a3,a4,a5⟩:=i.out.e.c7;go_wp2_with fail;refine ct.out.mono ?_;rintro r G⟨ba,bb,bc,rfl,bi,a8⟩;have fk:=a8.size;have fi:=i.out.size;have i:=zH (i.out.on a8);obtain⟨bp,bz,bq,b0,br,b1,rfl,rfl,rfl⟩:=bi.fm;have cv:=zH (show EntAt G (fun b=>V2.heap.size<=b/\b<G.heap.size) ⟨k,es,z,A,(C,D,F)⟩ (Xk bp es.length bz) (Xk bq z.length b0) (Xk br A.length b1)from(show EntAt G (fun b=>V2.heap.size<=b) ⟨k,es,z,A,(C,D,F)⟩ _ _ _ from⟨bi.at.seen,bi.at.counts,bi.at.items⟩).mono fun b hb t=>⟨t,hb⟩);obtain⟨b5,q1,c9,q3⟩:=i.out.o.c4;obtain⟨bj,fn,eg,db,da,ap⟩:=i.out;obtain rfl:=L.out;clear a8 bi ct i L e0 y a1 a2 a3 a4 a5;have fd:w.heap.size+1<G.heap.size:=(by omega);go_wp2_with fail;have cn:=zaf G 46 [St k,Xk bp es.length bz,Xk bq z.length b0,Xk br A.length b1,U C,St D,Xm F];have au:=(Ext.refl G).alloc (Xo #[St k,Xk bp es.length bz,Xk bq z.length b0,Xk br A.length b1,U C,St D,Xm F] 46);have av:=db.ext au;have b6:=da.ext au;have dc:=ap.ext au;have cw:=zH (cv.out.ext au);have a8:=bj.trans au;have fl:=cn.lt;generalize d3:G.alloc (Xo #[St k,Xk bp es.length bz,Xk bq z.length b0,Xk br A.length b1,U C,St D,Xm F] 46)=ab at *;have fh:=au.size;clear d3 db da ap eg bj au cv b5 q1 c9 q3
   refine zat [fun v _=>v=opV (s,k,n,tx),fun v _=>v=dotV (d1,h),fun v H=>∃B m,ab.heap.size<=B/\B+6<=H.heap.size/\UpdAt H B G.heap.size n tx (d1,h) m/\v=.map (some m),fun v _=>v=Xl (some ⟨w.heap.size+1,1,none⟩),fun v _=>v=St k,fun v _=>v=K8 (zas k),fun v H=>∃B m,ab.heap.size<=B/\B+6<=H.heap.size/\UpdAt H B G.heap.size n tx (d1,h) m/\InnerIs H B (zas k) v,fun v _=>v=Xl (some ⟨w.heap.size+1,0,none⟩),fun v _=>v=K8 s,fun v H=>∃B m,ab.heap.size<=B/\B+6<=H.heap.size/\UpdAt H B G.heap.size n tx (d1,h) m/\v=Xn #[(zce B (zas k) s).getD .nilFunc,Xm (zce B (zas k) s).isSome],fun v H=>∃B m,ab.heap.size<=B/\B+6<=H.heap.size/\UpdAt H B G.heap.size n tx (d1,h) m/\v=Xn #[(zce B (zas k) s).getD .nilFunc,Xm (zce B (zas k) s).isSome],fun v H=>∃B m,ab.heap.size<=B/\B+6<=H.heap.size/\UpdAt H B G.heap.size n tx (d1,h) m/\v=(zce B (zas k) s).getD .nilFunc,fun v _=>v=Xm (doE (zas k) ⟨k,es,z,A,(C,D,F)⟩ (s,k,n,tx) (d1,h)).isSome,fun v H=>∃B m,ab.heap.size<=B/\B+6<=H.heap.size/\UpdAt H B G.heap.size n tx (d1,h) m/\v=(zce B (zas k) s).getD .nilFunc] rfl (by kernel_rfl) ?hR ?hstep ?hend
   case hR=>simp only[zM];exact⟨kP,kP,fun v _ _ t l=>by obtain⟨B,m,h1,Z,ad,ag⟩:=t;exact⟨B,m,h1,Qc Z l.size,ad.ext l,ag⟩,kP,kP,kP,fun v _ _ t l=>by obtain⟨B,m,h1,Z,ad,ag⟩:=t;exact⟨B,m,h1,Qc Z l.size,ad.ext l,ag.ext l⟩,kP,kP,fun v _ _ t l=>by obtain⟨B,m,h1,Z,ad,ag⟩:=t;exact⟨B,m,h1,Qc Z l.size,ad.ext l,ag⟩,fun v _ _ t l=>by obtain⟨B,m,h1,Z,ad,ag⟩:=t;exact⟨B,m,h1,Qc Z l.size,ad.ext l,ag⟩,fun v _ _ t l=>by obtain⟨B,m,h1,Z,ad,ag⟩:=t;exact⟨B,m,h1,Qc Z l.size,ad.ext l,ag⟩,kP,fun v _ _ t l=>by obtain⟨B,m,h1,Z,ad,ag⟩:=t;exact⟨B,m,h1,Qc Z l.size,ad.ext l,ag⟩⟩
   case hstep =>
    simp only[zS,zD,Qf,zbj]
    and_intros<;>intro x W l f
    ·have t:x 4=Xl (some ⟨w.heap.size+1,0,none⟩):=f.1;have b5:=(av.ext l).cell (j:=0) rfl;have q1:=(av.ext l).cell (j:=1) rfl;have c9:=(av.ext l).cell (j:=2) rfl;have q3:=(av.ext l).cell (j:=3) rfl;go_wp;exact sQ
    ·have t:x 5=Xl (some ⟨w.heap.size+1+1,0,none⟩):=f.1;have b5:=(b6.ext l).cell (j:=0) rfl;have q1:=(b6.ext l).cell (j:=1) rfl;go_wp;exact sQ
    ·have e7:x 8=Xl (some ⟨G.heap.size,0,none⟩):=f.1;have e3:_=_:=f.2.1;have e4:_=_:=f.2.2.1;have a7:=l.size;have ax:=zH (zs0 (W:=W) (E:=G.heap.size) k s n tx (d1,h));go_wp;refine ax.out.mono ?_;rintro r H⟨m,rfl,N,ea,aa⟩;dsimp only;go_wp;exact zaa (v:=.map (some m)) ⟨W.heap.size,m,a7,ea,N,rfl⟩ aa
    ·have t:x 4=Xl (some ⟨w.heap.size+1,0,none⟩):=f.1;go_wp;exact sQ
    ·have t:_=_:=f.1;have q1:=(av.ext l).cell (j:=1) rfl;go_wp;exact sQ
    ·have t:_=_:=f.1;have ax:=zH (zkw k W);go_wp;refine ax.out.mono ?_;rintro r H⟨rfl,aa⟩;dsimp only;go_wp;exact zaa rfl aa
    ·obtain⟨B,m,ae,af,N,t⟩:∃B m,ab.heap.size<=B/\B+6<=W.heap.size/\UpdAt W B G.heap.size n tx (d1,h) m/\x 56=.map (some m):=f.1;have e5:_=_:=f.2.1;obtain⟨u,d7,d8⟩:=zzu N (zas k);have d6:=d7 W (Ext.refl _);go_wp;exact zaa (v:=u) ⟨B,m,ae,af,N,d8⟩ (Ext.refl _)
    ·have t:x 4=Xl (some ⟨w.heap.size+1,0,none⟩):=f.1;go_wp;exact sQ
    ·have t:_=_:=f.1;have b5:=(av.ext l).cell (j:=0) rfl;go_wp;exact sQ
    ·obtain⟨B,m,ae,af,N,d2⟩:∃B m,ab.heap.size<=B/\B+6<=W.heap.size/\UpdAt W B G.heap.size n tx (d1,h) m/\InnerIs W B (zas k) (x 60):=f.1;have e6:_=_:=f.2.1;have d6:=d2 W (Ext.refl _) s;go_wp;exact zaa ⟨B,m,ae,af,N,rfl⟩ (Ext.refl _)
    ·obtain⟨B,m,ae,af,N,t⟩:∃B m,ab.heap.size<=B/\B+6<=W.heap.size/\UpdAt W B G.heap.size n tx (d1,h) m/\x 63=Xn #[(zce B (zas k) s).getD .nilFunc,Xm (zce B (zas k) s).isSome]:=f.1;go_wp;exact zaa ⟨B,m,ae,af,N,rfl⟩ (Ext.refl _)
    ·obtain⟨B,m,ae,af,N,t⟩:∃B m,ab.heap.size<=B/\B+6<=W.heap.size/\UpdAt W B G.heap.size n tx (d1,h) m/\x 53=Xn #[(zce B (zas k) s).getD .nilFunc,Xm (zce B (zas k) s).isSome]:=f.1;go_wp;exact zaa ⟨B,m,ae,af,N,rfl⟩ (Ext.refl _)
    ·obtain⟨B,m,ae,af,N,t⟩:∃B m,ab.heap.size<=B/\B+6<=W.heap.size/\UpdAt W B G.heap.size n tx (d1,h) m/\x 53=Xn #[(zce B (zas k) s).getD .nilFunc,Xm (zce B (zas k) s).isSome]:=f.1;rw[zuw B (zas k) ⟨k,es,z,A,(C,D,F)⟩ (s,k,n,tx) (d1,h)]at t;go_wp;exact sQ
    obtain⟨B,m,ae,af,N,t⟩:∃B m,ab.heap.size<=B/\B+6<=W.heap.size/\UpdAt W B G.heap.size n tx (d1,h) m/\x 64=(zce B (zas k) s).getD .nilFunc:=f.1;go_wp
    first|exact zaa ⟨B,m,ae,af,N,rfl⟩ (Ext.refl _)|exact zaa ⟨B,m,ae,af,N,t⟩ (Ext.refl _)
   case hend =>
    intro x W l f;obtain⟨B,m,e8,e9,N,bv⟩:∃B m,ab.heap.size<=B/\B+6<=W.heap.size/\UpdAt W B G.heap.size n tx (d1,h) m/\x 9=(zce B (zas k) s).getD .nilFunc:=f.2.2.2.2.2.2.2.2.2.2.2.2.2.1;have bu:x 65=Xm (doE (zas k) ⟨k,es,z,A,(C,D,F)⟩ (s,k,n,tx) (d1,h)).isSome:=f.2.2.2.2.2.2.2.2.2.2.2.2.1;clear f;have cm:=a8.trans l;have co:=cn.ext l;have b7:=b6.ext l;have ap:=dc.ext l;have cf:=zH (cw.out.ext l);have a0:=zH (show zfb ⟨k,es,z,A,(C,D,F)⟩ (s,k,n,tx) (d1,h)=match(doE (zas k) ⟨k,es,z,A,(C,D,F)⟩ (s,k,n,tx) (d1,h))with|none=>(zak,150)|some p=>if p.2=0 then({ p.1 with seen:=setM p.1.seen d1 h },0)else(zak,p.2)from rfl);have bd:=ybn (kk:=zas k) (o:=(s,k,n,tx)) (d:=(d1,h)) (e:=⟨k,es,z,A,(C,D,F)⟩) N c3 c5 (Qx aw.counts (by decide)) (Qx aw.places (by decide)) co cf.out (fun b hb=>⟨by omega,by omega⟩) (by omega);have cl:=@zzv (zas k) ⟨k,es,z,A,(C,D,F)⟩ (s,k,n,tx) (d1,h);generalize doE (zas k) ⟨k,es,z,A,(C,D,F)⟩ (s,k,n,tx) (d1,h)=dt at *;clear N l av b6 dc cw cn a8
    cases dt
    case none=>
     clear bd bv cl;have ai:=zH a0.out;obtain⟨r0,r1,O,P,Q,R,X⟩:=ap.p7;obtain⟨f0,f1,ak,al,am,an,ao⟩:=ap.q7;have M:=zH cm;simp only[Option.isSome_none]at bu;clear co b7 cf a0;simp only[zS,zD,zU,Qf,Qh,zav,Act.put,bu];go_wp;go_wp2_with fail
     (try simp only[Exit.inBlock,Exit.then])
     refine bodyPost_ret (v:=Xn #[entV zak (Xk none 0 0) (Xk none 0 0) (Xk none 0 0),I 150]) (by simp[results,Tryz.f84,go_sem,entV,entC,zak,r0,r1,O,P,Q,R,X]) rfl ?_;have bh:=zeb (q:=w.heap.size+1+1+1) M.out (by omega) zak (Xk none 0 0) (Xk none 0 0) (Xk none 0 0);refine⟨Xk none 0 0,Xk none 0 0,Xk none 0 0,by(rw[ai.out];try rfl),?_⟩;rw[ai.out];exact⟨EntAt.none _ _ _ _ _,bh⟩
    rename_i p
    obtain⟨y,err⟩:=p;have dv:=zH (cl rfl);simp only[Option.isSome_some]at bu
    cases ch:zce B (zas k) s
    case none=>rw[ch]at bd;exact bd.elim
    rename_i c
    rw[ch]at bd bv;obtain⟨ez,ep,rfl,d4,cs⟩:=bd;simp only[Qn]at bv;have ax:=zH cs;clear cs ch cl;simp only[zS,zD,zU,Qf,Qh,zav,Act.put,bu,bv];go_wp;go_wp2_with fail;refine ax.out.mono ?_;rintro r eo⟨rfl,dz⟩;obtain⟨fo,fp,bw,a6,bg⟩:=dz;have bx:=cm.kept2 bg (by omega) (by omega);have bk:=ap.keep (bg.other _ ap.lt (by omega) (by omega));have b8:=b7.keep (bg.other _ b7.lt (by omega) (by omega));have fj:=bg.size;clear ax ap b7 co cf cm bg d4
    by_cases c0:err=0
    ·subst c0;have ai:=zH (show zfb ⟨k,es,z,A,(C,D,F)⟩ (s,k,n,tx) (d1,h)=({ y with seen:=setM y.seen d1 h },0)from a0.out);have cu:=zH (zj9 d1 h a6.seen (by rw[dv.out.1];exact Qc aw.seen (by decide)));obtain⟨bs,ca,rfl,-,-⟩:=a6.counts.form;obtain⟨bt,cb,rfl,-,-⟩:=a6.items.form;have eb:=bw.cell (j:=1) rfl;have dx:=b8.cell (j:=0) rfl;have dy:=b8.cell (j:=1) rfl;have du:=zH a6;clear a6 a0;go_wp2_with fail;refine cu.out.mono ?_;rintro r cy⟨u,rfl,ck,a9⟩;obtain⟨aj,aq,rfl,-,-⟩:=ck.form;have be:=bw.ext a9;have b9:=bk.ext a9;have fc:=be.frozen 1;have fa:=be.cell (j:=1) rfl;have fg:=a9.size;have cg:=be.set (j:=1) (by simp) (Xk aj (setM y.seen d1 h).length aq);have cp:=b9.other (p:=⟨G.heap.size,1,none⟩) (by simp;omega) (Xk aj (setM y.seen d1 h).length aq);simp only[List.set_cons_succ,List.set_cons_zero]at cg;obtain⟨fq,fr,fs,ft,fu,fv,fw⟩:=be.p7;obtain⟨eh,ei,ej,ek,el,em,en⟩:=b9.p7;obtain⟨er,et,eu,ev,ew,ex,ey⟩:=b9.q7;obtain⟨fx,fy,fz,f2,f3,f4,f5⟩:=cg.p7;obtain⟨r0,r1,O,P,Q,R,X⟩:=cp.p7;obtain⟨f0,f1,ak,al,am,an,ao⟩:=cp.q7;have M:=zH (((bx.trans a9).set (p:=⟨G.heap.size,1,none⟩) (by simp;omega) (Xk aj (setM y.seen d1 h).length aq)));have cd:=zH ck;have dw:=zH a9;clear bw be cg bk b9 cp b8 ck a9 bx cu eb dx dy;go_wp2_with fail
     (try simp only[Exit.inBlock,Exit.then])
     refine bodyPost_ret (v:=Xn #[entV { y with seen:=setM y.seen d1 h } (Xk aj (setM y.seen d1 h).length aq) (Xk bs y.counts.length ca) (Xk bt y.items.length cb),I 0]) (by simp[results,Tryz.f84,go_sem,entV,entC,r0,r1,O,P,Q,R,X,eh,ei,ej,ek,el,em,en]) rfl ?_;have bh:=zeb (q:=w.heap.size+1+1+1) M.out (by omega) { y with seen:=setM y.seen d1 h } (Xk aj (setM y.seen d1 h).length aq) (Xk bs y.counts.length ca) (Xk bt y.items.length cb);refine⟨Xk aj (setM y.seen d1 h).length aq,Xk bs y.counts.length ca,Xk bt y.items.length cb,by(rw[ai.out];try rfl),?_⟩;rw[ai.out];refine⟨?_,bh⟩
     have cj:∀b,b≠G.heap.size->b≠w.heap.size+1+1+1->(put7 (cy.setCell ⟨G.heap.size,1,none⟩ (Xk aj (setM y.seen d1 h).length aq)) (w.heap.size+1+1+1) { y with seen:=setM y.seen d1 h } (Xk aj (setM y.seen d1 h).length aq) (Xk bs y.counts.length ca) (Xk bt y.items.length cb)).heap[b]? = cy.heap[b]?:=fun b h1 Z=>(zgw _ _ _ _ _ _ b Z).trans (Qb _ _ _ _ h1)
     have cz:=du.out.ext dw.out;refine⟨?_,?_,?_⟩
     ·exact(zbb (cd.out.keep fun b hb _=>cj b (by have:=(cd.out.base_le hb).1;omega) (by have:=(cd.out.base_le hb).1;omega))).mono (by decide) fun b _ t=>by omega
     ·exact(cz.counts.keep (by decide) fun b hb _=>cj b (by rcases hb with hb|hb<;>omega) (by rcases hb with hb|hb<;>omega)).mono (by decide) fun b _ hb=>by rcases hb with hb|hb<;>omega
     exact(cz.items.keep (by decide) fun b hb _=>cj b (by rcases hb with hb|hb<;>omega) (by rcases hb with hb|hb<;>omega)).mono (by decide) fun b _ hb=>by rcases hb with hb|hb<;>omega
    have ai:=zH (show zfb ⟨k,es,z,A,(C,D,F)⟩ (s,k,n,tx) (d1,h)=(zak,err) by rw[a0.out];exact zN c0);have ff:((err:Int)==0)=false:=neI (by omega);obtain⟨r0,r1,O,P,Q,R,X⟩:=bk.p7;obtain⟨f0,f1,ak,al,am,an,ao⟩:=bk.q7;have M:=zH bx;clear bw a6 b8 a0 bx bk;go_wp2_with fail
    (try simp only[Exit.inBlock,Exit.then])
    refine bodyPost_ret (v:=Xn #[entV zak (Xk none 0 0) (Xk none 0 0) (Xk none 0 0),I err]) (by simp[results,Tryz.f84,go_sem,entV,entC,zak,r0,r1,O,P,Q,R,X]) rfl ?_;have bh:=zeb (q:=w.heap.size+1+1+1) M.out (by omega) zak (Xk none 0 0) (Xk none 0 0) (Xk none 0 0);refine⟨Xk none 0 0,Xk none 0 0,Xk none 0 0,by(rw[ai.out];try rfl),?_⟩;rw[ai.out];exact⟨EntAt.none _ _ _ _ _,bh⟩
  rw[bf]at ay;go_wp2_with fail;refine ay.out.mono ?_;rintro r V2⟨rfl,aa⟩;have i:=zH (i.out.on aa);clear e0 y a1 a2 a3 a4 a5 aa ay;have L:=zH (show Y=(zak,2) by rw[J.out,zP (.inr (.inr (.inr bf)))]);have M:=zH (i.out).ext;obtain⟨r0,r1,O,P,Q,R,X⟩:=(i.out).r.c7;obtain⟨f0,f1,ak,al,am,an,ao⟩:=(i.out).r.z7;clear J;go_wp2_with fail
  (try simp only[Exit.inBlock,Exit.then])
  exact bodyPost_ret (v:=Xn #[entV zak (Xk none 0 0) (Xk none 0 0) (Xk none 0 0),I 2]) (by simp[results,Tryz.f84,go_sem,entV,entC,zak,r0,r1,O,P,Q,R,X]) rfl (ar.out 2 _ M.out L.out)
 have ce:=zH cx;clear cx hK;have az:=zH (zpm (cc.out.ext i.out.ext));obtain⟨e0,y,a1,a2,a3,a4,a5⟩:=i.out.e.c7;obtain⟨ec,ed,ee,ef⟩:=i.out.o.c4
 by_cases l:ac=k
 ·subst l;clear az;go_wp2_with fail;exact ce.out _ _ _ _ _ _ _ _ _ _ _ _ _ _ _ i.out (L.out.trans (zN fun t=>t.1 rfl))
 have fe:(ac==k)=false:=by simpa using l
 cases a7:zbl ⟨ac,es,z,A,C,D,F⟩ zak
 ·clear ce;rw[a7]at az;go_wp2_with fail;refine az.out.mono ?_;rintro r V2⟨rfl,aa⟩;have i:=zH (i.out.on aa);clear e0 y a1 a2 a3 a4 a5 ec ed ee ef aa az;have J:=L;have L:=zH (show Y=(zak,2) by rw[J.out,zP ⟨l,a7⟩]);have M:=zH (i.out).ext;obtain⟨r0,r1,O,P,Q,R,X⟩:=(i.out).r.c7;obtain⟨f0,f1,ak,al,am,an,ao⟩:=(i.out).r.z7;clear J;go_wp2_with fail
  (try simp only[Exit.inBlock,Exit.then])
  exact bodyPost_ret (v:=Xn #[entV zak (Xk none 0 0) (Xk none 0 0) (Xk none 0 0),I 2]) (by simp[results,Tryz.f84,go_sem,entV,entC,zak,r0,r1,O,P,Q,R,X]) rfl (ar.out 2 _ M.out L.out)
 rw[a7]at az;go_wp2_with fail;refine az.out.mono ?_;rintro r V2⟨rfl,aa⟩;go_wp2_with fail;exact ce.out _ _ _ _ _ _ _ _ _ _ _ _ _ _ _ (i.out.on aa) (L.out.trans (zN fun t=>by rw[a7]at t;cases t.2))
end
section
theorem zlx {κ:Type}[DecidableEq κ]{l:List κ}(h:l.Nodup):setL l=l:=by
 have:=zle l [] (by simpa using h)
 simpa[setL]using this
theorem zly {l:List Item}{s:Str}(h:(zcx l).Nodup):((zbd l s).map (·.2)).Nodup/\∀p∈zbd l s,p∈zab l:=by
 rw[zcn]at h;have h0:(zab l).Nodup:=(Qy.1 h).imp fun h e=>h (by rw[e])
 unfold zbd;rw[zlx h0];exact⟨List.Nodup.sublist ((List.filter_sublist).map _) h,fun p i=>(Qt.1 i).1⟩
theorem zc2 {l:List Item}(h:GoodB l){p:zan}(j:p∈zab l):OkD p.2/\p.1.length<=4096/\p.2∈zcx l:=by
 have i:p.2∈zcx l:=by rw[zcn];exact Qr.2 ⟨p,j,rfl⟩
 obtain⟨it,m,n⟩:=Qz.1 j;obtain⟨d,o,rfl⟩:=Qr.1 n;exact⟨h.2.2.1 _ i,(h.2.1 it m).1,i⟩
theorem zux {l:List Item}(s:Str)(i:GoodB l):GoodB (zf2 l s)/\∀d∈zcx (zf2 l s),d∈zcx l:=by
 obtain⟨h1,j⟩:=zly (s:=s) i.2.2.2;refine⟨zh0 h1 (fun p h=>(zc2 i (j p h)).1) (fun p h=>(zc2 i (j p h)).2.1),fun d m=>?_⟩;obtain⟨p,h,rfl⟩:=zn7 m;exact(zc2 i (j p h)).2.2
theorem zxo {l:List Item}{s:Str}{d:Dot}(j:GoodB l)(t:OkD d)(q:d∉zcx l)(h0:(putB l s d).2=0):GoodB (putB l s d).1/\∀x∈zcx (putB l s d).1,x=d ∨ x∈zcx l:=by
 unfold putB at h0 ⊢
 by_cases n:4096<s.length
 ·rw[zP n]at h0;cases h0
 rw[zN n]at h0 ⊢
 by_cases o:256<=(ze2 (zbd l s)).length
 ·rw[zP o]at h0;cases h0
 rw[zN o];obtain⟨h1,m⟩:=zly (s:=s) j.2.2.2;have v:(s,d)∉zbd l s:=fun u=>q (zc2 j (m _ u)).2.2
 have ha:addK (zbd l s) (s,d)=zbd l s++[(s,d)]:=(by unfold addK;rw[zN v]);rw[ha]
 have i:∀p∈zbd l s++[(s,d)],p∈zbd l s ∨ p=(s,d):=fun p i=>by
  rcases Qo.1 i with i|i
  ·exact .inl i
  exact .inr (by simpa using i)
 refine⟨zh0 ?_ (fun p h=>?_) (fun p h=>?_),fun x y=>?_⟩
 ·rw[List.map_append,List.nodup_append];refine⟨h1,by simp,fun a r b hb=>?_⟩;simp only[Qq,List.map_nil,Qw]at hb;subst hb;obtain⟨p,h,rfl⟩:=Qr.1 r;intro e;exact q (e▸(zc2 j (m p h)).2.2)
 ·rcases i p h with h|rfl
  ·exact(zc2 j (m p h)).1
  exact t
 ·rcases i p h with h|rfl
  ·exact(zc2 j (m p h)).2.1
  exact Nat.not_lt.1 n
 obtain⟨p,h,rfl⟩:=zn7 y;rcases i p h with h|rfl
 ·exact .inr (zc2 j (m p h)).2.2
 exact .inl rfl
structure PreE (e:Entry):Prop where
 good:GoodM e.seen
 most:∀m∈e.seen,m.2<=281474976710656
 one:zas e.key=1->e.items = []/\e.cell=zgd/\∀c∈e.counts,c.1 = [] ∨ ofM e.seen c.1≠0
 two:zas e.key=2->GoodB e.items/\(∀d∈zcx e.items,hasM e.seen d=true)/\e.counts = []/\e.cell=zgd
 three:zas e.key=3->e.counts = []/\e.items = []
theorem zjw:GoodB []:=⟨.nil,by simp,by simp[zcx],by simp[zcx]⟩
theorem zrh {e:Entry}(i:mayE e=true):PreE e:=by
 unfold mayE at i;rw[Qi,Qi]at i;obtain⟨h1,u,h⟩:=i;obtain⟨-,o,p⟩:=mayM_iff.1 h1;refine⟨o,p,fun hk=>?_,fun hk=>?_,fun hk=>?_⟩
 ·rw[zP hk]at h;simp only[may1,Qi,decide_eq_true_eq,Ql]at h;obtain⟨n,j,l,m⟩:=h;refine⟨l,m,fun c q=>?_⟩;have:=Qs.1 j c q
  by_cases i:c.1 = []
  ·exact .inl i
  refine .inr fun h0=>?_
  simp[i,h0]at this
 ·rw[zN (by omega),zP hk]at h;simp only[may2,Qi,decide_eq_true_eq,Ql]at h;obtain⟨n,j,l,m⟩:=h;refine⟨mayB_iff.1 n,fun d r=>?_,l,m⟩;obtain⟨it,t,s⟩:=Qz.1 r;exact Qs.1 (Qs.1 j it t) d s
 rw[zN (by omega),zN (by omega),zP hk]at h;simp only[may3,Qi,decide_eq_true_eq,Ql]at h;exact h.2
end
end Go.Proofs.YtaabaflgeljbjaaGreat
