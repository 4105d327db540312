/- gossamerlaw16.StateJoins: the walk. Printed by pp.py out of src/Joins1.src. -/
import Derived.Test.YtdikcgmdmcfpfaaGreatJo41
import Derived.Test.YtdikcgmdmcfpfaaGreatJo32
import Derived.Test.YtdikcgmdmcfpfaaGreatJo47
import Derived.Test.YtdikcgmdmcfpfaaGreatJo48
import Derived.Test.YtdikcgmdmcfpfaaGreatJo25
set_option linter.unusedVariables false
set_option linter.unusedSimpArgs false
set_option maxRecDepth 100000
set_option maxHeartbeats 40000000
namespace Go.Proofs.YtdikcgmdmcfpfaaGreat
section
open Go.RowKit Go.Shelf
theorem ze7 {s:State} (h:zcl s=false):s.all.length<=60/\s.entries.length<=20/\s.pruned.length<=60/\∀ e ∈ s.entries,RefSm e/\e.key.length<=1000000:=by
 simp only [zcl,Bool.or_eq_false_iff,decide_eq_false_iff_not,Nat.not_lt] at h;obtain⟨h1,h2,h3,h4,-⟩:=h;refine ⟨h1,h2,h3,fun e he=>?_⟩
 have hl:zcb e=false:=by
  cases hl:zcb e with
  | false=>rfl
  | true=>rw [List.any_eq_true.2 ⟨e,he,hl⟩] at h4;cases h4
 simp only [zcb,Bool.or_eq_false_iff,decide_eq_false_iff_not,Nat.not_lt] at hl;obtain⟨k1,k2,k3,k4,-⟩:=hl;have h5:=zw0 e.items;have h6:=zpe e.items;exact⟨⟨by omega,by omega,by omega,by omega⟩,by omega⟩
theorem zxh {s:State} (h:zcl s=false) (hr:RM s):SmR s:=by
 obtain⟨h1,h2,h3,h4⟩:=ze7 h;exact⟨by omega,by omega,by omega,fun e he=>⟨(h4 e he).1,(hr.seen e he).1⟩⟩
theorem zxi {s:State} (h:SmR s) (base:List Mark):SmR (zfh s base) :=
 ⟨h.all,Nat.le_trans (List.length_filter_le _ _) h.ents,h.pr,fun e he=>h.each e (List.mem_filter.1 he).1⟩
theorem zrn {s:State} (h:SmallS s) (base:List Mark):SmallS (zfh s base) :=
 ⟨h.all,Nat.le_trans (List.length_filter_le _ _) h.entries,h.pruned,fun e he=>h.each e (List.mem_filter.1 he).1⟩
theorem zuz {S1 S2 S3 S4:Nat->Prop} {a b:State} {a1 a2 a3 b1 b2 b3 v3 v4:Value} {base other:List Mark} {w:World} (ha:StAt w S1 a a1 a2 a3) (hb:StAt w S2 b b1 b2 b3) (hba:Sl markT w S3 v3 base) (hot:Sl markT w S4 v4 other) (ra:∀ e ∈ a.entries,RoomE e) (rb:∀ e ∈ b.entries,RoomE e) :
  Calls Tryz.prog 9 #[stV a1 a2 a3,stV b1 b2 b3,v3,v4] w fun r w'=>r=.returned (.bool true)/\Ext w w':=by
 obtain⟨sa,se,sp⟩:=a;obtain⟨ta,te,tp⟩:=b;obtain⟨A1,n1,rfl,-,-⟩:=ha.all.form;obtain⟨A2,n2,rfl,-,-⟩:=ha.entries.form;obtain⟨A3,n3,rfl,-,-⟩:=ha.pruned.form;obtain⟨B1,m1,rfl,-,-⟩:=hb.all.form;obtain⟨B2,m2,rfl,-,-⟩:=hb.entries.form;obtain⟨B3,m3,rfl,-,-⟩:=hb.pruned.form;obtain⟨P3,q3,rfl,-,-⟩:=hba.form;obtain⟨P4,q4,rfl,-,-⟩:=hot.form;have HA:=zH ha;have HB:=zH hb;have HBA:=zH hba;have HOT:=zH hot;have RAE:=zH ra;have RBE:=zH rb;clear ha hb hba hot ra rb;obtain⟨W0,hW0⟩:∃ W0,(w.alloc (.cells #[.slice A1 sa.length n1,.slice A2 se.length n2,.slice A3 sp.length n3] 30)).alloc (.cells #[.slice B1 ta.length m1,.slice B2 te.length m2,.slice B3 tp.length m3] 30)=W0:=⟨_,rfl⟩
 have HX:=zH (show Ext w W0 by rw [<- hW0];exact ((Ext.refl w).alloc _).alloc _);have RA:=zH (show RowIs W0 w.heap.size 30 [.slice A1 sa.length n1,.slice A2 se.length n2,.slice A3 sp.length n3] [] by rw [<- hW0];exact (zah w 30 [.slice A1 sa.length n1,.slice A2 se.length n2,.slice A3 sp.length n3]).alloc _);have RB:=zH (show RowIs W0 (w.heap.size+1) 30 [.slice B1 ta.length m1,.slice B2 te.length m2,.slice B3 tp.length m3] [] by rw [<- hW0];have h:=zah (w.alloc (.cells #[.slice A1 sa.length n1,.slice A2 se.length n2,.slice A3 sp.length n3] 30)) 30 [.slice B1 ta.length m1,.slice B2 te.length m2,.slice B3 tp.length m3];simp only [World.size_alloc] at h;exact h);have hz0:w.heap.size+2<=W0.heap.size:=by rw [<- hW0];simp
 have HL1:=zH (zmc (HA.out.ext HX.out) RAE.out);obtain⟨k0,k1,k2⟩:=RA.out.p3;obtain⟨j0,j1,j2⟩:=RB.out.p3;go_enter Tryz.func9,Tryz.ntmps9;go_wp2_with fail
 (try rw [hW0])
 clear hW0;refine HL1.out.mono ?_;rintro r W1 ⟨rfl,hx1⟩;clear k0 k1 k2 j0 j1 j2;replace RA:=zH (RA.out.ext hx1);replace RB:=zH (RB.out.ext hx1);replace HX:=zH (HX.out.trans hx1);replace hz0:=Nat.le_trans hz0 hx1.size;clear HL1 hx1;cases hl1:zcl ⟨sa,se,sp⟩
 case' true=>go_wp2_with fail;refine (ze2 _).mono ?_;rintro r Z ⟨rfl,hxz⟩;go_wp2_with fail;go_ret;exact⟨rfl,HX.out.trans hxz⟩
 have HL2:=zH (zmc (HB.out.ext HX.out) RBE.out);obtain⟨k0,k1,k2⟩:=RA.out.p3;obtain⟨j0,j1,j2⟩:=RB.out.p3;go_wp2_with fail;refine HL2.out.mono ?_;rintro r W2 ⟨rfl,hx1⟩;clear k0 k1 k2 j0 j1 j2;replace RA:=zH (RA.out.ext hx1);replace RB:=zH (RB.out.ext hx1);replace HX:=zH (HX.out.trans hx1);replace hz0:=Nat.le_trans hz0 hx1.size;clear HL2 hx1;cases hl2:zcl ⟨ta,te,tp⟩
 case' true=>go_wp2_with fail;refine (ze2 _).mono ?_;rintro r Z ⟨rfl,hxz⟩;go_wp2_with fail;go_ret;exact⟨rfl,HX.out.trans hxz⟩
 by_cases h60:(base.length:Int) > 60
 case' pos=>go_wp2_with fail;refine (ze2 _).mono ?_;rintro r Z ⟨rfl,hxz⟩;go_wp2_with fail;go_ret;exact⟨rfl,HX.out.trans hxz⟩
 have h60b:decide ((60:Int) < (base.length:Int))=false:=decide_eq_false (by omega)
 by_cases g60:(other.length:Int) > 60
 case' pos=>go_wp2_with fail;refine (ze2 _).mono ?_;rintro r Z ⟨rfl,hxz⟩;go_wp2_with fail;go_ret;exact⟨rfl,HX.out.trans hxz⟩
 have g60b:decide ((60:Int) < (other.length:Int))=false:=decide_eq_false (by omega);have HM1:=zH (zla (HA.out.ext HX.out) (ze7 hl1).2.2.2);obtain⟨k0,k1,k2⟩:=RA.out.p3;obtain⟨j0,j1,j2⟩:=RB.out.p3;go_wp2_with fail;refine HM1.out.mono ?_;rintro r W3 ⟨⟨y1,rfl,hy1⟩,hx1⟩;have HY1:=zH hy1;clear k0 k1 k2 j0 j1 j2;replace RA:=zH (RA.out.ext hx1);replace RB:=zH (RB.out.ext hx1);replace HX:=zH (HX.out.trans hx1);replace hz0:=Nat.le_trans hz0 hx1.size;clear HM1 hx1 hy1;cases y1
 case' false=>go_wp2_with fail;refine (ze2 _).mono ?_;rintro r Z ⟨rfl,hxz⟩;go_wp2_with fail;go_ret;exact⟨rfl,HX.out.trans hxz⟩
 have HRA:=zH (HY1.out rfl);have HM2:=zH (zla (HB.out.ext HX.out) (ze7 hl2).2.2.2);obtain⟨k0,k1,k2⟩:=RA.out.p3;obtain⟨j0,j1,j2⟩:=RB.out.p3;go_wp2_with fail;refine HM2.out.mono ?_;rintro r W4 ⟨⟨y2,rfl,hy2⟩,hx1⟩;have HY2:=zH hy2;clear k0 k1 k2 j0 j1 j2;replace RA:=zH (RA.out.ext hx1);replace RB:=zH (RB.out.ext hx1);replace HX:=zH (HX.out.trans hx1);replace hz0:=Nat.le_trans hz0 hx1.size;clear HM2 hx1 hy2;cases y2
 case' false=>go_wp2_with fail;refine (ze2 _).mono ?_;rintro r Z ⟨rfl,hxz⟩;go_wp2_with fail;go_ret;exact⟨rfl,HX.out.trans hxz⟩
 have HRB:=zH (HY2.out rfl);have SMA:=zH (zit hl1);have SMB:=zH (zit hl2);have SRA:=zH (zxh hl1 HRA.out);have SRB:=zH (zxh hl2 HRB.out);have hbl:base.length<=60:=by omega
 have hol:other.length<=60:=by omega
 have HSJ:=zH (fun e he=>((ze7 hl2).2.2.2 e he).1.seen);clear h60 h60b g60 g60b HY1 HY2 hl1;have HSI:=zH (zjw (HB.out.ext HX.out) (HBA.out.ext (by decide) HX.out) SMB.out (by omega));rw [<- zi6 base [],List.append_nil] at HSI;have HSR:=zH (fun (W:World) (he:Ext w W)=>zok (HB.out.ext he) (HBA.out.ext (by decide) he) (by omega) (fun e he=>Nat.le_trans (HSJ.out e he) (by decide)) (Nat.le_trans (ze7 hl2).2.1 (by decide)));have SSY:=zH (zrn SMB.out base);have RSY:=zH (zxi SRB.out base);have HJ0:=zH (zpn HRA.out HRB.out);have HAP:=zH (zuu HRA.out (zy6 HRB.out base) other);generalize zfh ⟨ta,te,tp⟩ base=Y at *;generalize za0 base=T at *;obtain⟨ya,ye,yp⟩:=Y;clear hl2 HSJ HRA HRB;obtain⟨k0,k1,k2⟩:=RA.out.p3;obtain⟨j0,j1,j2⟩:=RB.out.p3;go_wp2_with fail;refine HSI.out.mono ?_;rintro r W5 ⟨u0,u1,u2,u3,rfl,ho,hn,hx1⟩;clear k0 k1 k2 j0 j1 j2;replace RA:=zH (RA.out.ext hx1);replace RB:=zH (RB.out.ext hx1);replace HX:=zH (HX.out.trans hx1);replace hz0:=Nat.le_trans hz0 hx1.size;have hgN:=hz0;have hst:=hn.at;obtain⟨U0,c0,rfl,-,-⟩:=ho.form;obtain⟨U1,c1,rfl,-,-⟩:=hst.all.form;obtain⟨U2,c2,rfl,-,-⟩:=hst.entries.form;obtain⟨U3,c3,rfl,-,-⟩:=hst.pruned.form;have hxa:=(Ext.refl W5).alloc (.cells #[.slice U0 T.length c0,.slice U1 ya.length c1,.slice U2 ye.length c2,.slice U3 yp.length c3] 64);have RD:=zH (zah W5 64 [.slice U0 T.length c0,.slice U1 ya.length c1,.slice U2 ye.length c2,.slice U3 yp.length c3]);have HU0:=zH ((zax ho).ext (by decide) hxa);have HU:=zH (hst.ext hxa);have hg1:W5.heap.size < (W5.alloc (.cells #[.slice U0 T.length c0,.slice U1 ya.length c1,.slice U2 ye.length c2,.slice U3 yp.length c3] 64)).heap.size:=by simp
 replace RA:=zH (RA.out.ext hxa);replace RB:=zH (RB.out.ext hxa);replace HX:=zH (HX.out.trans hxa);replace hz0:=Nat.le_trans hz0 hxa.size;clear HSI ho hn hst hxa hx1;obtain⟨k0,k1,k2⟩:=RA.out.p3;obtain⟨j0,j1,j2⟩:=RB.out.p3;go_wp2_with fail;generalize W5.alloc (.cells #[.slice U0 T.length c0,.slice U1 ya.length c1,.slice U2 ye.length c2,.slice U3 yp.length c3] 64)=W6 at *;generalize W5.heap.size=g1 at *;refine (HSR.out W6 HX.out).mono ?_;rintro r W7 ⟨x0,x1,x2,x3,rfl,hs0,hst,hx1⟩;clear k0 k1 k2 j0 j1 j2;replace RA:=zH (RA.out.ext hx1);replace RB:=zH (RB.out.ext hx1);replace HX:=zH (HX.out.trans hx1);replace hz0:=Nat.le_trans hz0 hx1.size;obtain⟨X0,d0,rfl,-,-⟩:=hs0.form;obtain⟨X1,d1,rfl,-,-⟩:=hst.all.form;obtain⟨X2,d2,rfl,-,-⟩:=hst.entries.form;obtain⟨X3,d3,rfl,-,-⟩:=hst.pruned.form;have hst2:=hst.mono (S':=fun b=>b < W7.heap.size) (fun b hb _=>hb);have hxa:=(Ext.refl W7).alloc (.cells #[.slice X0 T.length d0,.slice X1 ya.length d1,.slice X2 ye.length d2,.slice X3 yp.length d3] 64);have RE:=zH (zah W7 64 [.slice X0 T.length d0,.slice X1 ya.length d1,.slice X2 ye.length d2,.slice X3 yp.length d3]);have HX0:=zH (hs0.ext (by decide) hxa);have HXX:=zH (hst2.ext hxa);have RD:=zH ((RD.out.ext hx1).ext hxa);have HU0:=zH ((HU0.out.ext (by decide) hx1).ext (by decide) hxa);have HU:=zH ((HU.out.ext hx1).ext hxa);have hg2:g1 < W7.heap.size:=Nat.lt_of_lt_of_le hg1 hx1.size;replace RA:=zH (RA.out.ext hxa);replace RB:=zH (RB.out.ext hxa);replace HX:=zH (HX.out.trans hxa);replace hz0:=Nat.le_trans hz0 hxa.size;clear HSR hs0 hst hst2 hxa hx1;obtain⟨k0,k1,k2⟩:=RA.out.p3;obtain⟨j0,j1,j2⟩:=RB.out.p3;go_wp2_with fail;generalize W7.alloc (.cells #[.slice X0 T.length d0,.slice X1 ya.length d1,.slice X2 ye.length d2,.slice X3 yp.length d3] 64)=W8 at *;clear k0 k1 k2 j0 j1 j2;generalize W7.heap.size=g2 at *;obtain⟨J,hJ⟩:∃ J,zet ⟨sa,se,sp⟩ ⟨ta,te,tp⟩=J:=⟨_,rfl⟩
 have HJ1:=zH hJ;have HJ2:=zH (HJ0.out.trans hJ);obtain⟨bl,hbl2⟩:∃ bl,T.length=bl:=⟨_,rfl⟩
 rw [hbl2] at RD RE HU0 HX0 ⊢;have HBL:=zH hbl2;clear hJ HJ0 hbl2
 refine zaq [fun v _=>v=stV (.slice A1 sa.length n1) (.slice A2 se.length n2) (.slice A3 sp.length n3),
  fun v _=>v=stV (.slice B1 ta.length m1) (.slice B2 te.length m2) (.slice B3 tp.length m3),
  fun v W=>∃ u1 u2 u3,v=stV u1 u2 u3/\StAt W (fun _=>True) J u1 u2 u3,
  fun v _=>v=stV (.slice A1 sa.length n1) (.slice A2 se.length n2) (.slice A3 sp.length n3),
  fun v _=>v=stV (.slice B1 ta.length m1) (.slice B2 te.length m2) (.slice B3 tp.length m3),
  fun v W=>∃ u1 u2 u3,v=stV u1 u2 u3/\StAt W (fun _=>True) J u1 u2 u3,
  fun v _=>v=.bool true,
  fun v _=>v=.bool false,
  fun v _=>v=.bool false,
  fun v _=>v=.pointer (some ⟨g1,0,none⟩),
  fun v _=>v=.slice U0 bl c0,
  fun v _=>v=.pointer (some ⟨g2,0,none⟩),
  fun v _=>v=.slice X0 bl d0,
  fun v _=>v=.bool true,
  fun v _=>v=.bool false,
  fun v _=>v=.bool false,
  fun v _=>v=.bool false,
  fun v _=>v=.pointer (some ⟨g1,1,none⟩),
  fun v _=>v=stV (.slice U1 ya.length c1) (.slice U2 ye.length c2) (.slice U3 yp.length c3),
  fun v _=>v=.pointer (some ⟨g2,1,none⟩),
  fun v _=>v=stV (.slice X1 ya.length d1) (.slice X2 ye.length d2) (.slice X3 yp.length d3),
  fun v _=>v=.bool true,
  fun v _=>v=.bool false] rfl (by kernel_rfl) ?hR ?hstep ?hend
 case hR=>simp only [List.mem_cons,List.not_mem_nil,or_false,forall_eq_or_imp,forall_eq];exact⟨kP,kP,fun v _ _ h he=>by obtain⟨u1,u2,u3,e,a⟩:=h;exact⟨u1,u2,u3,e,a.ext he⟩,kP,kP,fun v _ _ h he=>by obtain⟨u1,u2,u3,e,a⟩:=h;exact⟨u1,u2,u3,e,a.ext he⟩,kP,kP,kP,kP,kP,kP,kP,kP,kP,kP,kP,kP,kP,kP,kP,kP,kP⟩
 case hstep =>
  simp only [List.length_cons,List.length_nil,Nat.reduceAdd,List.take_succ_cons,List.take_zero,zbf,and_true];refine ⟨?_,?_,?_,?_,?_,?_,?_,?_,?_,?_,?_,?_,?_,?_,?_,?_,?_,?_,?_,?_,?_,?_,?_⟩
  ·intro x W he f;have h:x 4=.pointer (some ⟨w.heap.size,0,none⟩):=f.1;have hr:=RA.out.ext he;obtain⟨k0,k1,k2⟩:=hr.p3;go_wp;exact sQ
  ·intro x W he f;have h:x 5=.pointer (some ⟨w.heap.size+1,0,none⟩):=f.1;have hr:=RB.out.ext he;obtain⟨k0,k1,k2⟩:=hr.p3;go_wp;exact sQ
  ·intro x W he f;have h:x 48=stV (.slice A1 sa.length n1) (.slice A2 se.length n2) (.slice A3 sp.length n3):=f.1;have h2:x 49=stV (.slice B1 ta.length m1) (.slice B2 te.length m2) (.slice B3 tp.length m3):=f.2.1;have HC:=zH (zkx (HA.out.ext (HX.out.trans he)) (HB.out.ext (HX.out.trans he)) SMA.out SMB.out);go_wp;refine HC.out.mono ?_;rintro r W2 ⟨u1,u2,u3,rfl,hn,hx2⟩;dsimp only;go_wp;exact zaa (v:=stV u1 u2 u3) ⟨u1,u2,u3,rfl,by rw [<- HJ1.out];exact hn.at.mono (fun _ _ _=>trivial)⟩ hx2
  ·intro x W he f;have h:x 4=.pointer (some ⟨w.heap.size,0,none⟩):=f.1;have hr:=RA.out.ext he;obtain⟨k0,k1,k2⟩:=hr.p3;go_wp;exact sQ
  ·intro x W he f;have h:x 5=.pointer (some ⟨w.heap.size+1,0,none⟩):=f.1;have hr:=RB.out.ext he;obtain⟨k0,k1,k2⟩:=hr.p3;go_wp;exact sQ
  ·intro x W he f;have h:x 51=stV (.slice A1 sa.length n1) (.slice A2 se.length n2) (.slice A3 sp.length n3):=f.1;have h2:x 52=stV (.slice B1 ta.length m1) (.slice B2 te.length m2) (.slice B3 tp.length m3):=f.2.1;have HC:=zH (zkd (HA.out.ext (HX.out.trans he)) (HB.out.ext (HX.out.trans he)) SRA.out SRB.out);go_wp;refine HC.out.mono ?_;rintro r W2 ⟨u1,u2,u3,rfl,hn,hx2⟩;dsimp only;go_wp;exact zaa (v:=stV u1 u2 u3) ⟨u1,u2,u3,rfl,by rw [<- HJ2.out];exact hn.mono (fun _ _ _=>trivial)⟩ hx2
  ·intro x W he f;obtain⟨u1,u2,u3,h,hu⟩:∃ u1 u2 u3,x 50=stV u1 u2 u3/\StAt W (fun _=>True) J u1 u2 u3:=f.1;obtain⟨y1,y2,y3,h2,hy⟩:∃ u1 u2 u3,x 53=stV u1 u2 u3/\StAt W (fun _=>True) J u1 u2 u3:=f.2.1;have HC:=zH (zjy hu hy);rw [sameSt_iff.2 rfl] at HC;go_wp;refine HC.out.mono ?_;rintro r W2 ⟨rfl,hx2⟩;dsimp only;go_wp;exact zaa rfl hx2
  ·intro x W he f;have h:x 54=.bool true:=f.1;go_wp;exact sQ
  ·intro x W he f;have h:x 55=.bool false:=f.1;go_wp;exact sQ
  ·intro x W he f;have h:x 9=.pointer (some ⟨g1,0,none⟩):=f.1;have hg:x 56=.bool false:=f.2.1;go_wp;exact sQ
  ·intro x W he f;have h:x 57=.pointer (some ⟨g1,0,none⟩):=f.1;have hg:x 56=.bool false:=f.2.1;have hc:=(RD.out.ext he).cell (j:=0) rfl;go_wp;exact sQ
  ·intro x W he f;have h:x 10=.pointer (some ⟨g2,0,none⟩):=f.1;have hg:x 56=.bool false:=f.2.1;go_wp;exact sQ
  ·intro x W he f;have h:x 59=.pointer (some ⟨g2,0,none⟩):=f.1;have hg:x 56=.bool false:=f.2.1;have hc:=(RE.out.ext he).cell (j:=0) rfl;go_wp;exact sQ
  ·intro x W he f;have h:x 58=.slice U0 bl c0:=f.1;have h2:x 60=.slice X0 bl d0:=f.2.1;have hg:x 56=.bool false:=f.2.2.1;have HC:=zH (zh7 (HU0.out.ext (by decide) he) (HX0.out.ext (by decide) he));rw [decide_eq_true rfl] at HC;go_wp;refine HC.out.mono ?_;rintro r W2 ⟨rfl,hx2⟩;dsimp only;go_wp;exact zaa rfl hx2
  ·intro x W he f;have h:x 61=.bool true:=f.1;have hg:x 56=.bool false:=f.2.1;go_wp;exact sQ
  ·intro x W he f;have h:x 56=.bool false:=f.1;have h2:x 62=.bool false:=f.2.1;go_wp;exact sQ
  ·intro x W he f;have h:x 63=.bool false:=f.1;go_wp;exact sQ
  ·intro x W he f;have h:x 9=.pointer (some ⟨g1,0,none⟩):=f.1;have hg:x 64=.bool false:=f.2.1;go_wp;exact sQ
  ·intro x W he f;have h:x 65=.pointer (some ⟨g1,1,none⟩):=f.1;have hg:x 64=.bool false:=f.2.1;have hr:=RD.out.ext he;obtain⟨k0,k1,k2,k3⟩:=hr.p4;go_wp;exact sQ
  ·intro x W he f;have h:x 10=.pointer (some ⟨g2,0,none⟩):=f.1;have hg:x 64=.bool false:=f.2.1;go_wp;exact sQ
  ·intro x W he f;have h:x 67=.pointer (some ⟨g2,1,none⟩):=f.1;have hg:x 64=.bool false:=f.2.1;have hr:=RE.out.ext he;obtain⟨k0,k1,k2,k3⟩:=hr.p4;go_wp;exact sQ
  ·intro x W he f;have h:x 66=stV (.slice U1 ya.length c1) (.slice U2 ye.length c2) (.slice U3 yp.length c3):=f.1;have h2:x 68=stV (.slice X1 ya.length d1) (.slice X2 ye.length d2) (.slice X3 yp.length d3):=f.2.1;have hg:x 64=.bool false:=f.2.2.1;have HC:=zH (zjy (HU.out.ext he) (HXX.out.ext he));rw [sameSt_iff.2 rfl] at HC;go_wp;refine HC.out.mono ?_;rintro r W2 ⟨rfl,hx2⟩;dsimp only;go_wp;exact zaa rfl hx2
  ·intro x W he f;have h:x 69=.bool true:=f.1;have hg:x 64=.bool false:=f.2.1;go_wp;exact sQ
 case hend =>
  intro x W he f;have h64:x 64=.bool false:=f.2.2.2.2.2.2.2.2.2.2.2.2.2.2.2.2.1;have h70:x 70=.bool false:=f.2.2.2.2.2.2.2.2.2.2.2.2.2.2.2.2.2.2.2.2.2.2.1;clear f;simp only [List.length_cons,List.length_nil,Nat.reduceAdd,List.take_succ_cons,List.take_zero,List.filterMap_cons,List.filterMap_nil,List.drop_succ_cons,List.drop_zero,zaw,Act.put,List.setIfInBounds_toArray,List.set_cons_succ,List.set_cons_zero,h64,h70];have hxE:=RE.out.ext he;have E2:=zH (hxE.set (j:=0) (by simp) (.slice P4 other.length q4));simp only [List.set_cons_zero] at E2;have hk:∀ b,b ≠ g2->(W.setCell ⟨g2,0,none⟩ (.slice P4 other.length q4)).heap[b]? = W.heap[b]?:=fun b hb=>Below.heap_setCell _ _ _ _ hb
  have hgl:=hxE.lt;have RA2:=zH ((RA.out.ext he).keep (hk _ (by omega)));have RB2:=zH ((RB.out.ext he).keep (hk _ (by omega)));have HX2:=zH ((HX.out.trans he).set (p:=⟨g2,0,none⟩) (by simp;omega) (.slice P4 other.length q4));have HY2:=zH ((HXX.out.ext he).keep (w:=W.setCell ⟨g2,0,none⟩ (.slice P4 other.length q4)) (fun b hb _=>hk b (by omega)));obtain⟨i0,i1,i2,i3⟩:=hxE.p4;have fr:=hxE.frozen 0;clear h64 h70 hk hgl hxE he HU0 HX0 HU HXX RD RE RA RB HX;have HAS:=zH (fun (W':World) (h:Ext (W.setCell ⟨g2,0,none⟩ (.slice P4 other.length q4)) W')=>zjx (HA.out.ext (HX2.out.trans h)) (HY2.out.ext h) (HOT.out.ext (by decide) (HX2.out.trans h)) SMA.out SSY.out (by omega));have HAR:=zH (fun (W':World) (h:Ext (W.setCell ⟨g2,0,none⟩ (.slice P4 other.length q4)) W')=>zol (HA.out.ext (HX2.out.trans h)) (HY2.out.ext h) (HOT.out.ext (by decide) (HX2.out.trans h)) SRA.out RSY.out (by omega));simp only [HAP.out] at HAR;obtain⟨KN,hKN⟩:∃ p,zc2 ⟨sa,se,sp⟩ other ⟨ya,ye,yp⟩=p:=⟨_,rfl⟩
  simp only [hKN] at HAS HAR;clear hKN HAP;obtain⟨⟨ka,ke,kp⟩,nn⟩:=KN;have ra2:=RA2.out;have re2:=E2.out;obtain⟨k0,k1,k2⟩:=ra2.p3;obtain⟨j0,j1,j2,j3⟩:=re2.p4;go_wp2_with fail;generalize hW10:W.setCell ⟨g2,0,none⟩ (.slice P4 other.length q4)=W10 at *;clear hW10;refine (HAS.out _ (Ext.refl _)).mono ?_;rintro r W11 ⟨z1,z2,z3,rfl,hz,hx1⟩;obtain⟨Z1,e1,rfl,-,-⟩:=hz.all.form;obtain⟨Z2,e2,rfl,-,-⟩:=hz.entries.form;obtain⟨Z3,e3,rfl,-,-⟩:=hz.pruned.form;have hxa:=(Ext.refl W11).alloc (.cells #[.slice Z1 ka.length e1,.slice Z2 ke.length e2,.slice Z3 kp.length e3] 30);have RF:=zH (zah W11 30 [.slice Z1 ka.length e1,.slice Z2 ke.length e2,.slice Z3 kp.length e3]);have HZ:=zH (hz.ext hxa);have HX11:=zH (hx1.trans hxa);have ra3:=ra2.ext HX11.out;have re3:=re2.ext HX11.out;clear k0 k1 k2 j0 j1 j2 j3 hz hx1 hxa;obtain⟨k0,k1,k2⟩:=ra3.p3;obtain⟨j0,j1,j2,j3⟩:=re3.p4;go_wp2_with fail;generalize hW12:W11.alloc (.cells #[.slice Z1 ka.length e1,.slice Z2 ke.length e2,.slice Z3 kp.length e3] 30)=W12 at *;clear hW12;generalize W11.heap.size=g3 at *;refine (HAR.out _ HX11.out).mono ?_;rintro r W13 ⟨y1,y2,y3,rfl,hy,hx1⟩;obtain⟨Y1,h1,rfl,-,-⟩:=hy.all.form;obtain⟨Y2,h2,rfl,-,-⟩:=hy.entries.form;obtain⟨Y3,h3,rfl,-,-⟩:=hy.pruned.form;have hxa:=(Ext.refl W13).alloc (.cells #[.slice Y1 ka.length h1,.slice Y2 ke.length h2,.slice Y3 kp.length h3] 30);have RG:=zH (zah W13 30 [.slice Y1 ka.length h1,.slice Y2 ke.length h2,.slice Y3 kp.length h3]);have HYY:=zH (hy.ext hxa);have HZ:=zH ((HZ.out.ext hx1).ext hxa);have rf:=(RF.out.ext hx1).ext hxa;have rg:=RG.out;have HX13:=zH ((HX2.out.trans HX11.out).trans (hx1.trans hxa));clear k0 k1 k2 j0 j1 j2 j3 hy hx1 hxa;obtain⟨k0,k1,k2⟩:=rf.p3;obtain⟨j0,j1,j2⟩:=rg.p3;go_wp2_with fail;generalize hW14:W13.alloc (.cells #[.slice Y1 ka.length h1,.slice Y2 ke.length h2,.slice Y3 kp.length h3] 30)=W14 at *;clear hW14;refine (zjy HZ.out HYY.out).mono ?_;rintro r W15 ⟨rfl,hx1⟩;rw [sameSt_iff.2 rfl];have HX:=zH (HX13.out.trans hx1);clear hx1;go_wp2_with fail;refine (ze2 _).mono ?_;rintro r Z ⟨rfl,hxz⟩;go_wp2_with fail;go_ret;exact⟨rfl,HX.out.trans hxz⟩
end
end Go.Proofs.YtdikcgmdmcfpfaaGreat
