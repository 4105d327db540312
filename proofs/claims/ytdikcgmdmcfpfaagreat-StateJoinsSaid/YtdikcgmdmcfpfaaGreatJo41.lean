/- Contracts and plain laws. -/
import Derived.Test.YtdikcgmdmcfpfaaGreatJo39
import Derived.Test.YtdikcgmdmcfpfaaGreatJo40
import Derived.Test.YtdikcgmdmcfpfaaGreatJo18
import Derived.Test.YtdikcgmdmcfpfaaGreatJo08
import Derived.Test.YtdikcgmdmcfpfaaGreatJo32
import Derived.Test.YtdikcgmdmcfpfaaGreatJo24
import Derived.Test.YtdikcgmdmcfpfaaGreatJo27
import Derived.Test.YtdikcgmdmcfpfaaGreatJo02
import Derived.Test.YtdikcgmdmcfpfaaGreatJo37
set_option linter.unusedVariables false
set_option linter.unusedSimpArgs false
set_option maxRecDepth 100000
set_option maxHeartbeats 40000000
namespace Go.Proofs.YtdikcgmdmcfpfaaGreat
section
open Go.RowKit Go.Shelf
def zbd (ps:List Str) (m:Mark):Bool:=!decide (m.1 ∈ setL ps)
def zc2 (s:State) (base:List Mark) (d:State):State × Nat :=
 if za3 s.all (base.filter (zbd (s.pruned++d.pruned))) then (zet s d,0) else (zba,160)
def znp (sp tp:List Str):Nat->List Str
 | 0=>[]
 | 1=>sp
 | _=>sp++tp
theorem zjx {S1 S2 S0:Nat->Prop} {s d:State} {a1 a2 a3 b0 b1 b2 b3:Value} {db:List Mark} {w:World} (h:StAt w S1 s a1 a2 a3) (hd:StAt w S2 d b1 b2 b3) (hb:Sl markT w S0 b0 db) (sm:SmallS s) (smd:SmallS d) (hbl:db.length<=549755813888) :
  Calls Tryz.prog 17 #[stV a1 a2 a3,dltV b0 b1 b2 b3] w fun r w'=>∃ u1 u2 u3,r=.returned (.tuple #[stV u1 u2 u3,I (zc2 s db d).2])/\StAt w' (fun b=>w.heap.size<=b) (zc2 s db d).1 u1 u2 u3/\Ext w w':=by
 have HAP:=zH (show zc2 s db d=if za3 s.all (db.filter (zbd (s.pruned++d.pruned))) then (zet s d,0) else (zba,160) from rfl);obtain⟨sa,se,sp⟩:=s;obtain⟨ta,te,tp⟩:=d;obtain⟨A1,n1,rfl,-,-⟩:=h.all.form;obtain⟨A2,n2,rfl,-,-⟩:=h.entries.form;obtain⟨A3,n3,rfl,-,-⟩:=h.pruned.form;obtain⟨B1,m1,rfl,-,-⟩:=hd.all.form;obtain⟨B2,m2,rfl,-,-⟩:=hd.entries.form;obtain⟨B3,m3,rfl,-,-⟩:=hd.pruned.form;obtain⟨B0,m0,rfl,-,-⟩:=hb.form;have h':=h.pruned;have h'':=hd.pruned;have hb':=hb;have HPT1:=zH (fun (pre post:List Str) (m:Str) (wr:World) (hx:Ext w wr) (hl:sp=pre++m :: post)=>zdw h' hx hl);have HPT2:=zH (fun (pre post:List Str) (m:Str) (wr:World) (hx:Ext w wr) (hl:tp=pre++m :: post)=>zdw h'' hx hl);have HMT:=zH (fun (pre post:List Mark) (m:Mark) (wr:World) (hx:Ext w wr) (hl:db=pre++m :: post)=>zct hb' hx hl);have H:=zH h;have HD:=zH hd;have SM:=zH sm;have SMD:=zH smd;have hmm:=@run_makeMap Tryz.prog;have hx0:Ext w ((((w.alloc (.cells #[.slice A1 sa.length n1,.slice A2 se.length n2,.slice A3 sp.length n3] 30)).alloc (.cells #[.slice B0 db.length m0,.slice B1 ta.length m1,.slice B2 te.length m2,.slice B3 tp.length m3] 64)).alloc (.cells #[.slice none 0 0,.slice none 0 0,.slice none 0 0] 30)).alloc (.map #[] 0)):=((((Ext.refl w).alloc _).alloc _).alloc _).alloc _;have hS0:SetOf St ((((w.alloc (.cells #[.slice A1 sa.length n1,.slice A2 se.length n2,.slice A3 sp.length n3] 30)).alloc (.cells #[.slice B0 db.length m0,.slice B1 ta.length m1,.slice B2 te.length m2,.slice B3 tp.length m3] 64)).alloc (.cells #[.slice none 0 0,.slice none 0 0,.slice none 0 0] 30)).alloc (.map #[] 0)) (w.heap.size+3) []:=by have h:=SetOf.new (K:=St) (((w.alloc (.cells #[.slice A1 sa.length n1,.slice A2 se.length n2,.slice A3 sp.length n3] 30)).alloc (.cells #[.slice B0 db.length m0,.slice B1 ta.length m1,.slice B2 te.length m2,.slice B3 tp.length m3] 64)).alloc (.cells #[.slice none 0 0,.slice none 0 0,.slice none 0 0] 30));simp only [World.size_alloc] at h;exact h
 have hz0:((((w.alloc (.cells #[.slice A1 sa.length n1,.slice A2 se.length n2,.slice A3 sp.length n3] 30)).alloc (.cells #[.slice B0 db.length m0,.slice B1 ta.length m1,.slice B2 te.length m2,.slice B3 tp.length m3] 64)).alloc (.cells #[.slice none 0 0,.slice none 0 0,.slice none 0 0] 30)).alloc (.map #[] 0)).heap.size=w.heap.size+4:=by simp
 have hxa:Ext w (((((w.alloc (.cells #[.slice A1 sa.length n1,.slice A2 se.length n2,.slice A3 sp.length n3] 30)).alloc (.cells #[.slice B0 db.length m0,.slice B1 ta.length m1,.slice B2 te.length m2,.slice B3 tp.length m3] 64)).alloc (.cells #[.slice none 0 0,.slice none 0 0,.slice none 0 0] 30)).alloc (.map #[] 0)).alloc (.cells #[.slice A3 sp.length n3,.slice B3 tp.length m3] 28)):=hx0.alloc _
 have hI0:RowIs (((((w.alloc (.cells #[.slice A1 sa.length n1,.slice A2 se.length n2,.slice A3 sp.length n3] 30)).alloc (.cells #[.slice B0 db.length m0,.slice B1 ta.length m1,.slice B2 te.length m2,.slice B3 tp.length m3] 64)).alloc (.cells #[.slice none 0 0,.slice none 0 0,.slice none 0 0] 30)).alloc (.map #[] 0)).alloc (.cells #[.slice A3 sp.length n3,.slice B3 tp.length m3] 28)) w.heap.size 30 [.slice A1 sa.length n1,.slice A2 se.length n2,.slice A3 sp.length n3] []/\RowIs (((((w.alloc (.cells #[.slice A1 sa.length n1,.slice A2 se.length n2,.slice A3 sp.length n3] 30)).alloc (.cells #[.slice B0 db.length m0,.slice B1 ta.length m1,.slice B2 te.length m2,.slice B3 tp.length m3] 64)).alloc (.cells #[.slice none 0 0,.slice none 0 0,.slice none 0 0] 30)).alloc (.map #[] 0)).alloc (.cells #[.slice A3 sp.length n3,.slice B3 tp.length m3] 28)) (w.heap.size+1) 64 [.slice B0 db.length m0,.slice B1 ta.length m1,.slice B2 te.length m2,.slice B3 tp.length m3] []/\RowIs (((((w.alloc (.cells #[.slice A1 sa.length n1,.slice A2 se.length n2,.slice A3 sp.length n3] 30)).alloc (.cells #[.slice B0 db.length m0,.slice B1 ta.length m1,.slice B2 te.length m2,.slice B3 tp.length m3] 64)).alloc (.cells #[.slice none 0 0,.slice none 0 0,.slice none 0 0] 30)).alloc (.map #[] 0)).alloc (.cells #[.slice A3 sp.length n3,.slice B3 tp.length m3] 28)) (w.heap.size+2) 30 [.slice none 0 0,.slice none 0 0,.slice none 0 0] []/\RowIs (((((w.alloc (.cells #[.slice A1 sa.length n1,.slice A2 se.length n2,.slice A3 sp.length n3] 30)).alloc (.cells #[.slice B0 db.length m0,.slice B1 ta.length m1,.slice B2 te.length m2,.slice B3 tp.length m3] 64)).alloc (.cells #[.slice none 0 0,.slice none 0 0,.slice none 0 0] 30)).alloc (.map #[] 0)).alloc (.cells #[.slice A3 sp.length n3,.slice B3 tp.length m3] 28)) (w.heap.size+4) 28 [.slice A3 sp.length n3,.slice B3 tp.length m3] []:=⟨((((zah w 30 [.slice A1 sa.length n1,.slice A2 se.length n2,.slice A3 sp.length n3]).alloc _).alloc _).alloc _).alloc _,by have h:=zah (w.alloc (.cells #[.slice A1 sa.length n1,.slice A2 se.length n2,.slice A3 sp.length n3] 30)) 64 [.slice B0 db.length m0,.slice B1 ta.length m1,.slice B2 te.length m2,.slice B3 tp.length m3];simp only [World.size_alloc] at h;exact ((h.alloc _).alloc _).alloc _,
  by have h:=zah ((w.alloc (.cells #[.slice A1 sa.length n1,.slice A2 se.length n2,.slice A3 sp.length n3] 30)).alloc (.cells #[.slice B0 db.length m0,.slice B1 ta.length m1,.slice B2 te.length m2,.slice B3 tp.length m3] 64)) 30 [.slice none 0 0,.slice none 0 0,.slice none 0 0];simp only [World.size_alloc] at h;exact (h.alloc _).alloc _,by have h:=zah ((((w.alloc (.cells #[.slice A1 sa.length n1,.slice A2 se.length n2,.slice A3 sp.length n3] 30)).alloc (.cells #[.slice B0 db.length m0,.slice B1 ta.length m1,.slice B2 te.length m2,.slice B3 tp.length m3] 64)).alloc (.cells #[.slice none 0 0,.slice none 0 0,.slice none 0 0] 30)).alloc (.map #[] 0)) 28 [.slice A3 sp.length n3,.slice B3 tp.length m3];simp only [World.size_alloc] at h;exact h⟩
 have HI0:=zH hI0;have HS0:=zH (hS0.ext ((Ext.refl _).alloc (.cells #[.slice A3 sp.length n3,.slice B3 tp.length m3] 28)));have HX0:=zH hxa;clear h h' h'' hb hb' hd sm smd hx0 hS0 hxa hI0;go_enter Tryz.func17,Tryz.ntmps17;go_wp2_with fail;generalize ((((w.alloc (.cells #[.slice A1 sa.length n1,.slice A2 se.length n2,.slice A3 sp.length n3] 30)).alloc (.cells #[.slice B0 db.length m0,.slice B1 ta.length m1,.slice B2 te.length m2,.slice B3 tp.length m3] 64)).alloc (.cells #[.slice none 0 0,.slice none 0 0,.slice none 0 0] 30)).alloc (.map #[] 0)).alloc (.cells #[.slice A3 sp.length n3,.slice B3 tp.length m3] 28)=W0 at *
 go_loopw [24] (fun i wr=>∃ j:Nat,j<=2/\i=I j/\SetOf St wr (w.heap.size+3) (setL (znp sp tp j))/\Hid (RowIs wr w.heap.size 30 [.slice A1 sa.length n1,.slice A2 se.length n2,.slice A3 sp.length n3] []/\RowIs wr (w.heap.size+1) 64 [.slice B0 db.length m0,.slice B1 ta.length m1,.slice B2 te.length m2,.slice B3 tp.length m3] []/\RowIs wr (w.heap.size+2) 30 [.slice none 0 0,.slice none 0 0,.slice none 0 0] []/\RowIs wr (w.heap.size+4) 28 [.slice A3 sp.length n3,.slice B3 tp.length m3] [])/\Ext w wr) (fun i _=>2 - (intOf i).toNat)
 case atStart=>exact⟨0,by omega,rfl,HS0.out,HI0,HX0.out⟩
 case round =>
  obtain⟨j,hj,rfl,hS,hI,hx⟩:=hrel
  by_cases hlt:j < 2
  ·have hcur:∃ cur before A c,znp sp tp j=before/\znp sp tp (j+1)=before++cur/\wr.cell? ⟨w.heap.size+4,j,none⟩=some (.slice A cur.length c)/\cur.length<=549755813888/\(∀ (pre post:List Str) (m:Str) (wr:World) (hx:Ext w wr) (hl:cur=pre++m :: post),∃ b o,A=some ⟨b,o,none⟩/\wr.cell? ⟨b,o+pre.length,none⟩=some (St m)):=by
    have i4:=hI.out.2.2.2;rcases (show j=0 ∨ j=1 by omega) with rfl | rfl
    ·exact⟨sp,[],A3,n3,rfl,rfl,i4.cell (j:=0) rfl,SM.out.pruned,HPT1.out⟩
    ·exact⟨tp,sp,B3,m3,rfl,rfl,i4.cell (j:=1) rfl,SMD.out.pruned,HPT2.out⟩
   obtain⟨cur,before,A,c,hb1,hb2,hcell,hcl,hat⟩:=hcur;have HB1:=zH hb1;have HB2:=zH hb2;have HAT:=zH hat;rw [hb1] at hS;clear hb1 hb2 hat;have HS:=zH hS;have HX:=zH hx;clear hS hx;go_wp2_with fail
   go_loopw [30] (fun i wr=>∃ p2 q2,cur=p2++q2/\i=I p2.length/\SetOf St wr (w.heap.size+3) (setL (before++p2))/\Hid (RowIs wr w.heap.size 30 [.slice A1 sa.length n1,.slice A2 se.length n2,.slice A3 sp.length n3] []/\RowIs wr (w.heap.size+1) 64 [.slice B0 db.length m0,.slice B1 ta.length m1,.slice B2 te.length m2,.slice B3 tp.length m3] []/\RowIs wr (w.heap.size+2) 30 [.slice none 0 0,.slice none 0 0,.slice none 0 0] []/\RowIs wr (w.heap.size+4) 28 [.slice A3 sp.length n3,.slice B3 tp.length m3] [])/\Ext w wr) (fun i _=>cur.length - (intOf i).toNat)
   case atStart=>exact⟨[],cur,rfl,rfl,by rw [List.append_nil];exact HS.out,hI,HX.out⟩
   case round =>
    clear HS HX hI hcell;obtain⟨p2,q2,hl2,rfl,hS2,hI2,hx2⟩:=hrel
    cases q2 with
    | cons m q2 =>
     obtain⟨b2,o2,rfl,e0⟩:=HAT.out p2 q2 m wr hx2 hl2;have hlt2:p2.length < cur.length:=(by rw [hl2];simp);obtain⟨wn,hup,hsn,htn⟩:=zdr (P:=Tryz.prog) Tryz.underlying122 zd6 hS2 m;have HIn:=zH (show RowIs wn w.heap.size 30 [.slice A1 sa.length n1,.slice A2 se.length n2,.slice A3 sp.length n3] []/\RowIs wn (w.heap.size+1) 64 [.slice B0 db.length m0,.slice B1 ta.length m1,.slice B2 te.length m2,.slice B3 tp.length m3] []/\RowIs wn (w.heap.size+2) 30 [.slice none 0 0,.slice none 0 0,.slice none 0 0] []/\RowIs wn (w.heap.size+4) 28 [.slice A3 sp.length n3,.slice B3 tp.length m3] [] from by obtain⟨i1,i2,i3,i4⟩:=hI2.out;exact⟨i1.keep (htn.other _ (by omega)),i2.keep (htn.other _ (by omega)),i3.keep (htn.other _ (by omega)),i4.keep (htn.other _ (by omega))⟩);have HXn:=zH (hx2.turned htn (by omega));have HSn:=zH (show SetOf St wn (w.heap.size+3) (setL (before++(p2++[m]))) by rw [<- List.append_assoc,zko];exact hsn);have HL2:=zH hl2;clear hl2 hS2 hI2 hx2 hsn htn;go_wp2_with fail;go_roundw
     case rel=>exact⟨p2++[m],q2,by rw [HL2.out];simp,by simp,HSn.out,HIn,HXn.out⟩
     case measure=>simp [intOf];omega
    | nil =>
     rw [List.append_nil] at hl2;have HS3:=zH (show SetOf St wr (w.heap.size+3) (setL (znp sp tp (j+1))) by rw [HB2.out,hl2];exact hS2);have hlen:cur.length=p2.length:=(by rw [hl2]);have HX3:=zH hx2;have HI3:=hI2;clear hl2 hS2 hI2 hx2;go_wp2_with fail;go_roundw
     case rel=>exact⟨j+1,by omega,by simp,HS3.out,HI3,HX3.out⟩
     case measure=>simp [intOf];omega
  ·obtain rfl:j=2:=by omega
   rw [show ((2:Nat):Int)=2 from rfl];obtain⟨i1,i2,i3,i4⟩:=hI.out;have c0:=i2.cell (j:=0) rfl;have HS:=zH (show SetOf St wr (w.heap.size+3) (setL (sp++tp)) from hS);have HX:=zH hx;have hwl:=hS.lt;clear hS hx i1 i2 i3 i4;go_wp2_with fail;obtain⟨WL,rfl⟩:∃ WL:World,WL=wr:=⟨_,rfl⟩
   generalize hps:sp++tp=ps at *;have HPS:=zH hps;clear hps hlt
   go_loopw [11,42] (fun l i wr=>∃ pre post,db=pre++post/\i=I pre.length/\Own wr WL.heap.size 25 2 l (pre.filter (zbd ps)).length ((pre.filter (zbd ps)).flatMap zag)/\Ext WL wr) (fun _ i _=>db.length - (intOf i).toNat)
   case atStart=>exact⟨[],db,rfl,rfl,Own.nil _ _ _ _ _,Ext.refl _⟩
   case round =>
    clear c0;obtain⟨pre,post,hl,rfl,hown,hx⟩:=hrel
    cases post with
    | cons m post =>
     obtain⟨b,o,rfl,e0,e1⟩:=HMT.out pre post m wr (HX.out.trans hx) hl;have hlt:pre.length < db.length:=(by rw [hl];simp);have HL:=zH hl;have hpf:=List.length_filter_le (zbd ps) pre;generalize hpl:pre.filter (zbd ps)=pl at *;have HPL:=zH hpl;have hx1:=(Ext.refl wr).alloc (.cells #[St m.1,U m.2] 25);have hlk:=zg9 (P:=Tryz.prog) Tryz.underlying122 zd6 zmp ((HS.out.ext hx).ext hx1) m.1;have u0:(wr.alloc (.cells #[St m.1,U m.2] 25)).cell? ⟨wr.heap.size,0,none⟩=some (St m.1):=(by simp [go_sem]);have u1:(wr.alloc (.cells #[St m.1,U m.2] 25)).cell? ⟨wr.heap.size,1,none⟩=some (U m.2):=(by simp [go_sem]);have hn3:=hx.size;have hz1:(wr.alloc (.cells #[St m.1,U m.2] 25)).heap.size=wr.heap.size+1:=(by simp);have HX1:=zH (hx.trans hx1);have HO1:=zH (hown.ext hx1);obtain⟨C,cc,rfl,-,-⟩:=hown.form;clear hl hpl hx hx1 hown
     by_cases hm:m.1 ∈ setL ps
     ·have HF:=zH (show (pre++[m]).filter (zbd ps)=pl by rw [List.filter_append,HPL.out];simp [zbd,hm]);simp only [hm,decide_true] at hlk;clear hm;go_wp2_with fail;go_roundw
      case rel=>exact⟨pre++[m],post,by rw [HL.out];simp,by simp,by rw [HF.out];exact HO1.out.alloc _,HX1.out.alloc _⟩
      case measure=>simp [intOf];omega
     ·have HF:=zH (show (pre++[m]).filter (zbd ps)=pl++[m] by rw [List.filter_append,HPL.out];simp [zbd,hm]);simp only [hm,decide_false] at hlk;clear hm
      go_wp2_with (at_builtin;refine zab rfl (.tmp 55) (.tmp 57) 26 rfl WL.heap.size 25 2 24 (.agg #[St [],U 0]) Tryz.underlying26 zcj rfl (by omega) _ pl.length (pl.flatMap zag) rfl ((HO1.out.alloc _).alloc _) _ 1 1 [St m.1,U m.2] rfl (Src.newAt (by simp) rfl (by intro u hu;simp at hu;rcases hu with rfl | rfl <;> rfl)) (by omega) (by omega) (by simp;omega) ?_;intro v' w' hown2 hgr)
      go_roundw
      case rel=>exact⟨pre++[m],post,by rw [HL.out];simp,by simp,by rw [HF.out];simpa [zag] using hown2,Ext.grewOwn ((HX1.out.alloc _).alloc _) hgr ((HO1.out.alloc _).alloc _) (Nat.le_refl _)⟩
      case measure=>simp [intOf];omega
    | nil =>
     rw [List.append_nil] at hl;subst hl;obtain⟨i1,i2,i3,i4⟩:=hI.out;have rB:=i1.ext hx;have rD:=i2.ext hx;have rR:=i3.ext hx;have hpf:=List.length_filter_le (zbd ps) db;generalize hpl:db.filter (zbd ps)=pl at *;have HAP2:=zH (show zc2 ⟨sa,se,sp⟩ db ⟨ta,te,tp⟩=if za3 sa pl then (zet ⟨sa,se,sp⟩ ⟨ta,te,tp⟩,0) else (zba,160) from HAP.out);have hxw:=HX.out.trans hx;have b0:=rB.cell (j:=0) rfl;have HCV:=zH (zhc (H.out.all.ext (by decide) hxw) (zax hown) (Nat.le_trans SM.out.all (by decide)) (by omega));obtain⟨C,cc,rfl,-,-⟩:=hown.form;have hsz:=hx.size;clear hpl hown hx i1 i2 i3 i4 hI;go_wp2_with fail;refine HCV.out.mono ?_;rintro r W5 ⟨rfl,hx5⟩;have rB5:=rB.ext hx5;have rD5:=rD.ext hx5;have rR5:=rR.ext hx5;have hxw5:=hxw.trans hx5;have hsz5:=hx5.size;clear rB rD rR hxw hx5 b0 HCV
     cases hcv:za3 sa pl with
     | false =>
      have HR:=zH (show zc2 ⟨sa,se,sp⟩ db ⟨ta,te,tp⟩=(zba,160) by rw [HAP2.out,hcv];rfl);obtain⟨r0,r1,r2⟩:=rR5.p3;obtain⟨f0,f1,f2⟩:=rR5.q3;have HX5:=zH hxw5;clear hcv hxw5 rB5 rD5 rR5;go_wp2_with fail
      (try simp only [Exit.inBlock,Exit.then])
      refine bodyPost_ret (v:=.tuple #[stV (.slice none 0 0) (.slice none 0 0) (.slice none 0 0),I 160]) (by simp [results,Tryz.f17,go_sem,r0,r1,r2]) rfl ?_;have hq:=zcv (q:=w.heap.size+2) HX5.out (by omega) (.slice none 0 0) (.slice none 0 0) (.slice none 0 0);refine ⟨.slice none 0 0,.slice none 0 0,.slice none 0 0,by (rw [HR.out];try rfl),?_⟩;rw [HR.out];exact⟨StAt.none _ _ _ _ _,hq⟩
     | true =>
      have HR:=zH (show zc2 ⟨sa,se,sp⟩ db ⟨ta,te,tp⟩=(zet ⟨sa,se,sp⟩ ⟨ta,te,tp⟩,0) by rw [HAP2.out,hcv];rfl);have HJ:=zH (zkx (H.out.ext hxw5) (HD.out.ext hxw5) SM.out SMD.out);obtain⟨k0,k1,k2⟩:=rB5.p3;have d1:=rD5.cell (j:=1) rfl;have d2:=rD5.cell (j:=2) rfl;have d3:=rD5.cell (j:=3) rfl;clear hcv rB5 rD5;go_wp2_with fail;refine HJ.out.mono ?_;rintro r W6 ⟨u1,u2,u3,rfl,hn,hx6⟩;generalize zet ⟨sa,se,sp⟩ ⟨ta,te,tp⟩=sj at *;obtain⟨ja,je,jp⟩:=sj;obtain⟨D1,q1,rfl,-,-⟩:=hn.all.form;obtain⟨D2,q2,rfl,-,-⟩:=hn.entries.form;obtain⟨D3,q3,rfl,-,-⟩:=hn.pruned.form;have rR6:=rR5.ext hx6;obtain⟨r0,r1,r2⟩:=rR6.p3;obtain⟨f0,f1,f2⟩:=rR6.q3;have hsz6:=hx6.size;have HX6:=zH (hxw5.trans hx6);have HN:=zH hn;clear hn hx6 hxw5 rR5 rR6 k0 k1 k2 d1 d2 d3 HJ;go_wp2_with fail
      (try simp only [Exit.inBlock,Exit.then])
      refine bodyPost_ret (v:=.tuple #[stV (.slice D1 ja.length q1) (.slice D2 je.length q2) (.slice D3 jp.length q3),I 0]) (by simp [results,Tryz.f17,go_sem,r0,r1,r2]) rfl ?_;have hq:=zcv (q:=w.heap.size+2) HX6.out (by omega) (.slice D1 ja.length q1) (.slice D2 je.length q2) (.slice D3 jp.length q3);have hkp:=ze1 W6 (w.heap.size+2) (.slice D1 ja.length q1) (.slice D2 je.length q2) (.slice D3 jp.length q3);refine ⟨.slice D1 ja.length q1,.slice D2 je.length q2,.slice D3 jp.length q3,by (rw [HR.out];try rfl),?_⟩;rw [HR.out];exact⟨(HN.out.at.keep (fun b hb _=>hkp b (by omega))).mono (fun b _ hb=>by omega),hq⟩
end
section
def zds (l:List Entry) (k:Str) (e:Entry):List Entry:=(l.filter fun x=>ltS x.key k)++e :: (l.filter fun x=>ltS k x.key)
theorem zl8 {α:Type} {P:α->Bool} {l:List α} {i:Nat} (h1:∀ j x,j < i->l[j]? = some x->P x=true) (h2:∀ j x,i<=j->l[j]? = some x->P x=false):l.filter P=l.take i:=by
 conv=>lhs;rw [<- List.take_append_drop i l]
 rw [List.filter_append]
 have a:(l.take i).filter P=l.take i:=List.filter_eq_self.2 fun x hx=>by
  obtain⟨j,hj⟩:=List.getElem?_of_mem hx;have hji:j < i:=by have:=(List.getElem?_eq_some_iff.1 hj).1;simp at this;omega
  rw [List.getElem?_take_of_lt hji] at hj;exact h1 j x hji hj
 have b:(l.drop i).filter P = []:=List.filter_eq_nil_iff.2 fun x hx=>by obtain⟨j,hj⟩:=List.getElem?_of_mem hx;rw [List.getElem?_drop] at hj;simp [h2 (i+j) x (by omega) hj]
 rw [a,b,List.append_nil]
theorem zl9 {α:Type} {P:α->Bool} {l:List α} {i:Nat} (h1:∀ j x,j < i->l[j]? = some x->P x=false) (h2:∀ j x,i<=j->l[j]? = some x->P x=true):l.filter P=l.drop i:=by
 conv=>lhs;rw [<- List.take_append_drop i l]
 rw [List.filter_append]
 have a:(l.take i).filter P = []:=List.filter_eq_nil_iff.2 fun x hx=>by
  obtain⟨j,hj⟩:=List.getElem?_of_mem hx;have hji:j < i:=by have:=(List.getElem?_eq_some_iff.1 hj).1;simp at this;omega
  rw [List.getElem?_take_of_lt hji] at hj;simp [h1 j x hji hj]
 have b:(l.drop i).filter P=l.drop i:=List.filter_eq_self.2 fun x hx=>by obtain⟨j,hj⟩:=List.getElem?_of_mem hx;rw [List.getElem?_drop] at hj;exact h2 (i+j) x (by omega) hj
 rw [a,b,List.nil_append]
theorem zwv {l : List Entry} {k : Str} {i : Nat} {is : Bool} {m e : Entry} (hR : RiseS (l.map (·.key))) (hF : Found (l.map (·.key)) k i is) (hf : zau l k = some m) : i < l.length /\ l.set i e = zds l k e := by
 have hk := zip hf
 obtain ⟨h, hh⟩ := List.getElem?_of_mem (zez hf)
 have hx : (l.map (·.key))[h]? = some k := by rw [List.getElem?_map, hh]; simp [hk]
 have hi : h = i := by
   rcases Nat.lt_trichotomy h i with h1 | h1 | h1
   · have := hF.2.1.1 h k h1 hx; rw [zal] at this; cases this
   · exact h1
   · have hil : i < (l.map (·.key)).length := Nat.lt_trans h1 (List.getElem?_eq_some_iff.1 hx).1
     have hxi : (l.map (·.key))[i]? = some (l.map (·.key))[i] := List.getElem?_eq_getElem hil
     have h2 := hF.2.1.2 i _ (Nat.le_refl _) hxi
     rw [hR.lt h1 hxi hx] at h2
     cases h2
 subst hi
 have hil := (List.getElem?_eq_some_iff.1 hh).1
 have key : ∀ {j : Nat} {x : Entry}, l[j]? = some x -> (l.map (·.key))[j]? = some x.key := fun h => by rw [List.getElem?_map, h]; rfl
 refine ⟨hil, ?_⟩
 unfold zds
 rw [zl8 (i := h) (fun j x hj hx' => hR.lt hj (key hx') hx) (fun j x hj hx' => by
     rcases Nat.eq_or_lt_of_le hj with rfl | h1
     · have := Option.some.inj (hx.symm.trans (key hx'))
       rw [<- this]; exact zal _
     · exact zbm (hR.lt h1 hx (key hx'))),
   zl9 (i := h + 1) (fun j x hj hx' => by
     rcases Nat.eq_or_lt_of_le (Nat.le_of_lt_succ hj) with rfl | h1
     · have := Option.some.inj (hx.symm.trans (key hx'))
       rw [<- this]; exact zal _
     · exact zbm (hR.lt h1 (key hx') hx)) (fun j x hj hx' => hR.lt (by omega) hx (key hx')),
   List.set_eq_take_append_cons_drop, if_pos hil]
theorem zzm {l:List Entry} {k:Str} {i:Nat} {is:Bool} {e:Entry} (hR:RiseS (l.map (·.key))) (hF:Found (l.map (·.key)) k i is) (hf:zau l k=none):i<=l.length/\l.take i++e :: l.drop i=zds l k e:=by
 have hno:∀ x ∈ l,x.key ≠ k:=fun x hx he=>by have:=List.find?_eq_none.1 hf x hx;simp [he] at this
 have key:∀ {j:Nat} {x:Entry},l[j]? = some x->(l.map (·.key))[j]? = some x.key:=fun h=>by rw [List.getElem?_map,h];rfl
 have gt:∀ (j:Nat) (x:Entry),i<=j->l[j]? = some x->ltS k x.key=true:=fun j x hj hx=>by
  rcases zb6 k x.key with h | h | h
  ·exact h
  ·exact absurd h.symm (hno x (List.mem_of_getElem? hx))
  ·rw [hF.2.1.2 j _ hj (key hx)] at h;cases h
 refine ⟨by have:=hF.1;simpa using this,?_⟩;unfold zds;rw [zl8 (i:=i) (fun j x hj hx=>hF.2.1.1 j _ hj (key hx)) (fun j x hj hx=>hF.2.1.2 j _ hj (key hx)),zl9 (i:=i) (fun j x hj hx=>zbm (hF.2.1.1 j _ hj (key hx))) gt]
structure MayS (s:State):Prop where
 all:mayM s.all=true
 each:∀ e ∈ s.entries,mayE e=true/\za3 s.all e.seen=true
 rise:RiseS (s.entries.map (·.key))
 pruned:∀ p ∈ s.pruned,p ≠ []/\ofM s.all p=0
 risep:RiseS s.pruned
theorem zo9 (all:List Mark):∀ (l:List Entry) (prev:Option Str),zdo all prev l=true↔(∀ e ∈ l,mayE e=true/\za3 all e.seen=true)/\RiseS (l.map (·.key))/\∀ k,prev=some k->∀ e ∈ l,ltS k e.key=true
 | [],prev=>by simp [zdo,RiseS]
 | e :: r,prev=>by
  have ih:=zo9 all r (some e.key);unfold RiseS at ih ⊢;simp only [zdo,Bool.and_eq_true,ih,List.map_cons,List.pairwise_cons,List.mem_cons,forall_eq_or_imp,List.mem_map,forall_exists_index,and_imp,forall_apply_eq_imp_iff₂,Option.some.injEq,forall_eq']
  constructor
  ·rintro⟨h1,h2,h3,h4,h5,h6⟩;refine ⟨⟨⟨h1,h3⟩,h4⟩,⟨h6,h5⟩,fun k hk=>?_⟩;subst hk;exact⟨h2,fun x hx=>zap h2 (h6 x hx)⟩
  ·rintro⟨⟨⟨h1,h3⟩,h4⟩,⟨h6,h5⟩,h7⟩;refine ⟨h1,?_,h3,h4,h5,h6⟩
   cases prev with
   | none=>rfl
   | some k=>exact (h7 k rfl).1
theorem zpa (all:List Mark):∀ (l:List Str) (prev:Option Str),zc6 all prev l=true↔(∀ p ∈ l,p ≠ []/\ofM all p=0)/\RiseS l/\∀ k,prev=some k->∀ p ∈ l,ltS k p=true
 | [],prev=>by simp [zc6,RiseS]
 | p :: r,prev=>by
  have ih:=zpa all r (some p);have hpe:(!p.isEmpty)=true↔p ≠ []:=by cases p <;> simp
  unfold RiseS at ih ⊢;simp only [zc6,Bool.and_eq_true,ih,hpe,decide_eq_true_eq,List.pairwise_cons,List.mem_cons,forall_eq_or_imp,Option.some.injEq,forall_eq']
  constructor
  ·rintro⟨h1,h2,h3,h4,h5,h6⟩;refine ⟨⟨⟨h1,h3⟩,h4⟩,⟨h6,h5⟩,fun k hk=>?_⟩;subst hk;exact⟨h2,fun x hx=>zap h2 (h6 x hx)⟩
  ·rintro⟨⟨⟨h1,h3⟩,h4⟩,⟨h6,h5⟩,h7⟩;refine ⟨h1,?_,h3,h4,h5,h6⟩
   cases prev with
   | none=>rfl
   | some k=>exact (h7 k rfl).1
theorem mayS_iff {s:State}:mayS s=true↔MayS s:=by
 unfold mayS;simp only [Bool.and_eq_true,zo9,zpa]
 constructor
 ·rintro⟨h1,⟨h2,h3,-⟩,h4,h5,-⟩;exact⟨h1,h2,h3,h4,h5⟩
 ·rintro⟨h1,h2,h3,h4,h5⟩;exact⟨h1,⟨h2,h3,by simp⟩,h4,h5,by simp⟩
def updS (s:State) (p:Str) (o:OpD):State × Nat :=
 if p = [] ∨ mayS s=false then (zba,2) else if 281474976710656<=ofM s.all p then (zba,9) else if zau s.entries o.2.1=none/\256<=s.entries.length then (zba,6) else
 if (updE ((zau s.entries o.2.1).getD zai) o (p,ofM s.all p+1)).2=0 then (⟨setM s.all p (ofM s.all p+1),zds s.entries o.2.1 (updE ((zau s.entries o.2.1).getD zai) o (p,ofM s.all p+1)).1,s.pruned⟩,0)
 else (zba,(updE ((zau s.entries o.2.1).getD zai) o (p,ofM s.all p+1)).2)
end
section
open Go.RowKit Go.Shelf
theorem zq2 {w:World} {q T:Nat} {e0 e:Entry} {a1 a2 a3 v1 v2 v3:Value} (h:RowIs w q T (entL e0 a1 a2 a3) []):RowIs (put7 w q e v1 v2 v3) q T (entL e v1 v2 v3) []:=by
 have:=RowIs.set7 (X1:=[]) (X2:=[]) (o:=0) (by simpa using h) rfl (St e.key) v1 v2 v3 (U e.cell.1) (St e.cell.2.1) (.bool e.cell.2.2)
 simpa using this
theorem zpb (w:World) (q:Nat) (e:Entry) (v1 v2 v3:Value):(put7 w q e v1 v2 v3).heap.size=w.heap.size:=by simp [World.size_setCell]
theorem zmy {S:Nat->Prop} {s:State} {v1 v2 v3:Value} {w:World} (p:Str) (o:OpD) (hn1:-9223372036854775808<=o.2.2.1) (hn2:o.2.2.1<=9223372036854775807) (h:StAt w S s v1 v2 v3) (sm:SmallS s) :
  Calls Tryz.prog 11 #[stV v1 v2 v3,St p,opV o] w fun r w'=>∃ u1 u2 u3,r=.returned (.tuple #[stV u1 u2 u3,I (updS s p o).2])/\StAt w' (fun b=>w.heap.size<=b) (updS s p o).1 u1 u2 u3/\Ext w w':=by
 have HRS:=zH (show updS s p o=if p = [] ∨ mayS s=false then (zba,2) else if 281474976710656<=ofM s.all p then (zba,9) else if zau s.entries o.2.1=none/\256<=s.entries.length then (zba,6) else
  if (updE ((zau s.entries o.2.1).getD zai) o (p,ofM s.all p+1)).2=0 then (⟨setM s.all p (ofM s.all p+1),zds s.entries o.2.1 (updE ((zau s.entries o.2.1).getD zai) o (p,ofM s.all p+1)).1,s.pruned⟩,0)
  else (zba,(updE ((zau s.entries o.2.1).getD zai) o (p,ofM s.all p+1)).2) from rfl)
 have SM:=zH sm;have HRI:=zH (fun hm:mayS s=true=>(mayS_iff.1 hm).rise);obtain⟨sa,se,sp⟩:=s;obtain⟨dO,k,n,tx⟩:=o;simp only at hn1 hn2;obtain⟨A1,n1,rfl,-,-⟩:=h.all.form;obtain⟨A2,n2,rfl,-,-⟩:=h.entries.form;obtain⟨A3,n3,rfl,-,-⟩:=h.pruned.form;have hx0:Ext w (((w.alloc (.cells #[.slice A1 sa.length n1,.slice A2 se.length n2,.slice A3 sp.length n3] 30)).alloc (.cells #[K8 dO,St k,I n,St tx] 42)).alloc (.cells #[.slice none 0 0,.slice none 0 0,.slice none 0 0] 30)):=(((Ext.refl w).alloc _).alloc _).alloc _;have rB0:RowIs (((w.alloc (.cells #[.slice A1 sa.length n1,.slice A2 se.length n2,.slice A3 sp.length n3] 30)).alloc (.cells #[K8 dO,St k,I n,St tx] 42)).alloc (.cells #[.slice none 0 0,.slice none 0 0,.slice none 0 0] 30)) w.heap.size 30 [.slice A1 sa.length n1,.slice A2 se.length n2,.slice A3 sp.length n3] []:=((zah w _ _).alloc _).alloc _;have rO0:RowIs (((w.alloc (.cells #[.slice A1 sa.length n1,.slice A2 se.length n2,.slice A3 sp.length n3] 30)).alloc (.cells #[K8 dO,St k,I n,St tx] 42)).alloc (.cells #[.slice none 0 0,.slice none 0 0,.slice none 0 0] 30)) (w.heap.size+1) 42 [K8 dO,St k,I n,St tx] []:=by have h:=zah (w.alloc (.cells #[.slice A1 sa.length n1,.slice A2 se.length n2,.slice A3 sp.length n3] 30)) 42 [K8 dO,St k,I n,St tx];simp only [World.size_alloc] at h;exact h.alloc _
 have rR0:RowIs (((w.alloc (.cells #[.slice A1 sa.length n1,.slice A2 se.length n2,.slice A3 sp.length n3] 30)).alloc (.cells #[K8 dO,St k,I n,St tx] 42)).alloc (.cells #[.slice none 0 0,.slice none 0 0,.slice none 0 0] 30)) (w.heap.size+1+1) 30 [.slice none 0 0,.slice none 0 0,.slice none 0 0] []:=by have h:=zah ((w.alloc (.cells #[.slice A1 sa.length n1,.slice A2 se.length n2,.slice A3 sp.length n3] 30)).alloc (.cells #[K8 dO,St k,I n,St tx] 42)) 30 [.slice none 0 0,.slice none 0 0,.slice none 0 0];simp only [World.size_alloc] at h;exact h
 have hz0:w.heap.size+3<=(((w.alloc (.cells #[.slice A1 sa.length n1,.slice A2 se.length n2,.slice A3 sp.length n3] 30)).alloc (.cells #[K8 dO,St k,I n,St tx] 42)).alloc (.cells #[.slice none 0 0,.slice none 0 0,.slice none 0 0] 30)).heap.size:=by simp
 have h':=h.mono (S':=fun b=>b < w.heap.size) (fun b hb _=>hb);have H0:=zH (h'.ext hx0);have H1:=zH (zmt (h.ext hx0) sm);clear h';clear h sm
 by_cases hp:p = []
 ·subst hp;have HR:=zH (show updS ⟨sa,se,sp⟩ [] (dO,k,n,tx)=(zba,2) by rw [HRS.out,if_pos (.inl rfl)]);have HX:=zH hx0;clear hx0 rB0 rR0 rO0 H0 H1 HRS;go_enter Tryz.func11,Tryz.ntmps11;go_wp2_with fail
  (try simp only [Exit.inBlock,Exit.then])
  refine bodyPost_ret (v:=.tuple #[stV (.slice none 0 0) (.slice none 0 0) (.slice none 0 0),I 2]) (by simp [results,Tryz.f11,go_sem]) rfl ?_;refine ⟨.slice none 0 0,.slice none 0 0,.slice none 0 0,by (rw [HR.out];try rfl),?_⟩;rw [HR.out];exact⟨StAt.none _ _ _ _ _,HX.out⟩
 ·have hpb:(p == [])=false:=by simpa using hp
  go_enter Tryz.func11,Tryz.ntmps11;go_wp2_with fail;generalize (((w.alloc (.cells #[.slice A1 sa.length n1,.slice A2 se.length n2,.slice A3 sp.length n3] 30)).alloc (.cells #[K8 dO,St k,I n,St tx] 42)).alloc (.cells #[.slice none 0 0,.slice none 0 0,.slice none 0 0] 30))=W0 at *;refine H1.out.mono ?_;rintro r W1 ⟨rfl,hx1⟩;have hx01:=hx0.trans hx1;have rB1:=rB0.ext hx1;have rO1:=rO0.ext hx1;have rR1:=rR0.ext hx1;have hz1:=Nat.le_trans hz0 hx1.size;clear hx0 rB0 rR0 rO0 hz0 H1
  cases hm:mayS ⟨sa,se,sp⟩ with
  | false =>
   have HR:=zH (show updS ⟨sa,se,sp⟩ p (dO,k,n,tx)=(zba,2) by rw [HRS.out,if_pos (.inr hm)]);obtain⟨r0,r1,r2⟩:=rR1.p3;obtain⟨f0,f1,f2⟩:=rR1.q3;have HX:=zH hx01;clear hx01 hx1 rB1 rR1 rO1 H0 HRS hm hp;go_wp2_with fail
   (try simp only [Exit.inBlock,Exit.then])
   refine bodyPost_ret (v:=.tuple #[stV (.slice none 0 0) (.slice none 0 0) (.slice none 0 0),I 2]) (by simp [results,Tryz.f11,go_sem,r0,r1,r2]) rfl ?_;have hq:=zcv (q:=w.heap.size+1+1) HX.out (by omega) (.slice none 0 0) (.slice none 0 0) (.slice none 0 0);refine ⟨.slice none 0 0,.slice none 0 0,.slice none 0 0,by (rw [HR.out];try rfl),?_⟩;rw [HR.out];exact⟨StAt.none _ _ _ _ _,hq⟩
  | true =>
   have hri:=zH (show RiseS (se.map (·.key)) from HRI.out hm)
   have HRS2:=zH (show updS ⟨sa,se,sp⟩ p (dO,k,n,tx)=if 281474976710656<=ofM sa p then (zba,9) else if zau se k=none/\256<=se.length then (zba,6) else
    if (updE ((zau se k).getD zai) (dO,k,n,tx) (p,ofM sa p+1)).2=0 then (⟨setM sa p (ofM sa p+1),zds se k (updE ((zau se k).getD zai) (dO,k,n,tx) (p,ofM sa p+1)).1,sp⟩,0)
    else (zba,(updE ((zau se k).getD zai) (dO,k,n,tx) (p,ofM sa p+1)).2) by rw [HRS.out,if_neg (by simp [hp,hm])])
   have HO:=zH (zkf p (H0.out.all.ext (by decide) hx1));have b0:=rB1.cell (j:=0) rfl;have HX1:=zH hx1;clear hm hp HRS HRI hx1;go_wp2_with fail;refine HO.out.mono ?_;rintro r W2 ⟨rfl,hx2⟩;have hx02:=hx01.trans hx2;have rB2:=rB1.ext hx2;have rO2:=rO1.ext hx2;have rR2:=rR1.ext hx2;have hz2:=Nat.le_trans hz1 hx2.size;have H2:=zH ((H0.out.ext HX1.out).ext hx2);clear hx01 rB1 rR1 rO1 HO hx2 hz1 b0 HX1 H0;obtain⟨z,hz⟩:∃ z,ofM sa p=z:=⟨_,rfl⟩
   rw [hz] at HRS2;rw [hz];clear hz
   by_cases hge:281474976710656<=z
   ·have HR:=zH (show updS ⟨sa,se,sp⟩ p (dO,k,n,tx)=(zba,9) by rw [HRS2.out,if_pos hge]);have hgt:(z:Int) ≥ 281474976710656:=(by omega);obtain⟨r0,r1,r2⟩:=rR2.p3;obtain⟨f0,f1,f2⟩:=rR2.q3;have HX:=zH hx02;clear hx02 rB2 rR2 rO2 H2 HRS2 hge;go_wp2_with fail
    (try simp only [Exit.inBlock,Exit.then])
    refine bodyPost_ret (v:=.tuple #[stV (.slice none 0 0) (.slice none 0 0) (.slice none 0 0),I 9]) (by simp [results,Tryz.f11,go_sem,r0,r1,r2]) rfl ?_;have hq:=zcv (q:=w.heap.size+1+1) HX.out (by omega) (.slice none 0 0) (.slice none 0 0) (.slice none 0 0);refine ⟨.slice none 0 0,.slice none 0 0,.slice none 0 0,by (rw [HR.out];try rfl),?_⟩;rw [HR.out];exact⟨StAt.none _ _ _ _ _,hq⟩
   ·have hgt:¬ (z:Int) ≥ 281474976710656:=by omega
    have HRS3:=zH (show updS ⟨sa,se,sp⟩ p (dO,k,n,tx)=if zau se k=none/\256<=se.length then (zba,6) else
     if (updE ((zau se k).getD zai) (dO,k,n,tx) (p,z+1)).2=0 then (⟨setM sa p (z+1),zds se k (updE ((zau se k).getD zai) (dO,k,n,tx) (p,z+1)).1,sp⟩,0)
     else (zba,(updE ((zau se k).getD zai) (dO,k,n,tx) (p,z+1)).2) by rw [HRS2.out,if_neg hge])
    have HWA:=zH (show IntKind.u64.wrap ((z:Int)+1)=((z+1:Nat):Int) by rw [zcg];omega);have HF0:=zms k (H2.out.entries);simp only at HF0;obtain⟨e,he⟩:∃ e,(zau se k).getD zai=e:=⟨_,rfl⟩
    obtain⟨is,his⟩:∃ is,(zau se k).isSome=is:=⟨_,rfl⟩
    rw [he,his] at HF0;have HF:=zH HF0;have HE:=zH he;have HIS:=zH his;rw [he] at HRS3;clear HF0 he his;have b1:=rB2.cell (j:=1) rfl;have o1:=rO2.cell (j:=1) rfl;clear HRS2 hge;have hgt2:((z:Int) ≥ 281474976710656)=False:=eq_false hgt;have hzl:z < 281474976710656:=(by omega);clear hgt;go_wp2_with fail;clear hgt2;refine HF.out.mono ?_;rintro r W3 ⟨a1,a2,a3,rfl,hA,hx3⟩;have hse:SmallE e:=(by rw [<- HE.out];exact znm (l:=se) SM.out.each k);obtain⟨C1,c1,rfl,-,-⟩:=hA.seen.form;obtain⟨C2,c2,rfl,-,-⟩:=hA.counts.form;obtain⟨C3,c3,rfl,-,-⟩:=hA.items.form;have rE:=zah W3 37 (entL e (.slice C1 e.seen.length c1) (.slice C2 e.counts.length c2) (.slice C3 e.items.length c3));have hxb:=(Ext.refl W3).alloc (.cells (entL e (.slice C1 e.seen.length c1) (.slice C2 e.counts.length c2) (.slice C3 e.items.length c3)).toArray 37);have hx3b:=hx3.trans hxb;have hx3w:=hx02.trans hx3;have rBw:=rB2.ext hx3;have rOw:=rO2.ext hx3;have rRw:=rR2.ext hx3;have bw1:=rBw.cell (j:=1) rfl;have hx03:=hx02.trans hx3b;have rB3:=rB2.ext hx3b;have rO3:=rO2.ext hx3b;have rR3:=rR2.ext hx3b;have hz3:=Nat.le_trans hz2 hx3.size;have hEz:=rE.lt;have H3:=zH (H2.out.ext hx3b);have HU:=zH (zyn (dO,k,n,tx) (p,z+1) (hA.ext hxb) hse hn1 hn2);have b1':=rB3.cell (j:=1) rfl;have o1':=rO3.cell (j:=1) rfl;clear hx02 rB2 rR2 rO2 H2 HF hx3 b1 o1 hz2 hA hx3b;have hblt:w.heap.size < W3.heap.size:=(by omega);have holt:w.heap.size+1 < W3.heap.size:=by omega
    by_cases hfull:zau se k=none/\256<=se.length
    ·have HR:=zH (show updS ⟨sa,se,sp⟩ p (dO,k,n,tx)=(zba,6) by rw [HRS3.out,if_pos hfull]);have hlen:(se.length:Int) ≥ 256:=(by have:=hfull.2;omega);have hrlt:w.heap.size+1+1 < W3.heap.size:=(by omega);obtain rfl:is=false:=by rw [<- HIS.out,hfull.1];rfl
     have b19:=(show RowIs W3 w.heap.size 30 [.slice A1 sa.length n1,.slice A2 se.length n2,.slice A3 sp.length n3] [] from by have:=rB3;unfold RowIs at this ⊢;rw [<- this];symm;exact hxb.block _ (by omega)).cell (j:=1) rfl
     have rR39:=(show RowIs W3 (w.heap.size+1+1) 30 [.slice none 0 0,.slice none 0 0,.slice none 0 0] [] from by have:=rR3;unfold RowIs at this ⊢;rw [<- this];symm;exact hxb.block _ (by omega))
     obtain⟨r0,r1,r2⟩:=rR39.p3;obtain⟨f0,f1,f2⟩:=rR39.q3;have HX:=zH hx3w;clear hx3w hx03 rB3 rR3 rO3 H3 HRS3 hfull hxb rE rR39 HU;go_wp2_with fail
     (try simp only [Exit.inBlock,Exit.then])
     refine bodyPost_ret (v:=.tuple #[stV (.slice none 0 0) (.slice none 0 0) (.slice none 0 0),I 6]) (by simp [results,Tryz.f11,go_sem,r0,r1,r2,hrlt]) rfl ?_;have hq:=(zcv (q:=w.heap.size+1+1) HX.out (by omega) (.slice none 0 0) (.slice none 0 0) (.slice none 0 0)).alloc (.cells (entL e (.slice C1 e.seen.length c1) (.slice C2 e.counts.length c2) (.slice C3 e.items.length c3)).toArray 37);refine ⟨.slice none 0 0,.slice none 0 0,.slice none 0 0,by (rw [HR.out];try rfl),?_⟩;rw [HR.out];exact⟨StAt.none _ _ _ _ _,hq⟩
    ·have HRS4:=zH (show updS ⟨sa,se,sp⟩ p (dO,k,n,tx)=if (updE e (dO,k,n,tx) (p,z+1)).2=0 then (⟨setM sa p (z+1),zds se k (updE e (dO,k,n,tx) (p,z+1)).1,sp⟩,0) else (zba,(updE e (dO,k,n,tx) (p,z+1)).2) by rw [HRS3.out,if_neg hfull]);obtain⟨e0,e1,e2,e3,e4,e5,e6⟩:=rE.p7;have o0:=rO3.cell (j:=0) rfl;have o2:=rO3.cell (j:=2) rfl;have o3:=rO3.cell (j:=3) rfl;obtain⟨q,hq⟩:∃ q,updE e (dO,k,n,tx) (p,z+1)=q:=⟨_,rfl⟩
     have HU2:=HU.out;rw [hq] at HU2 HRS4;have HUU:=zH HU2;obtain⟨e9,err⟩:=q;clear HU HU2 hq;have hbne:¬ (w.heap.size=W3.heap.size):=(by omega);have hone:¬ (w.heap.size+1=W3.heap.size):=(by omega);have hrne:¬ (w.heap.size+1+1=W3.heap.size):=by omega
     have hways:(is=true/\∃ m,zau se k=some m) ∨ (is=false/\¬ (se.length:Int) ≥ 256/\zau se k=none):=by
      have h9:=HIS.out
      cases hf:zau se k with
      | none=>rw [hf] at h9;exact .inr ⟨h9.symm,fun h=>hfull ⟨hf,by omega⟩,rfl⟩
      | some m=>rw [hf] at h9;exact .inl ⟨h9.symm,m,rfl⟩
     have HSW:=zH hways;clear hways hfull HIS HE;obtain⟨w0,w1,w2,w3⟩:=rOw.p4;have hwa:=HWA.out;rcases HSW.out with ⟨rfl,m0,hsome⟩ | ⟨rfl,hlen,hsome⟩
     ·have HSO:=zH hsome;clear hsome HSW;go_wp2_with fail;refine HUU.out.mono ?_;rintro r W4 ⟨y1,y2,y3,rfl,hA4,hx4⟩;rename_i K1 hK1 K0 hK0;have HK1:=zH hK1;clear hK1;simp only at hA4 ⊢;obtain⟨Y1,y1n,rfl,-,-⟩:=hA4.seen.form;obtain⟨Y2,y2n,rfl,-,-⟩:=hA4.counts.form;obtain⟨Y3,y3n,rfl,-,-⟩:=hA4.items.form;have hz4:=hx4.size;have rB4:=rB3.ext hx4;have rO4:=rO3.ext hx4;have rR4:=rR3.ext hx4;have rE4:=rE.ext hx4;have hkp:=ze0 W4 W3.heap.size e9 (.slice Y1 e9.seen.length y1n) (.slice Y2 e9.counts.length y2n) (.slice Y3 e9.items.length y3n);have hPs:W4.heap.size<=(put7 W4 W3.heap.size e9 (.slice Y1 e9.seen.length y1n) (.slice Y2 e9.counts.length y2n) (.slice Y3 e9.items.length y3n)).heap.size/\(put7 W4 W3.heap.size e9 (.slice Y1 e9.seen.length y1n) (.slice Y2 e9.counts.length y2n) (.slice Y3 e9.items.length y3n)).heap.size<=W4.heap.size:=(by have:=zpb W4 W3.heap.size e9 (.slice Y1 e9.seen.length y1n) (.slice Y2 e9.counts.length y2n) (.slice Y3 e9.items.length y3n);omega);have rB5:RowIs (put7 W4 W3.heap.size e9 (.slice Y1 e9.seen.length y1n) (.slice Y2 e9.counts.length y2n) (.slice Y3 e9.items.length y3n)) _ _ _ _:=rB4.keep (hkp _ hbne);have rO5:RowIs (put7 W4 W3.heap.size e9 (.slice Y1 e9.seen.length y1n) (.slice Y2 e9.counts.length y2n) (.slice Y3 e9.items.length y3n)) _ _ _ _:=rO4.keep (hkp _ hone);have rR5:RowIs (put7 W4 W3.heap.size e9 (.slice Y1 e9.seen.length y1n) (.slice Y2 e9.counts.length y2n) (.slice Y3 e9.items.length y3n)) _ _ _ _:=rR4.keep (hkp _ hrne);have rG5:RowIs (put7 W4 W3.heap.size e9 (.slice Y1 e9.seen.length y1n) (.slice Y2 e9.counts.length y2n) (.slice Y3 e9.items.length y3n)) _ _ _ _:=zq2 (e:=e9) (v1:=.slice Y1 e9.seen.length y1n) (v2:=.slice Y2 e9.counts.length y2n) (v3:=.slice Y3 e9.items.length y3n) rE4;have hx5:Ext w (put7 W4 W3.heap.size e9 (.slice Y1 e9.seen.length y1n) (.slice Y2 e9.counts.length y2n) (.slice Y3 e9.items.length y3n)):=zb4 (hx03.trans hx4) (by omega) e9 _ _ _;have hEW:W3.heap.size < W4.heap.size:=(by omega);have HA5:Hid (EntAt (put7 W4 W3.heap.size e9 (.slice Y1 e9.seen.length y1n) (.slice Y2 e9.counts.length y2n) (.slice Y3 e9.items.length y3n)) (fun b=>W3.heap.size < b/\b < W4.heap.size) e9 _ _ _):=zH ((hA4.mono (S':=fun b=>W3.heap.size < b/\b < W4.heap.size) (fun b hb h=>⟨by omega,hb⟩)).keep fun b hb _=>hkp b (by omega));have H5:Hid (StAt (put7 W4 W3.heap.size e9 (.slice Y1 e9.seen.length y1n) (.slice Y2 e9.counts.length y2n) (.slice Y3 e9.items.length y3n)) (fun b=>b < w.heap.size) ⟨sa,se,sp⟩ _ _ _):=zH ((H3.out.ext hx4).keep fun b hb _=>hkp b (by omega));obtain⟨e40,e41,e42,e43,e44,e45,e46⟩:=rE4.p7;obtain⟨ef0,ef1,ef2,ef3,ef4,ef5,ef6⟩:=rE4.q7;have HP5:=zH (show _/\_/\_/\_/\_/\_ from ⟨rB5,rO5,rR5,rG5,hx5,hPs⟩);clear hA4 hx4 hkp HUU rB4 rE4 rO4 rR4 rB5 rO5 rR5 rG5 hx5 hPs rB3 rO3 rR3 rE rBw rOw rRw hx03 H3 hx3w hxb hz3 hEz;clear e0 e1 e2 e3 e4 e5 e6 o0 o2 o3 o1' b1' w0 w1 w2 w3 bw1 hwa;refine hK0 _ _ ?_;clear hK0 K0;go_wp;refine HK1.out _ (put7 W4 W3.heap.size e9 (.slice Y1 e9.seen.length y1n) (.slice Y2 e9.counts.length y2n) (.slice Y3 e9.items.length y3n)) ?_
      clear HK1 K1 e40 e41 e42 e43 e44 e45 e46 ef0 ef1 ef2 ef3 ef4 ef5 ef6;generalize (put7 W4 W3.heap.size e9 (.slice Y1 e9.seen.length y1n) (.slice Y2 e9.counts.length y2n) (.slice Y3 e9.items.length y3n))=W5 at *;obtain⟨rB5,rO5,rR5,rG5,hx5,hPs⟩:=HP5.out;clear HP5;obtain⟨b50,b51,b52⟩:=rB5.p3
      by_cases herr:err=0
      ·subst herr;have HR:=zH (show updS ⟨sa,se,sp⟩ p (dO,k,n,tx)=(⟨setM sa p (z+1),zds se k e9,sp⟩,0) from HRS4.out);have HC:=zH (zio H5.out SM.out);clear HRS4;refine wp_seq_k ?_;intro K2 hK2;have HK2:=zH hK2;clear hK2;go_wp;refine HK2.out _ _ ?_;clear HK2 K2;refine wp_seq_k ?_;intro K3 hK3;have HK3:=zH hK3;clear hK3;go_wp;refine HC.out.mono ?_;rintro r W6 ⟨u1,u2,u3,rfl,hn6,hx6⟩;obtain⟨B1,m1,rfl,-,-⟩:=hn6.all.form;obtain⟨B2,m2,rfl,-,-⟩:=hn6.entries.form;obtain⟨B3,m3,rfl,-,-⟩:=hn6.pruned.form;clear HC b50 b51 b52;have hz6:=hx6.size;have rS6:=zah W6 30 [.slice B1 sa.length m1,.slice B2 se.length m2,.slice B3 sp.length m3];have hxa:=(Ext.refl W6).alloc (.cells #[.slice B1 sa.length m1,.slice B2 se.length m2,.slice B3 sp.length m3] 30);have hol6:w.heap.size+1 < W6.heap.size:=(by omega);have hx67:=hx6.trans hxa;have o61:=(rO5.ext hx67).cell (j:=1) rfl;have s71:=rS6.cell (j:=1) rfl;have rG7:=rG5.ext hx67;have rR7:=rR5.ext hx67;have hx7:=hx5.trans hx67;have HA7:=zH (HA5.out.ext hx67);have HN7:=zH ((hn6.at.mono (S':=fun b=>W5.heap.size<=b/\b < W6.heap.size) (fun b hb h=>⟨h,hb⟩)).ext hxa);have HE7:=zH (OwnL.ext (OwnL.mono hn6.entries (S':=fun b=>(W5.heap.size<=b/\¬ zae (.slice B2 se.length m2) b)/\b < W6.heap.size) (fun b hb h=>⟨h,hb⟩)) hxa);have hE6:∀ b,zae (.slice B2 se.length m2) b->W5.heap.size<=b/\b < W6.heap.size:=fun b hb=>hn6.entries.base_le hb
       have HSR:=zH (zma k HN7.out.entries hri.out (Nat.le_trans SM.out.entries (by decide)));have hS6:=rS6.lt
       have HO6:=zH (show Own (W6.alloc (.cells #[.slice B1 sa.length m1,.slice B2 se.length m2,.slice B3 sp.length m3] 30)) W5.heap.size 25 2 (.slice B1 sa.length m1) sa.length (sa.flatMap zag)/\Own (W6.alloc (.cells #[.slice B1 sa.length m1,.slice B2 se.length m2,.slice B3 sp.length m3] 30)) W5.heap.size 9 1 (.slice B3 sp.length m3) sp.length (sp.flatMap strC)/\(∀ b,zae (.slice B1 sa.length m1) b->¬ zae (.slice B2 se.length m2) b)/\(∀ b,zae (.slice B3 sp.length m3) b->¬ zae (.slice B2 se.length m2) b) from by obtain⟨xE,hoE⟩:=hn6.entries.own;exact⟨hn6.all.ext hxa,hn6.pruned.ext hxa,hn6.all.apart2 hoE (by decide),hn6.pruned.apart2 hoE (by decide)⟩)
       clear hn6 hx6 hxa hx67 rG5 rR5 hx5 HA5 H5 rO5;rename_i K hK;refine hK _ _ ?_;clear hK K;go_wp;refine HK3.out _ _ ?_;clear HK3 K3;generalize W6.alloc (.cells #[.slice B1 sa.length m1,.slice B2 se.length m2,.slice B3 sp.length m3] 30)=W7 at *;refine wp_seq_k ?_;intro K5 hK5;have HK5:=zH hK5;clear hK5;go_wp;refine HSR.out.mono ?_;rintro r W8 ⟨i,is2,rfl,hF,hx8⟩;have rS8:=rS6.ext hx8;have rG8:=rG7.ext hx8;have rR8:=rR7.ext hx8;have hx08:=hx7.trans hx8;have hz8:=hx8.size;clear rS6 rG7 rR7 hx7 HSR o61 s71;obtain⟨hil,hput⟩:=zwv (e:=e9) hri.out hF HSO.out;obtain⟨g,cap,X1,X2,tl,c0,c1x,c2x,c3x,c4,c5,c6,hv,hgb,hg,hX1,hfin⟩:=zyp (S:=fun b=>W3.heap.size < b/\b < W4.heap.size) (Sx:=fun b=>W3.heap.size < b/\b < W6.heap.size) (OwnL.ext HE7.out hx8) hil (HA7.out.ext hx8) (fun b hb=>⟨fun ho=>by have:=hE6 b ho;omega,by omega⟩) (fun b hb=>⟨hb.1.2,by have:=hb.1.1;have:=hb.2;omega⟩) (fun b hb=>by have:=hE6 b hb;omega);obtain⟨e1,e2⟩:B2=some ⟨g,0,none⟩/\m2=cap:=by injection hv with a b c;exact⟨a,c⟩
       subst e1;subst e2;clear hv;have hm2:0 < m2:=by obtain⟨_,c,e,h1,_⟩:=HE7.out.form;injection e with _ _ e3;subst e3;exact Nat.lt_of_lt_of_le (Nat.lt_of_le_of_lt (Nat.zero_le i) hil) h1
       have hgE:=hE6 g ⟨g,_,_,rfl,hm2,rfl⟩;obtain⟨k0,k1,k2,k3,k4,k5,k6⟩:=yad hg hX1;have kf0:=hg.frozen (i * 7);have kf1:=hg.frozen (i * 7+1);have kf2:=hg.frozen (i * 7+2);have kf3:=hg.frozen (i * 7+3);have kf4:=hg.frozen (i * 7+4);have kf5:=hg.frozen (i * 7+5);have kf6:=hg.frozen (i * 7+6);have hi1:(i:Int) < (se.length:Int):=(by omega);have s1:=rS8.cell (j:=1) rfl;have s0:=rS8.cell (j:=0) rfl;obtain⟨g0,g1,g2,g3,g4,g5,g6⟩:=rG8.p7;have hgs:¬ (W6.heap.size=g):=(by omega);have hgs2:¬ (g=W6.heap.size):=(by omega);have hk9:∀ b,b ≠ g->(((((((W8.setCell ⟨g,i * 7,none⟩ (St e9.key)).setCell ⟨g,i * 7+1,none⟩ (.slice Y1 e9.seen.length y1n)).setCell ⟨g,i * 7+2,none⟩ (.slice Y2 e9.counts.length y2n)).setCell ⟨g,i * 7+3,none⟩ (.slice Y3 e9.items.length y3n)).setCell ⟨g,i * 7+4,none⟩ (U e9.cell.1)).setCell ⟨g,i * 7+5,none⟩ (St e9.cell.2.1)).setCell ⟨g,i * 7+6,none⟩ (.bool e9.cell.2.2)).heap[b]? = W8.heap[b]?:=fun b hb=>((((((Below.heap_setCell _ _ _ b hb).trans (Below.heap_setCell _ _ _ b hb)).trans (Below.heap_setCell _ _ _ b hb)).trans (Below.heap_setCell _ _ _ b hb)).trans (Below.heap_setCell _ _ _ b hb)).trans (Below.heap_setCell _ _ _ b hb)).trans (Below.heap_setCell _ _ _ b hb)
       have HE9:=zH (hfin (((((((W8.setCell ⟨g,i * 7,none⟩ (St e9.key)).setCell ⟨g,i * 7+1,none⟩ (.slice Y1 e9.seen.length y1n)).setCell ⟨g,i * 7+2,none⟩ (.slice Y2 e9.counts.length y2n)).setCell ⟨g,i * 7+3,none⟩ (.slice Y3 e9.items.length y3n)).setCell ⟨g,i * 7+4,none⟩ (U e9.cell.1)).setCell ⟨g,i * 7+5,none⟩ (St e9.cell.2.1)).setCell ⟨g,i * 7+6,none⟩ (.bool e9.cell.2.2)) (RowIs.set7 hg hX1 _ _ _ _ _ _ _) (fun b hb _=>hk9 b hb));have rS9:RowIs (((((((W8.setCell ⟨g,i * 7,none⟩ (St e9.key)).setCell ⟨g,i * 7+1,none⟩ (.slice Y1 e9.seen.length y1n)).setCell ⟨g,i * 7+2,none⟩ (.slice Y2 e9.counts.length y2n)).setCell ⟨g,i * 7+3,none⟩ (.slice Y3 e9.items.length y3n)).setCell ⟨g,i * 7+4,none⟩ (U e9.cell.1)).setCell ⟨g,i * 7+5,none⟩ (St e9.cell.2.1)).setCell ⟨g,i * 7+6,none⟩ (.bool e9.cell.2.2)) _ _ _ _:=rS8.keep (hk9 _ hgs);have rR9:RowIs (((((((W8.setCell ⟨g,i * 7,none⟩ (St e9.key)).setCell ⟨g,i * 7+1,none⟩ (.slice Y1 e9.seen.length y1n)).setCell ⟨g,i * 7+2,none⟩ (.slice Y2 e9.counts.length y2n)).setCell ⟨g,i * 7+3,none⟩ (.slice Y3 e9.items.length y3n)).setCell ⟨g,i * 7+4,none⟩ (U e9.cell.1)).setCell ⟨g,i * 7+5,none⟩ (St e9.cell.2.1)).setCell ⟨g,i * 7+6,none⟩ (.bool e9.cell.2.2)) _ _ _ _:=rR8.keep (hk9 _ (by omega));rw [hput] at HE9;have hO1:=(HO6.out.1.ext hx8).keep (w':=(((((((W8.setCell ⟨g,i * 7,none⟩ (St e9.key)).setCell ⟨g,i * 7+1,none⟩ (.slice Y1 e9.seen.length y1n)).setCell ⟨g,i * 7+2,none⟩ (.slice Y2 e9.counts.length y2n)).setCell ⟨g,i * 7+3,none⟩ (.slice Y3 e9.items.length y3n)).setCell ⟨g,i * 7+4,none⟩ (U e9.cell.1)).setCell ⟨g,i * 7+5,none⟩ (St e9.cell.2.1)).setCell ⟨g,i * 7+6,none⟩ (.bool e9.cell.2.2))) fun b hb _=>hk9 b (fun e=>by subst e;exact HO6.out.2.2.1 _ hb ⟨_,_,_,rfl,hm2,rfl⟩)
       have hO3:=(HO6.out.2.1.ext hx8).keep (w':=(((((((W8.setCell ⟨g,i * 7,none⟩ (St e9.key)).setCell ⟨g,i * 7+1,none⟩ (.slice Y1 e9.seen.length y1n)).setCell ⟨g,i * 7+2,none⟩ (.slice Y2 e9.counts.length y2n)).setCell ⟨g,i * 7+3,none⟩ (.slice Y3 e9.items.length y3n)).setCell ⟨g,i * 7+4,none⟩ (U e9.cell.1)).setCell ⟨g,i * 7+5,none⟩ (St e9.cell.2.1)).setCell ⟨g,i * 7+6,none⟩ (.bool e9.cell.2.2))) fun b hb _=>hk9 b (fun e=>by subst e;exact HO6.out.2.2.2 _ hb ⟨_,_,_,rfl,hm2,rfl⟩)
       have hx9:Ext w (((((((W8.setCell ⟨g,i * 7,none⟩ (St e9.key)).setCell ⟨g,i * 7+1,none⟩ (.slice Y1 e9.seen.length y1n)).setCell ⟨g,i * 7+2,none⟩ (.slice Y2 e9.counts.length y2n)).setCell ⟨g,i * 7+3,none⟩ (.slice Y3 e9.items.length y3n)).setCell ⟨g,i * 7+4,none⟩ (U e9.cell.1)).setCell ⟨g,i * 7+5,none⟩ (St e9.cell.2.1)).setCell ⟨g,i * 7+6,none⟩ (.bool e9.cell.2.2)):=((((((hx08.set (p:=⟨g,i * 7,none⟩) (by simp;omega) _).set (p:=⟨g,i * 7+1,none⟩) (by simp;omega) _).set (p:=⟨g,i * 7+2,none⟩) (by simp;omega) _).set (p:=⟨g,i * 7+3,none⟩) (by simp;omega) _).set (p:=⟨g,i * 7+4,none⟩) (by simp;omega) _).set (p:=⟨g,i * 7+5,none⟩) (by simp;omega) _).set (p:=⟨g,i * 7+6,none⟩) (by simp;omega) _;have hz9:(((((((W8.setCell ⟨g,i * 7,none⟩ (St e9.key)).setCell ⟨g,i * 7+1,none⟩ (.slice Y1 e9.seen.length y1n)).setCell ⟨g,i * 7+2,none⟩ (.slice Y2 e9.counts.length y2n)).setCell ⟨g,i * 7+3,none⟩ (.slice Y3 e9.items.length y3n)).setCell ⟨g,i * 7+4,none⟩ (U e9.cell.1)).setCell ⟨g,i * 7+5,none⟩ (St e9.cell.2.1)).setCell ⟨g,i * 7+6,none⟩ (.bool e9.cell.2.2)).heap.size=W8.heap.size:=(by simp only [World.size_setCell]);have HS:=zH (zlf p (z+1) (zax hO1) (Nat.le_trans SM.out.all (by decide)));clear HE7 HA7 HN7 hfin hg hk9 rS8 rG8 rR8 hx08 hx8 HO6 hgE hgb hF hput;rename_i K hK;refine hK _ _ ?_;clear hK K;go_wp;refine HK5.out _ _ ?_;clear HK5 K5;refine wp_seq_k ?_;intro K6 hK6;have HK6:=zH hK6;clear hK6;go_wp;refine HK6.out _ (((((((W8.setCell ⟨g,i * 7,none⟩ (St e9.key)).setCell ⟨g,i * 7+1,none⟩ (.slice Y1 e9.seen.length y1n)).setCell ⟨g,i * 7+2,none⟩ (.slice Y2 e9.counts.length y2n)).setCell ⟨g,i * 7+3,none⟩ (.slice Y3 e9.items.length y3n)).setCell ⟨g,i * 7+4,none⟩ (U e9.cell.1)).setCell ⟨g,i * 7+5,none⟩ (St e9.cell.2.1)).setCell ⟨g,i * 7+6,none⟩ (.bool e9.cell.2.2)) ?_;clear HK6 K6;generalize (((((((W8.setCell ⟨g,i * 7,none⟩ (St e9.key)).setCell ⟨g,i * 7+1,none⟩ (.slice Y1 e9.seen.length y1n)).setCell ⟨g,i * 7+2,none⟩ (.slice Y2 e9.counts.length y2n)).setCell ⟨g,i * 7+3,none⟩ (.slice Y3 e9.items.length y3n)).setCell ⟨g,i * 7+4,none⟩ (U e9.cell.1)).setCell ⟨g,i * 7+5,none⟩ (St e9.cell.2.1)).setCell ⟨g,i * 7+6,none⟩ (.bool e9.cell.2.2))=W9 at *;have s90:=rS9.cell (j:=0) rfl;have hwa2:=HWA.out;refine wp_seq_k ?_;intro K7 hK7;have HK7:=zH hK7;clear hK7;go_wp;clear s90 hwa2;refine HS.out.mono ?_;rintro r W10 ⟨u,rfl,ho,hx10⟩;obtain⟨U1,un,rfl,-,-⟩:=ho.form;have hz10:=hx10.size;have rS10:=rS9.ext hx10;have rR10:=rR9.ext hx10;obtain⟨y0,y1,y2⟩:=rS10.p3;have yf:=rS10.frozen 0;have rS11:=rS10.set (j:=0) (by simp) (.slice U1 (setM sa p (z+1)).length un);simp only [List.set_cons_zero] at rS11;obtain⟨z0,z1,z2⟩:=rS11.p3;obtain⟨rr0,rr1,rr2⟩:=rR10.p3;obtain⟨ff0,ff1,ff2⟩:=rR10.q3;have rR11:=rR10.other (p:=⟨W6.heap.size,0,none⟩) (by simp;omega) (.slice U1 (setM sa p (z+1)).length un);obtain⟨r0,r1,r2⟩:=rR11.p3;obtain⟨f0,f1,f2⟩:=rR11.q3;have HX:=zH ((hx9.trans hx10).set (p:=⟨W6.heap.size,0,none⟩) (by simp;omega) (.slice U1 (setM sa p (z+1)).length un));have HO:=zH ho;have HE10:=zH (HE9.out.ext (by decide) hx10)
       have HP10:=zH (hO3.ext hx10);have hP3:∀ b,zae (.slice B3 sp.length m3) b->b ≠ W6.heap.size:=fun b hb e=>(hO3.ext hx10).apart rS10 (by decide) (by rw [<- e];exact hb)
       clear ho rS9 rR9 rS10 rR10 rS11 rR11 hx9 hx10 HS HE9 hO1 hO3;rename_i K hK;refine hK _ _ ?_;clear hK K;go_wp;refine HK7.out _ _ ?_;clear HK7 K7;go_wp2_with fail
       (try simp only [Exit.inBlock,Exit.then])
       refine bodyPost_ret (v:=.tuple #[stV (.slice U1 (setM sa p (z+1)).length un) (.slice (some ⟨g,0,none⟩) se.length m2) (.slice B3 sp.length m3),I 0]) (by simp [results,Tryz.f11,go_sem,r0,r1,r2,rr0,rr1,rr2]) rfl ?_;have hq:=zcv (q:=w.heap.size+1+1) HX.out (by omega) (.slice U1 (setM sa p (z+1)).length un) (.slice (some ⟨g,0,none⟩) se.length m2) (.slice B3 sp.length m3);refine ⟨(.slice U1 (setM sa p (z+1)).length un),(.slice (some ⟨g,0,none⟩) se.length m2),.slice B3 sp.length m3,by (rw [HR.out];try rfl),?_⟩;rw [HR.out];refine ⟨?_,hq⟩;have hkp:∀ b,b ≠ W6.heap.size->b ≠ w.heap.size+1+1->(put3 (W10.setCell ⟨W6.heap.size,0,none⟩ (.slice U1 (setM sa p (z+1)).length un)) (w.heap.size+1+1) (.slice U1 (setM sa p (z+1)).length un) (.slice (some ⟨g,0,none⟩) se.length m2) (.slice B3 sp.length m3)).heap[b]? = W10.heap[b]?:=fun b h1 h2=>(ze1 _ _ _ _ _ b h2).trans (Below.heap_setCell _ _ _ _ h1)
       refine ⟨?_,?_,?_⟩
       ·exact (zax (HO.out.keep fun b hb _=>hkp b (by have:=(HO.out.base_le hb).1;omega) (by have:=(HO.out.base_le hb).1;omega))).mono (by decide) fun b _ h=>by omega
       ·exact (HE10.out.keep (by decide) fun b hb _=>hkp b (by omega) (by omega)).mono (by decide) fun b _ hb=>by omega
       ·exact ((OwnL.flat_iff (S:=fun b=>W5.heap.size<=b)).2 (HP10.out.keep fun b hb _=>hkp b (hP3 b hb) (by have:=(HP10.out.base_le hb).1;omega))).sl (by decide) (fun b _ h=>by omega) (fun b h _=>by omega)
      ·have HR:=zH (show updS ⟨sa,se,sp⟩ p (dO,k,n,tx)=(zba,err) by rw [HRS4.out];exact if_neg herr);have hne9:((err:Int) == 0)=false:=neI (by omega);obtain⟨r0,r1,r2⟩:=rR5.p3;obtain⟨f0,f1,f2⟩:=rR5.q3;have HX:=zH hx5;clear hx5 rB5 rR5 rO5 rG5 HA5 H5 HRS4;go_wp2_with fail
       (try simp only [Exit.inBlock,Exit.then])
       refine bodyPost_ret (v:=.tuple #[stV (.slice none 0 0) (.slice none 0 0) (.slice none 0 0),I err]) (by simp [results,Tryz.f11,go_sem,r0,r1,r2]) rfl ?_;have hq:=zcv (q:=w.heap.size+1+1) HX.out (by omega) (.slice none 0 0) (.slice none 0 0) (.slice none 0 0);refine ⟨.slice none 0 0,.slice none 0 0,.slice none 0 0,by (rw [HR.out];try rfl),?_⟩;rw [HR.out];exact⟨StAt.none _ _ _ _ _,hq⟩
     ·have HSO:=zH hsome;clear hsome HSW;go_wp2_with fail;refine HUU.out.mono ?_;rintro r W4 ⟨y1,y2,y3,rfl,hA4,hx4⟩;rename_i K1 hK1 K0 hK0;have HK1:=zH hK1;clear hK1;simp only at hA4 ⊢;obtain⟨Y1,y1n,rfl,-,-⟩:=hA4.seen.form;obtain⟨Y2,y2n,rfl,-,-⟩:=hA4.counts.form;obtain⟨Y3,y3n,rfl,-,-⟩:=hA4.items.form;have hz4:=hx4.size;have rB4:=rB3.ext hx4;have rO4:=rO3.ext hx4;have rR4:=rR3.ext hx4;have rE4:=rE.ext hx4;have hkp:=ze0 W4 W3.heap.size e9 (.slice Y1 e9.seen.length y1n) (.slice Y2 e9.counts.length y2n) (.slice Y3 e9.items.length y3n);have hPs:W4.heap.size<=(put7 W4 W3.heap.size e9 (.slice Y1 e9.seen.length y1n) (.slice Y2 e9.counts.length y2n) (.slice Y3 e9.items.length y3n)).heap.size/\(put7 W4 W3.heap.size e9 (.slice Y1 e9.seen.length y1n) (.slice Y2 e9.counts.length y2n) (.slice Y3 e9.items.length y3n)).heap.size<=W4.heap.size:=(by have:=zpb W4 W3.heap.size e9 (.slice Y1 e9.seen.length y1n) (.slice Y2 e9.counts.length y2n) (.slice Y3 e9.items.length y3n);omega);have rB5:RowIs (put7 W4 W3.heap.size e9 (.slice Y1 e9.seen.length y1n) (.slice Y2 e9.counts.length y2n) (.slice Y3 e9.items.length y3n)) _ _ _ _:=rB4.keep (hkp _ hbne);have rO5:RowIs (put7 W4 W3.heap.size e9 (.slice Y1 e9.seen.length y1n) (.slice Y2 e9.counts.length y2n) (.slice Y3 e9.items.length y3n)) _ _ _ _:=rO4.keep (hkp _ hone);have rR5:RowIs (put7 W4 W3.heap.size e9 (.slice Y1 e9.seen.length y1n) (.slice Y2 e9.counts.length y2n) (.slice Y3 e9.items.length y3n)) _ _ _ _:=rR4.keep (hkp _ hrne);have rG5:RowIs (put7 W4 W3.heap.size e9 (.slice Y1 e9.seen.length y1n) (.slice Y2 e9.counts.length y2n) (.slice Y3 e9.items.length y3n)) _ _ _ _:=zq2 (e:=e9) (v1:=.slice Y1 e9.seen.length y1n) (v2:=.slice Y2 e9.counts.length y2n) (v3:=.slice Y3 e9.items.length y3n) rE4;have hx5:Ext w (put7 W4 W3.heap.size e9 (.slice Y1 e9.seen.length y1n) (.slice Y2 e9.counts.length y2n) (.slice Y3 e9.items.length y3n)):=zb4 (hx03.trans hx4) (by omega) e9 _ _ _;have hEW:W3.heap.size < W4.heap.size:=(by omega);have HA5:Hid (EntAt (put7 W4 W3.heap.size e9 (.slice Y1 e9.seen.length y1n) (.slice Y2 e9.counts.length y2n) (.slice Y3 e9.items.length y3n)) (fun b=>W3.heap.size < b/\b < W4.heap.size) e9 _ _ _):=zH ((hA4.mono (S':=fun b=>W3.heap.size < b/\b < W4.heap.size) (fun b hb h=>⟨by omega,hb⟩)).keep fun b hb _=>hkp b (by omega));have H5:Hid (StAt (put7 W4 W3.heap.size e9 (.slice Y1 e9.seen.length y1n) (.slice Y2 e9.counts.length y2n) (.slice Y3 e9.items.length y3n)) (fun b=>b < w.heap.size) ⟨sa,se,sp⟩ _ _ _):=zH ((H3.out.ext hx4).keep fun b hb _=>hkp b (by omega));obtain⟨e40,e41,e42,e43,e44,e45,e46⟩:=rE4.p7;obtain⟨ef0,ef1,ef2,ef3,ef4,ef5,ef6⟩:=rE4.q7;have HP5:=zH (show _/\_/\_/\_/\_/\_ from ⟨rB5,rO5,rR5,rG5,hx5,hPs⟩);clear hA4 hx4 hkp HUU rB4 rE4 rO4 rR4 rB5 rO5 rR5 rG5 hx5 hPs rB3 rO3 rR3 rE rBw rOw rRw hx03 H3 hx3w hxb hz3 hEz;clear e0 e1 e2 e3 e4 e5 e6 o0 o2 o3 o1' b1' w0 w1 w2 w3 bw1 hwa;refine hK0 _ _ ?_;clear hK0 K0;go_wp;refine HK1.out _ (put7 W4 W3.heap.size e9 (.slice Y1 e9.seen.length y1n) (.slice Y2 e9.counts.length y2n) (.slice Y3 e9.items.length y3n)) ?_
      clear HK1 K1 e40 e41 e42 e43 e44 e45 e46 ef0 ef1 ef2 ef3 ef4 ef5 ef6;generalize (put7 W4 W3.heap.size e9 (.slice Y1 e9.seen.length y1n) (.slice Y2 e9.counts.length y2n) (.slice Y3 e9.items.length y3n))=W5 at *;obtain⟨rB5,rO5,rR5,rG5,hx5,hPs⟩:=HP5.out;clear HP5;obtain⟨b50,b51,b52⟩:=rB5.p3
      by_cases herr:err=0
      ·subst herr;have HR:=zH (show updS ⟨sa,se,sp⟩ p (dO,k,n,tx)=(⟨setM sa p (z+1),zds se k e9,sp⟩,0) from HRS4.out);have HC:=zH (zio H5.out SM.out);clear HRS4;refine wp_seq_k ?_;intro K2 hK2;have HK2:=zH hK2;clear hK2;go_wp;refine HK2.out _ _ ?_;clear HK2 K2;refine wp_seq_k ?_;intro K3 hK3;have HK3:=zH hK3;clear hK3;go_wp;refine HC.out.mono ?_;rintro r W6 ⟨u1,u2,u3,rfl,hn6,hx6⟩;obtain⟨B1,m1,rfl,-,-⟩:=hn6.all.form;obtain⟨B2,m2,rfl,-,-⟩:=hn6.entries.form;obtain⟨B3,m3,rfl,-,-⟩:=hn6.pruned.form;clear HC b50 b51 b52;have hz6:=hx6.size;have rS6:=zah W6 30 [.slice B1 sa.length m1,.slice B2 se.length m2,.slice B3 sp.length m3];have hxa:=(Ext.refl W6).alloc (.cells #[.slice B1 sa.length m1,.slice B2 se.length m2,.slice B3 sp.length m3] 30);have hol6:w.heap.size+1 < W6.heap.size:=(by omega);have hx67:=hx6.trans hxa;have o61:=(rO5.ext hx67).cell (j:=1) rfl;have s71:=rS6.cell (j:=1) rfl;have rG7:=rG5.ext hx67;have rR7:=rR5.ext hx67;have hx7:=hx5.trans hx67;have HA7:=zH (HA5.out.ext hx67);have HN7:=zH ((hn6.at.mono (S':=fun b=>W5.heap.size<=b/\b < W6.heap.size) (fun b hb h=>⟨h,hb⟩)).ext hxa);have HE7:=zH (OwnL.ext (OwnL.mono hn6.entries (S':=fun b=>(W5.heap.size<=b/\¬ zae (.slice B2 se.length m2) b)/\b < W6.heap.size) (fun b hb h=>⟨h,hb⟩)) hxa);have hE6:∀ b,zae (.slice B2 se.length m2) b->W5.heap.size<=b/\b < W6.heap.size:=fun b hb=>hn6.entries.base_le hb
       have HSR:=zH (zma k HN7.out.entries hri.out (Nat.le_trans SM.out.entries (by decide)));have hS6:=rS6.lt
       have HO6:=zH (show Own (W6.alloc (.cells #[.slice B1 sa.length m1,.slice B2 se.length m2,.slice B3 sp.length m3] 30)) W5.heap.size 25 2 (.slice B1 sa.length m1) sa.length (sa.flatMap zag)/\Own (W6.alloc (.cells #[.slice B1 sa.length m1,.slice B2 se.length m2,.slice B3 sp.length m3] 30)) W5.heap.size 9 1 (.slice B3 sp.length m3) sp.length (sp.flatMap strC)/\(∀ b,zae (.slice B1 sa.length m1) b->¬ zae (.slice B2 se.length m2) b)/\(∀ b,zae (.slice B3 sp.length m3) b->¬ zae (.slice B2 se.length m2) b) from by obtain⟨xE,hoE⟩:=hn6.entries.own;exact⟨hn6.all.ext hxa,hn6.pruned.ext hxa,hn6.all.apart2 hoE (by decide),hn6.pruned.apart2 hoE (by decide)⟩)
       clear hn6 hx6 hxa hx67 rG5 rR5 hx5 HA5 H5 rO5;rename_i K hK;refine hK _ _ ?_;clear hK K;go_wp;refine HK3.out _ _ ?_;clear HK3 K3;generalize W6.alloc (.cells #[.slice B1 sa.length m1,.slice B2 se.length m2,.slice B3 sp.length m3] 30)=W7 at *;refine wp_seq_k ?_;intro K5 hK5;have HK5:=zH hK5;clear hK5;go_wp;refine HSR.out.mono ?_;rintro r W8 ⟨i,is2,rfl,hF,hx8⟩;have rS8:=rS6.ext hx8;have rG8:=rG7.ext hx8;have rR8:=rR7.ext hx8;have hx08:=hx7.trans hx8;have hz8:=hx8.size;clear rS6 rG7 rR7 hx7 HSR o61 s71;obtain⟨hil,hput⟩:=zzm (e:=e9) hri.out hF HSO.out;have hxv:=(Ext.refl W8).alloc (.cells (entL e9 (.slice Y1 e9.seen.length y1n) (.slice Y2 e9.counts.length y2n) (.slice Y3 e9.items.length y3n)).toArray 37);have rV:=zah W8 37 (entL e9 (.slice Y1 e9.seen.length y1n) (.slice Y2 e9.counts.length y2n) (.slice Y3 e9.items.length y3n));have hVl:=rV.lt;obtain⟨xs,hown,hone1,hfin⟩:=zr9 (S:=fun b=>W3.heap.size < b/\b < W4.heap.size) (Sx:=fun b=>W3.heap.size < b/\b ≠ W6.heap.size) (OwnL.ext HE7.out (hx8.trans hxv)) hil (HA7.out.ext (hx8.trans hxv)) (fun b hb=>⟨fun ho=>by have:=hE6 b ho;omega,by omega,by omega⟩) (fun b hb=>⟨hb.1.2,by have:=hb.1.1;have:=hb.2;omega,by have:=hb.2;omega⟩) (fun b hb=>by have:=hE6 b hb;omega) (by omega);have hoV:=zfo ((HA7.out.ext (hx8.trans hxv)).rd (S':=fun _=>True) (fun _ _ _=>trivial));have HI:=zH (zr7 hown rV rfl hoV hone1 hil SM.out.entries (by omega) (fun ho=>by have:=hE6 _ ho;omega));obtain⟨g0,g1,g2,g3,g4,g5,g6⟩:=rG8.p7;have s1:=rS8.cell (j:=1) rfl;have hso:∀ b,zae (.slice B2 se.length m2) b->b ≠ W6.heap.size:=fun b hb=>by have:=hE6 b hb;omega
       have rSv:=rS8.ext hxv;have rRv:=rR8.ext hxv;have hx0v:=hx08.trans hxv;have HO8:=zH ((⟨HO6.out.1.ext (hx8.trans hxv),HO6.out.2.1.ext (hx8.trans hxv)⟩:_/\_));clear HE7 HA7 HN7 rG8 rR8 hx08 rS8 hF;rename_i K hK;refine hK _ _ ?_;clear hK K;go_wp;refine HK5.out _ _ ?_;clear HK5 K5;refine wp_seq_k ?_;intro K6 hK6;have HK6:=zH hK6;clear hK6;go_wp;generalize W8.alloc (.cells (entL e9 (.slice Y1 e9.seen.length y1n) (.slice Y2 e9.counts.length y2n) (.slice Y3 e9.items.length y3n)).toArray 37)=Wv at *;refine HI.out.mono ?_;rintro r W9 ⟨v9,rfl,hown9,hgr⟩;have HE9a:=hfin W9 v9 hown9 hgr;rw [hput] at HE9a;have hlen9:(zds se k e9).length=se.length+1:=(by rw [<- hput];simp;omega);obtain⟨AV,cV,rfl,-,-⟩:=hown9.form;have rSw:=rSv.keep (hgr.same _ rSv.lt (fun ho=>hso _ ho rfl));have rRw9:=rRv.keep (hgr.same _ rRv.lt (fun ho=>by have:=hE6 _ ho;omega));have hO1w:=HO8.out.1.keep fun b hb hlt=>hgr.same b hlt (fun ho=>HO6.out.2.2.1 b hb ho)
       have hO3w:=HO8.out.2.keep fun b hb hlt=>hgr.same b hlt (fun ho=>HO6.out.2.2.2 b hb ho)
       have hx0w:=hx0v.grew hgr (fun b hb=>by have:=hE6 b hb;omega);have sw0:=rSw.cell (j:=0) rfl;have sw1:=rSw.cell (j:=1) rfl;have swf:=rSw.frozen 1;have rS9:=rSw.set (j:=1) (by simp) (.slice AV (se.length+1) cV);simp only [List.set_cons_succ,List.set_cons_zero] at rS9;have rR9:=rRw9.other (p:=⟨W6.heap.size,1,none⟩) (by simp;omega) (.slice AV (se.length+1) cV);have hO1:=hO1w.keep (w':=W9.setCell ⟨W6.heap.size,1,none⟩ (.slice AV (se.length+1) cV)) fun b hb _=>Below.heap_setCell _ _ _ _ (fun e=>hO1w.apart rSw (by decide) (by have e2:b=W6.heap.size:=e;rw [<- e2];exact hb))
       have hO3:=hO3w.keep (w':=W9.setCell ⟨W6.heap.size,1,none⟩ (.slice AV (se.length+1) cV)) fun b hb _=>Below.heap_setCell _ _ _ _ (fun e=>hO3w.apart rSw (by decide) (by have e2:b=W6.heap.size:=e;rw [<- e2];exact hb))
       have HE9:=zH (HE9a.keep (w':=W9.setCell ⟨W6.heap.size,1,none⟩ (.slice AV (se.length+1) cV)) (by decide) fun b hb _=>Below.heap_setCell _ _ _ _ (fun e=>hb.2 e));have hx9:=hx0w.set (p:=⟨W6.heap.size,1,none⟩) (by simp;omega) (.slice AV (se.length+1) cV);have hz9:(W9.setCell ⟨W6.heap.size,1,none⟩ (.slice AV (se.length+1) cV)).heap.size=W9.heap.size:=World.size_setCell _ _ _;have hz9b:=hgr.size;have HS:=zH (zlf p (z+1) (zax hO1) (Nat.le_trans SM.out.all (by decide)));clear rSv rRv hx0v hO1w hO3w hx0w HE9a hown9 hgr hfin hown HI rSw rRw9 hx8 HO6 HO8;rename_i K hK;refine hK _ _ ?_;clear hK K;go_wp;refine HK6.out _ _ ?_;clear HK6 K6;generalize W9.setCell ⟨W6.heap.size,1,none⟩ (.slice AV (se.length+1) cV)=W9s at *;have s90:=rS9.cell (j:=0) rfl;have hwa2:=HWA.out;refine wp_seq_k ?_;intro K7 hK7;have HK7:=zH hK7;clear hK7;go_wp;clear s90 hwa2;refine HS.out.mono ?_;rintro r W10 ⟨u,rfl,ho,hx10⟩;obtain⟨U1,un,rfl,-,-⟩:=ho.form;have hz10:=hx10.size;have rS10:=rS9.ext hx10;have rR10:=rR9.ext hx10;obtain⟨y0,y1,y2⟩:=rS10.p3;have yf:=rS10.frozen 0;have rS11:=rS10.set (j:=0) (by simp) (.slice U1 (setM sa p (z+1)).length un);simp only [List.set_cons_zero] at rS11;obtain⟨z0,z1,z2⟩:=rS11.p3;obtain⟨rr0,rr1,rr2⟩:=rR10.p3;obtain⟨ff0,ff1,ff2⟩:=rR10.q3;have rR11:=rR10.other (p:=⟨W6.heap.size,0,none⟩) (by simp;omega) (.slice U1 (setM sa p (z+1)).length un);obtain⟨r0,r1,r2⟩:=rR11.p3;obtain⟨f0,f1,f2⟩:=rR11.q3;have HX:=zH ((hx9.trans hx10).set (p:=⟨W6.heap.size,0,none⟩) (by simp;omega) (.slice U1 (setM sa p (z+1)).length un));have HO:=zH ho;have HE10:=zH (HE9.out.ext (by decide) hx10);have HP10:=zH (hO3.ext hx10);have hP3:∀ b,zae (.slice B3 sp.length m3) b->b ≠ W6.heap.size:=fun b hb e=>(hO3.ext hx10).apart rS10 (by decide) (by rw [<- e];exact hb)
       clear ho rS9 rR9 rS10 rR10 rS11 rR11 hx9 hx10 HS HE9 hO1 hO3;rename_i K hK;refine hK _ _ ?_;clear hK K;go_wp;refine HK7.out _ _ ?_;clear HK7 K7;go_wp2_with fail
       (try simp only [Exit.inBlock,Exit.then])
       refine bodyPost_ret (v:=.tuple #[stV (.slice U1 (setM sa p (z+1)).length un) (.slice AV (se.length+1) cV) (.slice B3 sp.length m3),I 0]) (by simp [results,Tryz.f11,go_sem,r0,r1,r2,rr0,rr1,rr2]) rfl ?_;have hq:=zcv (q:=w.heap.size+1+1) HX.out (by omega) (.slice U1 (setM sa p (z+1)).length un) (.slice AV (se.length+1) cV) (.slice B3 sp.length m3);refine ⟨(.slice U1 (setM sa p (z+1)).length un),(.slice AV (se.length+1) cV),.slice B3 sp.length m3,by (rw [HR.out];try rfl),?_⟩;rw [HR.out];refine ⟨?_,hq⟩;have hkp:∀ b,b ≠ W6.heap.size->b ≠ w.heap.size+1+1->(put3 (W10.setCell ⟨W6.heap.size,0,none⟩ (.slice U1 (setM sa p (z+1)).length un)) (w.heap.size+1+1) (.slice U1 (setM sa p (z+1)).length un) (.slice AV (se.length+1) cV) (.slice B3 sp.length m3)).heap[b]? = W10.heap[b]?:=fun b h1 h2=>(ze1 _ _ _ _ _ b h2).trans (Below.heap_setCell _ _ _ _ h1)
       refine ⟨?_,?_,?_⟩
       ·exact (zax (HO.out.keep fun b hb _=>hkp b (by have:=(HO.out.base_le hb).1;omega) (by have:=(HO.out.base_le hb).1;omega))).mono (by decide) fun b _ h=>by omega
       ·exact (HE10.out.keep (by decide) fun b hb _=>hkp b (by omega) (by omega)).mono (by decide) fun b _ hb=>by omega
       ·exact ((OwnL.flat_iff (S:=fun b=>W5.heap.size<=b)).2 (HP10.out.keep fun b hb _=>hkp b (hP3 b hb) (by have:=(HP10.out.base_le hb).1;omega))).sl (by decide) (fun b _ h=>by omega) (fun b h _=>by omega)
      ·have HR:=zH (show updS ⟨sa,se,sp⟩ p (dO,k,n,tx)=(zba,err) by rw [HRS4.out];exact if_neg herr);have hne9:((err:Int) == 0)=false:=neI (by omega);obtain⟨r0,r1,r2⟩:=rR5.p3;obtain⟨f0,f1,f2⟩:=rR5.q3;have HX:=zH hx5;clear hx5 rB5 rR5 rO5 rG5 HA5 H5 HRS4;go_wp2_with fail
       (try simp only [Exit.inBlock,Exit.then])
       refine bodyPost_ret (v:=.tuple #[stV (.slice none 0 0) (.slice none 0 0) (.slice none 0 0),I err]) (by simp [results,Tryz.f11,go_sem,r0,r1,r2]) rfl ?_;have hq:=zcv (q:=w.heap.size+1+1) HX.out (by omega) (.slice none 0 0) (.slice none 0 0) (.slice none 0 0);refine ⟨.slice none 0 0,.slice none 0 0,.slice none 0 0,by (rw [HR.out];try rfl),?_⟩;rw [HR.out];exact⟨StAt.none _ _ _ _ _,hq⟩
end
section
abbrev opA:OpD:=(1,[35,110],5,[])
abbrev opB:OpD:=(1,[35,110],2,[])
abbrev op0:OpD:=(0,[],0,[])
def entA:Entry:=⟨[35,110],[([49],1)],[([49],5,0)],[],0,[],false⟩
def entB:Entry:=⟨[35,110],[([49,46,49],1)],[([49,46,49],2,0)],[],0,[],false⟩
def entJ:Entry:=⟨[35,110],[([49],1),([49,46,49],1)],[([49],5,0),([49,46,49],2,0)],[],0,[],false⟩
def stA:State:=⟨[([49],1)],[entA],[]⟩
def stB:State:=⟨[([49,46,49],1)],[entB],[]⟩
def stJ:State:=⟨[([49],1),([49,46,49],1)],[entJ],[]⟩
def stR:State:=⟨[([49],4)],[entA],[]⟩
def stE:State:=⟨[([49],1),([49,46,49],1)],[],[]⟩
theorem zzn:updS zba [49] opA=(stA,0):=by kernel_rfl
theorem zzo:updS zba [49,46,49] opB=(stB,0):=by kernel_rfl
theorem zzp:zef stA [49] 3=(stR,0):=by kernel_rfl
theorem zzq:updS stA [] op0=(zba,2):=by kernel_rfl
theorem zzr:zfh stJ stA.all=stJ:=by kernel_rfl
theorem zyu:zat stA.all []=stA.all:=by kernel_rfl
theorem zzs:zfh stJ stJ.all=stE:=by kernel_rfl
theorem zzt:zau stJ.entries [35,110]=some entJ:=by kernel_rfl
theorem zzu:atE stJ.entries [35,110]=entJ:=by kernel_rfl
theorem zzv:za1 entJ.key=1:=by kernel_rfl
theorem zzw:zdl entJ.counts=7:=by kernel_rfl
theorem zzx:ofM stR.all [49]=4:=by kernel_rfl
theorem zwx:mayS stJ=true:=by kernel_rfl
theorem zyv (a:Str):zb2 [a] [a] = [a]:=by rw [zq0];simp [zb2]
theorem zua:zbo [[49],[49,46,49]] = [[49],[49,46,49]]:=List.mergeSort_of_pairwise (by decide)
theorem zpc {a b:List zad} (h:(zbn (a++b)).map Prod.fst = [[49],[49,46,49]]):zbl a b=zbt (zbn (a++b)) (zbp (a++b)) [[49],[49,46,49]]:=by
 unfold zbl zec;rw [h,zua]
theorem znq {a b:Entry} (h1:za8 a zai=false) (h2:a.key=b.key):zav a b=⟨a.key,zat a.seen b.seen,zbl a.counts b.counts,zb9 a.items a.seen b.items b.seen,zdd a.cell b.cell⟩:=by
 unfold zav;rw [h1,if_neg (by simp),if_pos h2]
theorem znr {a b:Entry} {k:Str} (h1:a.key=k) (h2:b.key=k):zgc [a] [b] = [zav a b]:=by
 unfold zgc;rw [show zbv [a] [b] = [k] by unfold zbv;simp only [List.map_cons,List.map_nil,h1,h2];exact zyv _];simp [getE,zau,h1,h2]
theorem zpd:Lib.compact (zbo ([]++[])) = []:=by kernel_rfl
theorem zyw:zav entA entB=entJ:=by
 rw [znq (a:=entA) (b:=entB) (by kernel_rfl) rfl,zpc (by kernel_rfl)]
 kernel_rfl
theorem zwy:zav entA entJ=entJ:=by
 rw [znq (a:=entA) (b:=entJ) (by kernel_rfl) rfl,zpc (by kernel_rfl)]
 kernel_rfl
theorem zzy:zet stA stB=stJ:=by
 unfold zet;rw [show zgc stA.entries stB.entries = [entJ] from (znr (k:=[35,110]) rfl rfl).trans (by rw [zyw]),show Lib.compact (zbo (stA.pruned++stB.pruned)) = [] from zpd]
 kernel_rfl
theorem zyx:zet stA stJ=stJ:=by
 unfold zet;rw [show zgc stA.entries stJ.entries = [entJ] from (znr (k:=[35,110]) rfl rfl).trans (by rw [zwy]),show Lib.compact (zbo (stA.pruned++stJ.pruned)) = [] from zpd]
 kernel_rfl
theorem zzz:zc2 stA stA.all stJ=(stJ,0):=by
 unfold zc2;rw [zyx,if_pos (by kernel_rfl)]
theorem zyy:zc2 zba stA.all stJ=(zba,160):=by
 unfold zc2;rw [if_neg (by rw [Bool.not_eq_true];kernel_rfl)]
theorem zi2:SmallS zba:=⟨by decide,by decide,by decide,fun e h=>by cases h⟩
theorem zub:SmallE entA:=⟨by decide,by decide,by decide,(fun it h=>by cases h),by decide⟩
theorem zuc:SmallE entJ:=⟨by decide,by decide,by decide,(fun it h=>by cases h),by decide⟩
theorem zud:SmallE entB:=⟨by decide,by decide,by decide,(fun it h=>by cases h),by decide⟩
theorem zis:SmallS stA:=⟨by decide,by decide,by decide,fun e h=>by rw [List.mem_singleton.1 h];exact zub⟩
theorem zwz:SmallS stB:=⟨by decide,by decide,by decide,fun e h=>by rw [List.mem_singleton.1 h];exact zud⟩
theorem small_stJ:SmallS stJ:=⟨by decide,by decide,by decide,fun e h=>by rw [List.mem_singleton.1 h];exact zuc⟩
end
section
open Go.RowKit Go.Shelf
theorem ze2 (w:World):Calls Tryz.prog 12 #[] w fun r w'=>r=.returned (.bool true)/\Ext w w':=by
 have C1:=zH (zmy (w:=w) [49] opA (by decide) (by decide) (StAt.none w (fun _=>True) none none none) zi2);have hxw:=Ext.refl w;go_enter Tryz.func12,Tryz.ntmps12;go_wp2_with fail;refine C1.out.mono ?_;clear C1;rintro r V ⟨u1,u2,u3,rfl,hS,hxV⟩;rw [zzn] at hS ⊢;obtain⟨A1,na1,rfl,-,-⟩:∃ A c,u1=Value.slice A 1 c/\1<=c/\c<=9223372036854775807:=hS.all.form;obtain⟨A2,na2,rfl,-,-⟩:∃ A c,u2=Value.slice A 1 c/\1<=c/\c<=9223372036854775807:=hS.entries.form;obtain⟨A3,na3,rfl,-,-⟩:∃ A c,u3=Value.slice A 0 c/\0<=c/\c<=9223372036854775807:=hS.pruned.form;have hxa:=(Ext.refl V).alloc (.cells #[.slice A1 1 na1,.slice A2 1 na2,.slice A3 0 na3] 30);have rr1:=zah V 30 [.slice A1 1 na1,.slice A2 1 na2,.slice A3 0 na3];have hsz1:V.heap.size < (V.alloc (.cells #[.slice A1 1 na1,.slice A2 1 na2,.slice A3 0 na3] 30)).heap.size:=by simp
 have hxw':=(hxw.trans hxV).trans hxa;have sA:=hS.ext hxa;clear hxw hxa hxV hsz1;have hxw:=hxw';clear hxw';obtain⟨W1,hW1⟩:∃ W,V.alloc (.cells #[.slice A1 1 na1,.slice A2 1 na2,.slice A3 0 na3] 30)=W:=⟨_,rfl⟩
 rw [hW1] at rr1 hxw sA;obtain⟨g1,hg1⟩:∃ g,V.heap.size=g:=⟨_,rfl⟩
 rw [hg1] at rr1;replace sA:=sA.mono (S':=fun _=>True) (fun _ _ _=>trivial);have C2:=zH (zmy (w:=W1) [49,46,49] opB (by decide) (by decide) (StAt.none W1 (fun _=>True) none none none) zi2);go_wp2_with fail
 (try rw [hg1])
 (try rw [hW1])
 clear hW1 hg1 V hS;refine C2.out.mono ?_;clear C2;rintro r V ⟨u1,u2,u3,rfl,hS,hxV⟩;rw [zzo] at hS ⊢;obtain⟨B1,nb1,rfl,-,-⟩:∃ A c,u1=Value.slice A 1 c/\1<=c/\c<=9223372036854775807:=hS.all.form;obtain⟨B2,nb2,rfl,-,-⟩:∃ A c,u2=Value.slice A 1 c/\1<=c/\c<=9223372036854775807:=hS.entries.form;obtain⟨B3,nb3,rfl,-,-⟩:∃ A c,u3=Value.slice A 0 c/\0<=c/\c<=9223372036854775807:=hS.pruned.form;have hxa:=(Ext.refl V).alloc (.cells #[.slice B1 1 nb1,.slice B2 1 nb2,.slice B3 0 nb3] 30);have rr2:=zah V 30 [.slice B1 1 nb1,.slice B2 1 nb2,.slice B3 0 nb3];have hsz2:V.heap.size < (V.alloc (.cells #[.slice B1 1 nb1,.slice B2 1 nb2,.slice B3 0 nb3] 30)).heap.size:=by simp
 have sA':=(sA.ext hxV).ext hxa;have rr1':=(rr1.ext hxV).ext hxa;have hxw':=(hxw.trans hxV).trans hxa;have sB:=hS.ext hxa;clear hxw hxa hxV hsz2 sA rr1;have sA:=sA';have rr1:=rr1';have hxw:=hxw';clear hxw' sA' rr1';obtain⟨W2,hW2⟩:∃ W,V.alloc (.cells #[.slice B1 1 nb1,.slice B2 1 nb2,.slice B3 0 nb3] 30)=W:=⟨_,rfl⟩
 rw [hW2] at rr2 hxw sA rr1 sB;obtain⟨g2,hg2⟩:∃ g,V.heap.size=g:=⟨_,rfl⟩
 rw [hg2] at rr2;replace sB:=sB.mono (S':=fun _=>True) (fun _ _ _=>trivial);have C3:=zH (zkx sA sB zis zwz);obtain⟨ka0,ka1,ka2⟩:=rr1.p3;obtain⟨kb0,kb1,kb2⟩:=rr2.p3;go_wp2_with fail
 (try rw [hg2])
 (try rw [hW2])
 clear hW2 hg2 V hS ka0 ka1 ka2 kb0 kb1 kb2;refine C3.out.mono ?_;clear C3;rintro r V ⟨u1,u2,u3,rfl,hS,hxV⟩;rw [zzy] at hS;obtain⟨J1,nj1,rfl,-,-⟩:∃ A c,u1=Value.slice A 2 c/\2<=c/\c<=9223372036854775807:=hS.all.form;obtain⟨J2,nj2,rfl,-,-⟩:∃ A c,u2=Value.slice A 1 c/\1<=c/\c<=9223372036854775807:=hS.entries.form;obtain⟨J3,nj3,rfl,-,-⟩:∃ A c,u3=Value.slice A 0 c/\0<=c/\c<=9223372036854775807:=hS.pruned.form;have hxa:=(Ext.refl V).alloc (.cells #[.slice J1 2 nj1,.slice J2 1 nj2,.slice J3 0 nj3] 30);have rr3:=zah V 30 [.slice J1 2 nj1,.slice J2 1 nj2,.slice J3 0 nj3];have hsz3:V.heap.size < (V.alloc (.cells #[.slice J1 2 nj1,.slice J2 1 nj2,.slice J3 0 nj3] 30)).heap.size:=by simp
 have sA':=(sA.ext hxV).ext hxa;have rr1':=(rr1.ext hxV).ext hxa;have sB':=(sB.ext hxV).ext hxa;have rr2':=(rr2.ext hxV).ext hxa;have hxw':=(hxw.trans hxV).trans hxa;have sJ:=hS.at.ext hxa;clear hxw hxa hxV hsz3 sA rr1 sB rr2;have sA:=sA';have rr1:=rr1';have sB:=sB';have rr2:=rr2';have hxw:=hxw';clear hxw' sA' rr1' sB' rr2';obtain⟨W3,hW3⟩:∃ W,V.alloc (.cells #[.slice J1 2 nj1,.slice J2 1 nj2,.slice J3 0 nj3] 30)=W:=⟨_,rfl⟩
 rw [hW3] at rr3 hxw sA rr1 sB rr2 sJ;obtain⟨g3,hg3⟩:∃ g,V.heap.size=g:=⟨_,rfl⟩
 rw [hg3] at rr3;replace sJ:=sJ.mono (S':=fun _=>True) (fun _ _ _=>trivial);have C4:=zH (zjw sJ sA.all small_stJ (by decide));obtain⟨kj0,kj1,kj2⟩:=rr3.p3;have ka0:=rr1.cell (j:=0) rfl;go_wp2_with fail
 (try rw [hg3])
 (try rw [hW3])
 clear hW3 hg3 V hS kj0 kj1 kj2 ka0;refine C4.out.mono ?_;clear C4;rintro r V ⟨u0,u1,u2,u3,rfl,hb,hS,hxV⟩;rw [zzr] at hS;rw [zyu] at hb;obtain⟨D0,nd0,rfl,-,-⟩:∃ A c,u0=Value.slice A 1 c/\1<=c/\c<=9223372036854775807:=hb.form;obtain⟨D1,nd1,rfl,-,-⟩:∃ A c,u1=Value.slice A 2 c/\2<=c/\c<=9223372036854775807:=hS.all.form;obtain⟨D2,nd2,rfl,-,-⟩:∃ A c,u2=Value.slice A 1 c/\1<=c/\c<=9223372036854775807:=hS.entries.form;obtain⟨D3,nd3,rfl,-,-⟩:∃ A c,u3=Value.slice A 0 c/\0<=c/\c<=9223372036854775807:=hS.pruned.form;have hxa:=(Ext.refl V).alloc (.cells #[.slice D0 1 nd0,.slice D1 2 nd1,.slice D2 1 nd2,.slice D3 0 nd3] 64);have rr4:=zah V 64 [.slice D0 1 nd0,.slice D1 2 nd1,.slice D2 1 nd2,.slice D3 0 nd3];have hsz4:V.heap.size < (V.alloc (.cells #[.slice D0 1 nd0,.slice D1 2 nd1,.slice D2 1 nd2,.slice D3 0 nd3] 64)).heap.size:=by simp
 have sA':=(sA.ext hxV).ext hxa;have rr1':=(rr1.ext hxV).ext hxa;have sB':=(sB.ext hxV).ext hxa;have rr2':=(rr2.ext hxV).ext hxa;have sJ':=(sJ.ext hxV).ext hxa;have rr3':=(rr3.ext hxV).ext hxa;have hxw':=(hxw.trans hxV).trans hxa;have sD:=hS.at.ext hxa;have sD0:=hb.ext hxa;clear hxw hxa hxV hsz4 sA rr1 sB rr2 sJ rr3;have sA:=sA';have rr1:=rr1';have sB:=sB';have rr2:=rr2';have sJ:=sJ';have rr3:=rr3';have hxw:=hxw';clear hxw' sA' rr1' sB' rr2' sJ' rr3';obtain⟨W4,hW4⟩:∃ W,V.alloc (.cells #[.slice D0 1 nd0,.slice D1 2 nd1,.slice D2 1 nd2,.slice D3 0 nd3] 64)=W:=⟨_,rfl⟩
 rw [hW4] at rr4 hxw sA rr1 sB rr2 sJ rr3 sD sD0;obtain⟨g4,hg4⟩:∃ g,V.heap.size=g:=⟨_,rfl⟩
 rw [hg4] at rr4;replace sD:=sD.mono (S':=fun _=>True) (fun _ _ _=>trivial);replace sD0:=(zax (l:=stA.all) sD0).mono (S':=fun _=>True) (by decide) (fun _ _ _=>trivial);have C5:=zH (zjx sA sD sD0 zis small_stJ (by decide));obtain⟨ka0,ka1,ka2⟩:=rr1.p3;obtain⟨kd0,kd1,kd2,kd3⟩:=rr4.p4;go_wp2_with fail
 (try rw [hg4])
 (try rw [hW4])
 clear hW4 hg4 V hS hb ka0 ka1 ka2 kd0 kd1 kd2 kd3;refine C5.out.mono ?_;clear C5;rintro r V ⟨u1,u2,u3,rfl,hS,hxV⟩;rw [zzz] at hS ⊢;obtain⟨K1,nk1,rfl,-,-⟩:∃ A c,u1=Value.slice A 2 c/\2<=c/\c<=9223372036854775807:=hS.all.form;obtain⟨K2,nk2,rfl,-,-⟩:∃ A c,u2=Value.slice A 1 c/\1<=c/\c<=9223372036854775807:=hS.entries.form;obtain⟨K3,nk3,rfl,-,-⟩:∃ A c,u3=Value.slice A 0 c/\0<=c/\c<=9223372036854775807:=hS.pruned.form;have hxa:=(Ext.refl V).alloc (.cells #[.slice K1 2 nk1,.slice K2 1 nk2,.slice K3 0 nk3] 30);have rr5:=zah V 30 [.slice K1 2 nk1,.slice K2 1 nk2,.slice K3 0 nk3];have hsz5:V.heap.size < (V.alloc (.cells #[.slice K1 2 nk1,.slice K2 1 nk2,.slice K3 0 nk3] 30)).heap.size:=by simp
 have sA':=(sA.ext hxV).ext hxa;have rr1':=(rr1.ext hxV).ext hxa;have sB':=(sB.ext hxV).ext hxa;have rr2':=(rr2.ext hxV).ext hxa;have sJ':=(sJ.ext hxV).ext hxa;have rr3':=(rr3.ext hxV).ext hxa;have sD':=(sD.ext hxV).ext hxa;have sD0':=(sD0.ext (by decide) hxV).ext (by decide) hxa;have rr4':=(rr4.ext hxV).ext hxa;have hxw':=(hxw.trans hxV).trans hxa;have sK:=hS.ext hxa;clear hxw hxa hxV hsz5 sA rr1 sB rr2 sJ rr3 sD sD0 rr4;have sA:=sA';have rr1:=rr1';have sB:=sB';have rr2:=rr2';have sJ:=sJ';have rr3:=rr3';have sD:=sD';have sD0:=sD0';have rr4:=rr4';have hxw:=hxw';clear hxw' sA' rr1' sB' rr2' sJ' rr3' sD' sD0' rr4';obtain⟨W5,hW5⟩:∃ W,V.alloc (.cells #[.slice K1 2 nk1,.slice K2 1 nk2,.slice K3 0 nk3] 30)=W:=⟨_,rfl⟩
 rw [hW5] at rr5 hxw sA rr1 sB rr2 sJ rr3 sD sD0 rr4 sK;obtain⟨g5,hg5⟩:∃ g,V.heap.size=g:=⟨_,rfl⟩
 rw [hg5] at rr5;replace sK:=sK.mono (S':=fun _=>True) (fun _ _ _=>trivial);have C6:=zH (zjx (w:=W5) (StAt.none W5 (fun _=>True) none none none) sD sD0 zi2 small_stJ (by decide));obtain⟨kd0,kd1,kd2,kd3⟩:=rr4.p4;go_wp2_with fail
 (try rw [hg5])
 (try rw [hW5])
 clear hW5 hg5 V hS kd0 kd1 kd2 kd3;refine C6.out.mono ?_;clear C6;rintro r V ⟨u1,u2,u3,rfl,hS,hxV⟩;rw [zyy] at hS ⊢;obtain⟨H1,nh1,rfl,-,-⟩:∃ A c,u1=Value.slice A 0 c/\0<=c/\c<=9223372036854775807:=hS.all.form;obtain⟨H2,nh2,rfl,-,-⟩:∃ A c,u2=Value.slice A 0 c/\0<=c/\c<=9223372036854775807:=hS.entries.form;obtain⟨H3,nh3,rfl,-,-⟩:∃ A c,u3=Value.slice A 0 c/\0<=c/\c<=9223372036854775807:=hS.pruned.form;have hxa:=(Ext.refl V).alloc (.cells #[.slice H1 0 nh1,.slice H2 0 nh2,.slice H3 0 nh3] 30);have rr6:=zah V 30 [.slice H1 0 nh1,.slice H2 0 nh2,.slice H3 0 nh3];have hsz6:V.heap.size < (V.alloc (.cells #[.slice H1 0 nh1,.slice H2 0 nh2,.slice H3 0 nh3] 30)).heap.size:=by simp
 have sA':=(sA.ext hxV).ext hxa;have rr1':=(rr1.ext hxV).ext hxa;have sB':=(sB.ext hxV).ext hxa;have rr2':=(rr2.ext hxV).ext hxa;have sJ':=(sJ.ext hxV).ext hxa;have rr3':=(rr3.ext hxV).ext hxa;have sD':=(sD.ext hxV).ext hxa;have sD0':=(sD0.ext (by decide) hxV).ext (by decide) hxa;have rr4':=(rr4.ext hxV).ext hxa;have sK':=(sK.ext hxV).ext hxa;have rr5':=(rr5.ext hxV).ext hxa;have hxw':=(hxw.trans hxV).trans hxa;clear hxw hxa hxV hsz6 sA rr1 sB rr2 sJ rr3 sD sD0 rr4 sK rr5;have sA:=sA';have rr1:=rr1';have sB:=sB';have rr2:=rr2';have sJ:=sJ';have rr3:=rr3';have sD:=sD';have sD0:=sD0';have rr4:=rr4';have sK:=sK';have rr5:=rr5';have hxw:=hxw';clear hxw' sA' rr1' sB' rr2' sJ' rr3' sD' sD0' rr4' sK' rr5';obtain⟨W6,hW6⟩:∃ W,V.alloc (.cells #[.slice H1 0 nh1,.slice H2 0 nh2,.slice H3 0 nh3] 30)=W:=⟨_,rfl⟩
 rw [hW6] at rr6 hxw sA rr1 sB rr2 sJ rr3 sD sD0 rr4 sK rr5;obtain⟨g6,hg6⟩:∃ g,V.heap.size=g:=⟨_,rfl⟩
 rw [hg6] at rr6;have C7:=zH (zqy (w:=W6) [49] 3 (by decide) sA zis);obtain⟨ka0,ka1,ka2⟩:=rr1.p3;go_wp2_with fail
 (try rw [hg6])
 (try rw [hW6])
 clear hW6 hg6 V hS ka0 ka1 ka2;refine C7.out.mono ?_;clear C7;rintro r V ⟨u1,u2,u3,rfl,hS,hxV⟩;rw [zzp] at hS ⊢;obtain⟨R1,nr1,rfl,-,-⟩:∃ A c,u1=Value.slice A 1 c/\1<=c/\c<=9223372036854775807:=hS.all.form;obtain⟨R2,nr2,rfl,-,-⟩:∃ A c,u2=Value.slice A 1 c/\1<=c/\c<=9223372036854775807:=hS.entries.form;obtain⟨R3,nr3,rfl,-,-⟩:∃ A c,u3=Value.slice A 0 c/\0<=c/\c<=9223372036854775807:=hS.pruned.form;have hxa:=(Ext.refl V).alloc (.cells #[.slice R1 1 nr1,.slice R2 1 nr2,.slice R3 0 nr3] 30);have rr7:=zah V 30 [.slice R1 1 nr1,.slice R2 1 nr2,.slice R3 0 nr3];have hsz7:V.heap.size < (V.alloc (.cells #[.slice R1 1 nr1,.slice R2 1 nr2,.slice R3 0 nr3] 30)).heap.size:=by simp
 have sA':=(sA.ext hxV).ext hxa;have rr1':=(rr1.ext hxV).ext hxa;have sB':=(sB.ext hxV).ext hxa;have rr2':=(rr2.ext hxV).ext hxa;have sJ':=(sJ.ext hxV).ext hxa;have rr3':=(rr3.ext hxV).ext hxa;have sD':=(sD.ext hxV).ext hxa;have sD0':=(sD0.ext (by decide) hxV).ext (by decide) hxa;have rr4':=(rr4.ext hxV).ext hxa;have sK':=(sK.ext hxV).ext hxa;have rr5':=(rr5.ext hxV).ext hxa;have rr6':=(rr6.ext hxV).ext hxa;have hxw':=(hxw.trans hxV).trans hxa;have sR:=hS.ext hxa;clear hxw hxa hxV hsz7 sA rr1 sB rr2 sJ rr3 sD sD0 rr4 sK rr5 rr6;have sA:=sA';have rr1:=rr1';have sB:=sB';have rr2:=rr2';have sJ:=sJ';have rr3:=rr3';have sD:=sD';have sD0:=sD0';have rr4:=rr4';have sK:=sK';have rr5:=rr5';have rr6:=rr6';have hxw:=hxw';clear hxw' sA' rr1' sB' rr2' sJ' rr3' sD' sD0' rr4' sK' rr5' rr6';obtain⟨W7,hW7⟩:∃ W,V.alloc (.cells #[.slice R1 1 nr1,.slice R2 1 nr2,.slice R3 0 nr3] 30)=W:=⟨_,rfl⟩
 rw [hW7] at rr7 hxw sA rr1 sB rr2 sJ rr3 sD sD0 rr4 sK rr5 rr6 sR;obtain⟨g7,hg7⟩:∃ g,V.heap.size=g:=⟨_,rfl⟩
 rw [hg7] at rr7;replace sR:=sR.mono (S':=fun _=>True) (fun _ _ _=>trivial);have C8:=zH (zmy (w:=W7) [] op0 (by decide) (by decide) sA zis);obtain⟨ka0,ka1,ka2⟩:=rr1.p3;go_wp2_with fail
 (try rw [hg7])
 (try rw [hW7])
 clear hW7 hg7 V hS ka0 ka1 ka2;refine C8.out.mono ?_;clear C8;rintro r V ⟨u1,u2,u3,rfl,hS,hxV⟩;rw [zzq] at hS ⊢;obtain⟨M1,nm1,rfl,-,-⟩:∃ A c,u1=Value.slice A 0 c/\0<=c/\c<=9223372036854775807:=hS.all.form;obtain⟨M2,nm2,rfl,-,-⟩:∃ A c,u2=Value.slice A 0 c/\0<=c/\c<=9223372036854775807:=hS.entries.form;obtain⟨M3,nm3,rfl,-,-⟩:∃ A c,u3=Value.slice A 0 c/\0<=c/\c<=9223372036854775807:=hS.pruned.form;have hxa:=(Ext.refl V).alloc (.cells #[.slice M1 0 nm1,.slice M2 0 nm2,.slice M3 0 nm3] 30);have rr8:=zah V 30 [.slice M1 0 nm1,.slice M2 0 nm2,.slice M3 0 nm3];have hsz8:V.heap.size < (V.alloc (.cells #[.slice M1 0 nm1,.slice M2 0 nm2,.slice M3 0 nm3] 30)).heap.size:=by simp
 have sA':=(sA.ext hxV).ext hxa;have rr1':=(rr1.ext hxV).ext hxa;have sB':=(sB.ext hxV).ext hxa;have rr2':=(rr2.ext hxV).ext hxa;have sJ':=(sJ.ext hxV).ext hxa;have rr3':=(rr3.ext hxV).ext hxa;have sD':=(sD.ext hxV).ext hxa;have sD0':=(sD0.ext (by decide) hxV).ext (by decide) hxa;have rr4':=(rr4.ext hxV).ext hxa;have sK':=(sK.ext hxV).ext hxa;have rr5':=(rr5.ext hxV).ext hxa;have rr6':=(rr6.ext hxV).ext hxa;have sR':=(sR.ext hxV).ext hxa;have rr7':=(rr7.ext hxV).ext hxa;have hxw':=(hxw.trans hxV).trans hxa;clear hxw hxa hxV hsz8 sA rr1 sB rr2 sJ rr3 sD sD0 rr4 sK rr5 rr6 sR rr7;have sA:=sA';have rr1:=rr1';have sB:=sB';have rr2:=rr2';have sJ:=sJ';have rr3:=rr3';have sD:=sD';have sD0:=sD0';have rr4:=rr4';have sK:=sK';have rr5:=rr5';have rr6:=rr6';have sR:=sR';have rr7:=rr7';have hxw:=hxw';clear hxw' sA' rr1' sB' rr2' sJ' rr3' sD' sD0' rr4' sK' rr5' rr6' sR' rr7';obtain⟨W8,hW8⟩:∃ W,V.alloc (.cells #[.slice M1 0 nm1,.slice M2 0 nm2,.slice M3 0 nm3] 30)=W:=⟨_,rfl⟩
 rw [hW8] at rr8 hxw sA rr1 sB rr2 sJ rr3 sD sD0 rr4 sK rr5 rr6 sR rr7;obtain⟨g8,hg8⟩:∃ g,V.heap.size=g:=⟨_,rfl⟩
 rw [hg8] at rr8;have C9:=zH (zzi (w:=W8) [35,110] sJ small_stJ.each);obtain⟨kj0,kj1,kj2⟩:=rr3.p3;go_wp2_with fail
 (try rw [hg8])
 (try rw [hW8])
 clear hW8 hg8 V hS kj0 kj1 kj2;refine C9.out.mono ?_;clear C9;rintro r V ⟨u1,u2,u3,rfl,hn,hxV⟩;rw [zzt] at hn ⊢;simp only [Option.getD_some,Option.isSome_some] at hn ⊢;obtain⟨X1,nx1,rfl,-,-⟩:∃ A c,u1=Value.slice A 2 c/\2<=c/\c<=9223372036854775807:=hn.seen.form;obtain⟨X2,nx2,rfl,-,-⟩:∃ A c,u2=Value.slice A 2 c/\2<=c/\c<=9223372036854775807:=hn.counts.form;obtain⟨X3,nx3,rfl,-,-⟩:∃ A c,u3=Value.slice A 0 c/\0<=c/\c<=9223372036854775807:=hn.items.form;have hxa:=(Ext.refl V).alloc (.cells #[St entJ.key,.slice X1 2 nx1,.slice X2 2 nx2,.slice X3 0 nx3,U entJ.cell.1,St entJ.cell.2.1,.bool entJ.cell.2.2] 37);have rr9:=zah V 37 [St entJ.key,.slice X1 2 nx1,.slice X2 2 nx2,.slice X3 0 nx3,U entJ.cell.1,St entJ.cell.2.1,.bool entJ.cell.2.2];have hsz9:V.heap.size < (V.alloc (.cells #[St entJ.key,.slice X1 2 nx1,.slice X2 2 nx2,.slice X3 0 nx3,U entJ.cell.1,St entJ.cell.2.1,.bool entJ.cell.2.2] 37)).heap.size:=by simp
 have sA':=(sA.ext hxV).ext hxa;have rr1':=(rr1.ext hxV).ext hxa;have sB':=(sB.ext hxV).ext hxa;have rr2':=(rr2.ext hxV).ext hxa;have sJ':=(sJ.ext hxV).ext hxa;have rr3':=(rr3.ext hxV).ext hxa;have sD':=(sD.ext hxV).ext hxa;have sD0':=(sD0.ext (by decide) hxV).ext (by decide) hxa;have rr4':=(rr4.ext hxV).ext hxa;have sK':=(sK.ext hxV).ext hxa;have rr5':=(rr5.ext hxV).ext hxa;have rr6':=(rr6.ext hxV).ext hxa;have sR':=(sR.ext hxV).ext hxa;have rr7':=(rr7.ext hxV).ext hxa;have rr8':=(rr8.ext hxV).ext hxa;have hxw':=(hxw.trans hxV).trans hxa;clear hxw hxa hxV hsz9 sA rr1 sB rr2 sJ rr3 sD sD0 rr4 sK rr5 rr6 sR rr7 rr8;have sA:=sA';have rr1:=rr1';have sB:=sB';have rr2:=rr2';have sJ:=sJ';have rr3:=rr3';have sD:=sD';have sD0:=sD0';have rr4:=rr4';have sK:=sK';have rr5:=rr5';have rr6:=rr6';have sR:=sR';have rr7:=rr7';have rr8:=rr8';have hxw:=hxw';clear hxw' sA' rr1' sB' rr2' sJ' rr3' sD' sD0' rr4' sK' rr5' rr6' sR' rr7' rr8';obtain⟨W9,hW9⟩:∃ W,V.alloc (.cells #[St entJ.key,.slice X1 2 nx1,.slice X2 2 nx2,.slice X3 0 nx3,U entJ.cell.1,St entJ.cell.2.1,.bool entJ.cell.2.2] 37)=W:=⟨_,rfl⟩
 rw [hW9] at rr9 hxw sA rr1 sB rr2 sJ rr3 sD sD0 rr4 sK rr5 rr6 sR rr7 rr8;obtain⟨g9,hg9⟩:∃ g,V.heap.size=g:=⟨_,rfl⟩
 rw [hg9] at rr9;have C10:=zH (zyc (w:=W9) [35,110] sJ small_stJ.each);obtain⟨kj0,kj1,kj2⟩:=rr3.p3;go_wp2_with fail
 (try rw [hg9])
 (try rw [hW9])
 clear hW9 hg9 V hn kj0 kj1 kj2;refine C10.out.mono ?_;clear C10;rintro r V ⟨v,rfl,hv,hxV⟩;rw [zzu] at hv;unfold ValAt at hv;rw [zzv,if_pos rfl,zzw] at hv;subst hv;have CI:=zH (yae 7 7 none 0 0 [] false V);have sA:=sA.ext hxV;have rr1:=rr1.ext hxV;have sB:=sB.ext hxV;have rr2:=rr2.ext hxV;have sJ:=sJ.ext hxV;have rr3:=rr3.ext hxV;have sD:=sD.ext hxV;have sD0:=sD0.ext (by decide) hxV;have rr4:=rr4.ext hxV;have sK:=sK.ext hxV;have rr5:=rr5.ext hxV;have rr6:=rr6.ext hxV;have sR:=sR.ext hxV;have rr7:=rr7.ext hxV;have rr8:=rr8.ext hxV;have rr9:=rr9.ext hxV;have hxw:=hxw.trans hxV;clear hxV;go_wp2_with fail;refine CI.out.mono ?_;clear CI;rintro r Z ⟨rfl,hxV⟩;have sA:=sA.ext hxV;have rr1:=rr1.ext hxV;have sB:=sB.ext hxV;have rr2:=rr2.ext hxV;have sJ:=sJ.ext hxV;have rr3:=rr3.ext hxV;have sD:=sD.ext hxV;have sD0:=sD0.ext (by decide) hxV;have rr4:=rr4.ext hxV;have sK:=sK.ext hxV;have rr5:=rr5.ext hxV;have rr6:=rr6.ext hxV;have sR:=sR.ext hxV;have rr7:=rr7.ext hxV;have rr8:=rr8.ext hxV;have rr9:=rr9.ext hxV;have hxw:=hxw.trans hxV;clear hxV;go_wp2_with fail;have hend:=trivial;clear hend
 refine zaq [fun v _=>v=I 0,
   fun v _=>v=.bool true,
   fun v _=>v=.bool true,
   fun v _=>v=I 0,
   fun v _=>v=.bool true,
   fun v _=>v=.bool true,
   fun v _=>v=.bool true,
   fun v _=>v=.bool true,
   fun v _=>v=.bool true,
   fun v _=>v=.bool true,
   fun v _=>v=.pointer (some ⟨g4,1,none⟩),
   fun v _=>v=.pointer (some ⟨g4,2,none⟩),
   fun v _=>v=.slice D2 1 nd2,
   fun v _=>v=I 1,
   fun v _=>v=.bool true,
   fun v _=>v=.bool true,
   fun v _=>v=.bool true,
   fun v _=>v=.agg #[.slice J1 2 nj1,.slice J2 1 nj2,.slice J3 0 nj3],
   fun v _=>v=.pointer (some ⟨g3,0,none⟩),
   fun v _=>v=.slice J1 2 nj1,
   fun v _=>∃ A0 n0 A1 n1 A2 n2 A3 n3,v=dltV (.slice A0 2 n0) (.slice A1 2 n1) (.slice A2 0 n2) (.slice A3 0 n3),
   fun v _=>∃ A1 n1 A2 n2 A3 n3,v=stV (.slice A1 2 n1) (.slice A2 0 n2) (.slice A3 0 n3),
   fun v _=>∃ A2 n2,v=.slice A2 0 n2,
   fun v _=>v=I 0,
   fun v _=>v=.bool true,
   fun v _=>v=.bool true,
   fun v _=>v=.bool true,
   fun v _=>v=.agg #[.slice K1 2 nk1,.slice K2 1 nk2,.slice K3 0 nk3],
   fun v _=>v=.agg #[.slice J1 2 nj1,.slice J2 1 nj2,.slice J3 0 nj3],
   fun v _=>v=.bool true,
   fun v _=>v=.bool true,
   fun v _=>v=.bool true,
   fun v _=>v=I 0,
   fun v _=>v=.bool true,
   fun v _=>v=.bool true,
   fun v _=>v=.bool true,
   fun v _=>v=I 160,
   fun v _=>v=.bool true,
   fun v _=>v=.bool true,
   fun v _=>v=.bool true,
   fun v _=>v=.pointer (some ⟨g7,0,none⟩),
   fun v _=>v=.slice R1 1 nr1,
   fun v _=>v=U 4,
   fun v _=>v=.bool true,
   fun v _=>v=.bool true,
   fun v _=>v=.bool true,
   fun v _=>v=I 0,
   fun v _=>v=.bool true,
   fun v _=>v=.bool true,
   fun v _=>v=.bool true,
   fun v _=>v=I 2,
   fun v _=>v=.bool true,
   fun v _=>v=.bool true,
   fun v _=>v=.bool true,
   fun v _=>v=.pointer (some ⟨g9,0,none⟩),
   fun v _=>v=St [35,110],
   fun v _=>v=.bool true,
   fun v _=>v=.bool true,
   fun v _=>v=.bool true,
   fun v _=>v=.bool true,
   fun v _=>v=.bool true,
   fun v _=>v=.bool true,
   fun v _=>v=.agg #[.slice J1 2 nj1,.slice J2 1 nj2,.slice J3 0 nj3],
   fun v _=>v=.bool true,
   fun v _=>v=.bool true,
   fun v _=>v=.bool true,
   fun v _=>v=.agg #[.slice J1 2 nj1,.slice J2 1 nj2,.slice J3 0 nj3],
   fun v W=>∃ A1 n1 A2 n2 A3 n3,v=stV (.slice A1 2 n1) (.slice A2 1 n2) (.slice A3 0 n3)/\StAt W (fun _=>True) stJ (.slice A1 2 n1) (.slice A2 1 n2) (.slice A3 0 n3),
   fun v _=>v=.agg #[.slice J1 2 nj1,.slice J2 1 nj2,.slice J3 0 nj3],
   fun v _=>v=.bool true,
   fun v _=>v=.bool true] rfl (by kernel_rfl) ?hR ?hstep ?hend
 case hR=>simp only [List.mem_cons,List.not_mem_nil,or_false,forall_eq_or_imp,forall_eq];exact⟨kP,kP,kP,kP,kP,kP,kP,kP,kP,kP,kP,kP,kP,kP,kP,kP,kP,kP,kP,kP,kP,kP,kP,kP,kP,kP,kP,kP,kP,kP,kP,kP,kP,kP,kP,kP,kP,kP,kP,kP,kP,kP,kP,kP,kP,kP,kP,kP,kP,kP,kP,kP,kP,kP,kP,kP,kP,kP,kP,kP,kP,kP,kP,kP,kP,kP,kP,fun v _ _ h he=>by obtain⟨A1,n1,A2,n2,A3,n3,e,a⟩:=h;exact⟨A1,n1,A2,n2,A3,n3,e,a.ext he⟩,kP,kP,kP⟩
 case hstep =>
  simp only [List.append_eq,List.cons_append,List.nil_append,List.length_cons,List.length_nil,Nat.reduceAdd,List.take_succ_cons,List.take_zero,zbf,and_true];refine ⟨?_,?_,?_,?_,?_,?_,?_,?_,?_,?_,?_,?_,?_,?_,?_,?_,?_,?_,?_,?_,?_,?_,?_,?_,?_,?_,?_,?_,?_,?_,?_,?_,?_,?_,?_,?_,?_,?_,?_,?_,?_,?_,?_,?_,?_,?_,?_,?_,?_,?_,?_,?_,?_,?_,?_,?_,?_,?_,?_,?_,?_,?_,?_,?_,?_,?_,?_,?_,?_,?_,?_⟩
  ·intro x W he f;have h0:x 2=I 0:=f.1;go_wp;exact sQ
  ·intro x W he f;have h0:x 69=I 0:=f.1;go_wp;exact sQ
  ·intro x W he f;have h0:x 70=.bool true:=f.1;go_wp;exact sQ
  ·intro x W he f;have h0:x 4=I 0:=f.1;have hg:x 71=.bool true:=f.2.1;go_wp;exact sQ
  ·intro x W he f;have h0:x 72=I 0:=f.1;have hg:x 71=.bool true:=f.2.1;go_wp;exact sQ
  ·intro x W he f;have h0:x 71=.bool true:=f.1;have h1:x 73=.bool true:=f.2.1;go_wp;exact sQ
  ·intro x W he f;have h0:x 74=.bool true:=f.1;go_wp;exact sQ
  ·intro x W he f;have h0:x 17=.bool true:=f.1;have hg:x 75=.bool true:=f.2.1;go_wp;exact sQ
  ·intro x W he f;have h0:x 75=.bool true:=f.1;have h1:x 76=.bool true:=f.2.1;go_wp;exact sQ
  ·intro x W he f;have h0:x 77=.bool true:=f.1;go_wp;exact sQ
  ·intro x W he f;have h0:x 6=.pointer (some ⟨g4,0,none⟩):=f.1;have hg:x 78=.bool true:=f.2.1;go_wp;exact sQ
  ·intro x W he f;have h0:x 79=.pointer (some ⟨g4,1,none⟩):=f.1;have hg:x 78=.bool true:=f.2.1;go_wp;exact sQ
  ·intro x W he f;have h0:x 80=.pointer (some ⟨g4,2,none⟩):=f.1;have hg:x 78=.bool true:=f.2.1;have c2:=(rr4.ext he).cell (j:=2) rfl;go_wp;exact sQ
  ·intro x W he f;have h0:x 81=.slice D2 1 nd2:=f.1;have hg:x 78=.bool true:=f.2.1;go_wp;exact sQ
  ·intro x W he f;have h0:x 82=I 1:=f.1;have hg:x 78=.bool true:=f.2.1;go_wp;exact sQ
  ·intro x W he f;have h0:x 78=.bool true:=f.1;have h1:x 83=.bool true:=f.2.1;go_wp;exact sQ
  ·intro x W he f;have h0:x 84=.bool true:=f.1;go_wp;exact sQ
  ·intro x W he f;have h0:x 5=.pointer (some ⟨g3,0,none⟩):=f.1;have hg:x 85=.bool true:=f.2.1;have c0:=(rr3.ext he).cell (j:=0) rfl;have c1:=(rr3.ext he).cell (j:=1) rfl;have c2:=(rr3.ext he).cell (j:=2) rfl;go_wp;exact sQ
  ·intro x W he f;have h0:x 5=.pointer (some ⟨g3,0,none⟩):=f.1;have hg:x 85=.bool true:=f.2.1;go_wp;exact sQ
  ·intro x W he f;have h0:x 87=.pointer (some ⟨g3,0,none⟩):=f.1;have hg:x 85=.bool true:=f.2.1;have c0:=(rr3.ext he).cell (j:=0) rfl;go_wp;exact sQ
  ·intro x W he f;have h0:x 86=.agg #[.slice J1 2 nj1,.slice J2 1 nj2,.slice J3 0 nj3]:=f.1;have h1:x 88=.slice J1 2 nj1:=f.2.1;have hg:x 85=.bool true:=f.2.2.1;have HC:=zH (zjw (sJ.ext he) (sJ.ext he).all small_stJ (by decide));go_wp;refine HC.out.mono ?_;rintro r W2 ⟨u0,u1,u2,u3,rfl,hb,hn,hx2⟩;rw [zzs] at hn;rw [show zat stJ.all []=stJ.all by kernel_rfl] at hb;obtain⟨E0,ne0,rfl,-,-⟩:∃ A c,u0=Value.slice A 2 c/\2<=c/\c<=9223372036854775807:=hb.form;obtain⟨E1,ne1,rfl,-,-⟩:∃ A c,u1=Value.slice A 2 c/\2<=c/\c<=9223372036854775807:=hn.all.form;obtain⟨E2,ne2,rfl,-,-⟩:∃ A c,u2=Value.slice A 0 c/\0<=c/\c<=9223372036854775807:=hn.entries.form;obtain⟨E3,ne3,rfl,-,-⟩:∃ A c,u3=Value.slice A 0 c/\0<=c/\c<=9223372036854775807:=hn.pruned.form;dsimp only;go_wp;exact zaa ⟨E0,ne0,E1,ne1,E2,ne2,E3,ne3,rfl⟩ hx2
  ·intro x W he f;obtain⟨A0,n0,A1,n1,A2,n2,A3,n3,h0⟩:∃ A0 n0 A1 n1 A2 n2 A3 n3,x 89=dltV (.slice A0 2 n0) (.slice A1 2 n1) (.slice A2 0 n2) (.slice A3 0 n3):=f.1;have hg:x 85=.bool true:=f.2.1;have hfl:=zsd (.slice A0 2 n0) (.slice A1 2 n1) (.slice A2 0 n2) (.slice A3 0 n3) W;go_wp;exact zaa (v:=.agg #[.slice A1 2 n1,.slice A2 0 n2,.slice A3 0 n3]) ⟨A1,n1,A2,n2,A3,n3,rfl⟩ (Ext.refl _)
  ·intro x W he f;obtain⟨A1,n1,A2,n2,A3,n3,h0⟩:∃ A1 n1 A2 n2 A3 n3,x 90=stV (.slice A1 2 n1) (.slice A2 0 n2) (.slice A3 0 n3):=f.1;have hg:x 85=.bool true:=f.2.1;have hfl:=zq3 (.slice A1 2 n1) (.slice A2 0 n2) (.slice A3 0 n3) W;go_wp;exact zaa (v:=.slice A2 0 n2) ⟨A2,n2,rfl⟩ (Ext.refl _)
  ·intro x W he f;obtain⟨A2,n2,h0⟩:∃ A2 n2,x 91=.slice A2 0 n2:=f.1;have hg:x 85=.bool true:=f.2.1;go_wp;exact sQ
  ·intro x W he f;have h0:x 92=I 0:=f.1;have hg:x 85=.bool true:=f.2.1;go_wp;exact sQ
  ·intro x W he f;have h0:x 85=.bool true:=f.1;have h1:x 93=.bool true:=f.2.1;go_wp;exact sQ
  ·intro x W he f;have h0:x 94=.bool true:=f.1;go_wp;exact sQ
  ·intro x W he f;have h0:x 7=.pointer (some ⟨g5,0,none⟩):=f.1;have hg:x 95=.bool true:=f.2.1;have c0:=(rr5.ext he).cell (j:=0) rfl;have c1:=(rr5.ext he).cell (j:=1) rfl;have c2:=(rr5.ext he).cell (j:=2) rfl;go_wp;exact sQ
  ·intro x W he f;have h0:x 5=.pointer (some ⟨g3,0,none⟩):=f.1;have hg:x 95=.bool true:=f.2.1;have c0:=(rr3.ext he).cell (j:=0) rfl;have c1:=(rr3.ext he).cell (j:=1) rfl;have c2:=(rr3.ext he).cell (j:=2) rfl;go_wp;exact sQ
  ·intro x W he f;have h0:x 96=.agg #[.slice K1 2 nk1,.slice K2 1 nk2,.slice K3 0 nk3]:=f.1;have h1:x 97=.agg #[.slice J1 2 nj1,.slice J2 1 nj2,.slice J3 0 nj3]:=f.2.1;have hg:x 95=.bool true:=f.2.2.1;have HC:=zH (zo5 (sK.ext he) (sJ.ext he));rw [show zdb stJ stJ=true from sameSt_iff.2 rfl] at HC;go_wp;refine HC.out.mono ?_;rintro r W2 ⟨rfl,hx2⟩;dsimp only;go_wp;exact zaa rfl hx2
  ·intro x W he f;have h0:x 95=.bool true:=f.1;have h1:x 98=.bool true:=f.2.1;go_wp;exact sQ
  ·intro x W he f;have h0:x 99=.bool true:=f.1;go_wp;exact sQ
  ·intro x W he f;have h0:x 8=I 0:=f.1;have hg:x 100=.bool true:=f.2.1;go_wp;exact sQ
  ·intro x W he f;have h0:x 101=I 0:=f.1;have hg:x 100=.bool true:=f.2.1;go_wp;exact sQ
  ·intro x W he f;have h0:x 100=.bool true:=f.1;have h1:x 102=.bool true:=f.2.1;go_wp;exact sQ
  ·intro x W he f;have h0:x 103=.bool true:=f.1;go_wp;exact sQ
  ·intro x W he f;have h0:x 10=I 160:=f.1;have hg:x 104=.bool true:=f.2.1;go_wp;exact sQ
  ·intro x W he f;have h0:x 105=I 160:=f.1;have hg:x 104=.bool true:=f.2.1;go_wp;exact sQ
  ·intro x W he f;have h0:x 104=.bool true:=f.1;have h1:x 106=.bool true:=f.2.1;go_wp;exact sQ
  ·intro x W he f;have h0:x 107=.bool true:=f.1;go_wp;exact sQ
  ·intro x W he f;have h0:x 11=.pointer (some ⟨g7,0,none⟩):=f.1;have hg:x 108=.bool true:=f.2.1;go_wp;exact sQ
  ·intro x W he f;have h0:x 109=.pointer (some ⟨g7,0,none⟩):=f.1;have hg:x 108=.bool true:=f.2.1;have c0:=(rr7.ext he).cell (j:=0) rfl;go_wp;exact sQ
  ·intro x W he f;have h0:x 110=.slice R1 1 nr1:=f.1;have hg:x 108=.bool true:=f.2.1;have HC:=zH (zd9 [49] (sR.ext he).all);rw [zzx] at HC;go_wp;refine HC.out.mono ?_;rintro r W2 ⟨rfl,rfl⟩;dsimp only;go_wp;exact sQ
  ·intro x W he f;have h0:x 111=U 4:=f.1;have hg:x 108=.bool true:=f.2.1;go_wp;exact sQ
  ·intro x W he f;have h0:x 108=.bool true:=f.1;have h1:x 112=.bool true:=f.2.1;go_wp;exact sQ
  ·intro x W he f;have h0:x 113=.bool true:=f.1;go_wp;exact sQ
  ·intro x W he f;have h0:x 12=I 0:=f.1;have hg:x 114=.bool true:=f.2.1;go_wp;exact sQ
  ·intro x W he f;have h0:x 115=I 0:=f.1;have hg:x 114=.bool true:=f.2.1;go_wp;exact sQ
  ·intro x W he f;have h0:x 114=.bool true:=f.1;have h1:x 116=.bool true:=f.2.1;go_wp;exact sQ
  ·intro x W he f;have h0:x 117=.bool true:=f.1;go_wp;exact sQ
  ·intro x W he f;have h0:x 14=I 2:=f.1;have hg:x 118=.bool true:=f.2.1;go_wp;exact sQ
  ·intro x W he f;have h0:x 119=I 2:=f.1;have hg:x 118=.bool true:=f.2.1;go_wp;exact sQ
  ·intro x W he f;have h0:x 118=.bool true:=f.1;have h1:x 120=.bool true:=f.2.1;go_wp;exact sQ
  ·intro x W he f;have h0:x 121=.bool true:=f.1;go_wp;exact sQ
  ·intro x W he f;have h0:x 15=.pointer (some ⟨g9,0,none⟩):=f.1;have hg:x 122=.bool true:=f.2.1;go_wp;exact sQ
  ·intro x W he f;have h0:x 123=.pointer (some ⟨g9,0,none⟩):=f.1;have hg:x 122=.bool true:=f.2.1;have c0:=(rr9.ext he).cell (j:=0) rfl;go_wp;exact sQ
  ·intro x W he f;have h0:x 124=St [35,110]:=f.1;have hg:x 122=.bool true:=f.2.1;go_wp;exact sQ
  ·intro x W he f;have h0:x 122=.bool true:=f.1;have h1:x 125=.bool true:=f.2.1;go_wp;exact sQ
  ·intro x W he f;have h0:x 126=.bool true:=f.1;go_wp;exact sQ
  ·intro x W he f;have h0:x 16=.bool true:=f.1;have hg:x 127=.bool true:=f.2.1;go_wp;exact sQ
  ·intro x W he f;have h0:x 127=.bool true:=f.1;have h1:x 128=.bool true:=f.2.1;go_wp;exact sQ
  ·intro x W he f;have h0:x 129=.bool true:=f.1;go_wp;exact sQ
  ·intro x W he f;have h0:x 5=.pointer (some ⟨g3,0,none⟩):=f.1;have hg:x 130=.bool true:=f.2.1;have c0:=(rr3.ext he).cell (j:=0) rfl;have c1:=(rr3.ext he).cell (j:=1) rfl;have c2:=(rr3.ext he).cell (j:=2) rfl;go_wp;exact sQ
  ·intro x W he f;have h0:x 131=.agg #[.slice J1 2 nj1,.slice J2 1 nj2,.slice J3 0 nj3]:=f.1;have hg:x 130=.bool true:=f.2.1;have HC:=zH (zmt (sJ.ext he) small_stJ);rw [zwx] at HC;go_wp;refine HC.out.mono ?_;rintro r W2 ⟨rfl,hx2⟩;dsimp only;go_wp;exact zaa rfl hx2
  ·intro x W he f;have h0:x 130=.bool true:=f.1;have h1:x 132=.bool true:=f.2.1;go_wp;exact sQ
  ·intro x W he f;have h0:x 133=.bool true:=f.1;go_wp;exact sQ
  ·intro x W he f;have h0:x 5=.pointer (some ⟨g3,0,none⟩):=f.1;have hg:x 134=.bool true:=f.2.1;have c0:=(rr3.ext he).cell (j:=0) rfl;have c1:=(rr3.ext he).cell (j:=1) rfl;have c2:=(rr3.ext he).cell (j:=2) rfl;go_wp;exact sQ
  ·intro x W he f;have h0:x 135=.agg #[.slice J1 2 nj1,.slice J2 1 nj2,.slice J3 0 nj3]:=f.1;have hg:x 134=.bool true:=f.2.1;have HC:=zH (zio (sJ.ext he) small_stJ);go_wp;refine HC.out.mono ?_;rintro r W2 ⟨u1,u2,u3,rfl,hn,hx2⟩;have hn:=hn.at.mono (S':=fun _=>True) (fun _ _ _=>trivial);obtain⟨E1,ne1,rfl,-,-⟩:∃ A c,u1=Value.slice A 2 c/\2<=c/\c<=9223372036854775807:=hn.all.form;obtain⟨E2,ne2,rfl,-,-⟩:∃ A c,u2=Value.slice A 1 c/\1<=c/\c<=9223372036854775807:=hn.entries.form;obtain⟨E3,ne3,rfl,-,-⟩:∃ A c,u3=Value.slice A 0 c/\0<=c/\c<=9223372036854775807:=hn.pruned.form;have HN:=zH hn;clear hn;dsimp only;go_wp;exact zaa ⟨E1,ne1,E2,ne2,E3,ne3,rfl,HN.out⟩ hx2
  ·intro x W he f;have h0:x 5=.pointer (some ⟨g3,0,none⟩):=f.1;have hg:x 134=.bool true:=f.2.1;have c0:=(rr3.ext he).cell (j:=0) rfl;have c1:=(rr3.ext he).cell (j:=1) rfl;have c2:=(rr3.ext he).cell (j:=2) rfl;go_wp;exact sQ
  ·intro x W he f;obtain⟨A1,n1,A2,n2,A3,n3,h0,hs⟩:∃ A1 n1 A2 n2 A3 n3,x 136=stV (.slice A1 2 n1) (.slice A2 1 n2) (.slice A3 0 n3)/\StAt W (fun _=>True) stJ (.slice A1 2 n1) (.slice A2 1 n2) (.slice A3 0 n3):=f.1;have h1:x 137=.agg #[.slice J1 2 nj1,.slice J2 1 nj2,.slice J3 0 nj3]:=f.2.1;have hg:x 134=.bool true:=f.2.2.1;have HC:=zH (zo5 hs (sJ.ext he));rw [show zdb stJ stJ=true from sameSt_iff.2 rfl] at HC;clear hs;go_wp;refine HC.out.mono ?_;rintro r W2 ⟨rfl,hx2⟩;dsimp only;go_wp;exact zaa rfl hx2
  ·intro x W he f;have h0:x 134=.bool true:=f.1;have h1:x 138=.bool true:=f.2.1;go_wp;exact sQ
 case hend=>intro x W he f;have h139:x 139=.bool true:=f.2.2.2.2.2.2.2.2.2.2.2.2.2.2.2.2.2.2.2.2.2.2.2.2.2.2.2.2.2.2.2.2.2.2.2.2.2.2.2.2.2.2.2.2.2.2.2.2.2.2.2.2.2.2.2.2.2.2.2.2.2.2.2.2.2.2.2.2.2.2.1;clear f;have HX:=zH (hxw.trans he);clear he sA rr1 sB rr2 sJ rr3 sD sD0 rr4 sK rr5 rr6 sR rr7 rr8 rr9;simp only [List.length_cons,List.length_nil,Nat.reduceAdd,List.take_succ_cons,List.take_zero,List.filterMap_cons,List.filterMap_nil,List.drop_succ_cons,List.drop_zero,zaw,Act.put,List.setIfInBounds_toArray,List.set_cons_succ,List.set_cons_zero,List.append_eq,List.cons_append,List.nil_append,h139];go_wp;go_wp2_with fail;go_ret;exact⟨rfl,HX.out⟩
end
end Go.Proofs.YtdikcgmdmcfpfaaGreat
