/- gossamerlaw17.PruneOnce: the walk. Printed by pp.py out of src/Once17.src, src/Once17.py. -/
import Derived.Test.YtaabaflgeljbjaaGreatQx40
import Derived.Test.YtaabaflgeljbjaaGreatQx41
import Derived.Test.YtaabaflgeljbjaaGreatQx45
import Derived.Test.YtaabaflgeljbjaaGreatPr25
import Derived.Test.YtaabaflgeljbjaaGreatQx43
set_option linter.unusedVariables false
set_option linter.unusedSimpArgs false
set_option maxRecDepth 100000
set_option maxHeartbeats 40000000
namespace Go.Proofs.YtaabaflgeljbjaaGreat
open List renaming filterMap_cons→Qb,length_filter_le→Qe,replicate→Qf
open Nat renaming reduceAdd→Qa,le_trans→Qc,le_of_eq→Qd
section
open Go.RowKit Go.Shelf
def CDb (s:State) (base:List Mark) (xs:List Value) (S:Nat->Prop) (W:World):Prop:=∃ B0 m0 B1 m1 B2 m2 B3 m3,xs = [.slice B0 base.length m0,.slice B1 s.all.length m1,.slice B2 s.entries.length m2,.slice B3 s.pruned.length m3]/\Sl markT W S (.slice B0 base.length m0) base/\StAt W S s (.slice B1 s.all.length m1) (.slice B2 s.entries.length m2) (.slice B3 s.pruned.length m3)
theorem CDb.keep {s:State} {base:List Mark} (xs:List Value) (S:Nat->Prop) (w w':World) (h:CDb s base xs S w) (hs:∀ b,S b->b < w.heap.size->w'.heap[b]? = w.heap[b]?):CDb s base xs S w':=by
 obtain⟨B0,m0,B1,m1,B2,m2,B3,m3,e,h1,h2⟩:=h;exact⟨B0,m0,B1,m1,B2,m2,B3,m3,e,h1.keep (by decide) hs,h2.keep hs⟩
theorem ydp (w:World) (q:Nat) (v1 v2 v3 v4:Value):(zqw w q v1 v2 v3 v4).heap.size=w.heap.size:=by simp [World.size_setCell]
theorem ydg {S:Nat->Prop} {l:List Deed} {vl:Value} {w:World} (hl:Sl zom w S vl l) (hd:∀ d ∈ l,DeedOk d) :
  Calls Tryz.prog 5 #[vl] w fun r w'=>r=.returned (.bool true)/\Ext w w':=by
 obtain⟨A,c,rfl,-,-⟩:=hl.form;have HL:=zH hl;have HD:=zH hd;clear hl hd;go_enter Tryz.func5,Tryz.ntmps5
 by_cases h50:40 < l.length
 ·have q1:decide ((40:Int) < (l.length:Int))=true:=decide_eq_true (by omega);have q2:(l.length:Int) > 40:=by omega
  clear h50;go_wp2_with fail;refine (zm6 _).mono ?_;rintro r Z ⟨rfl,hxz⟩;go_wp2_with fail;go_ret;exact⟨rfl,hxz⟩
 ·have q1:decide ((40:Int) < (l.length:Int))=false:=decide_eq_false (by omega);have q2:¬ (l.length:Int) > 40:=by omega
  have h51:l.length<=40:=Nat.not_lt.1 h50;clear h50;have hmk:∀ W:World,(Instr.makeSlice 62 (.int .i64 4) (.int .i64 4)).run Tryz.prog W=.ok (.slice (some ⟨W.heap.size,0,none⟩) 4 4) (W.alloc (.cells #[.slice none 0 0,.slice none 0 0,.slice none 0 0,.slice none 0 0,.slice none 0 0,.slice none 0 0,.slice none 0 0,.slice none 0 0,.slice none 0 0,.slice none 0 0,.slice none 0 0,.slice none 0 0,.slice none 0 0,.slice none 0 0,.slice none 0 0,.slice none 0 0,.slice none 0 0,.slice none 0 0,.slice none 0 0,.slice none 0 0] 75)):=fun W=>by kernel_rfl
  have HM0:Hid (Mem (w.alloc (.cells #[.slice none 0 0,.slice none 0 0,.slice none 0 0,.slice none 0 0,.slice none 0 0,.slice none 0 0,.slice none 0 0,.slice none 0 0,.slice none 0 0,.slice none 0 0,.slice none 0 0,.slice none 0 0,.slice none 0 0,.slice none 0 0,.slice none 0 0,.slice none 0 0,.slice none 0 0,.slice none 0 0,.slice none 0 0,.slice none 0 0] 75)) w.heap.size w.heap.size (Qf 4 zvm) (Qf 4 rep0) (.slice none 0 0) []):=zH (Mem.zero (zaf w 75 [.slice none 0 0,.slice none 0 0,.slice none 0 0,.slice none 0 0,.slice none 0 0,.slice none 0 0,.slice none 0 0,.slice none 0 0,.slice none 0 0,.slice none 0 0,.slice none 0 0,.slice none 0 0,.slice none 0 0,.slice none 0 0,.slice none 0 0,.slice none 0 0,.slice none 0 0,.slice none 0 0,.slice none 0 0,.slice none 0 0]) (Nat.le_refl _));go_wp2_with fail;clear hmk q1 q2
  go_loopw [4,5] (fun va i wr=>∃ (pre post:List Deed) (E:List Ev) (rs:List Rep) (vs:List RepV),l=pre++post/\i=I pre.length/\RepsOk E 4 rs/\E.length<=pre.length/\Mem wr w.heap.size w.heap.size vs rs va E/\Ext w wr) (fun _ i _=>l.length - (intOf i).toNat)
  case atStart=>exact⟨[],l,[],_,_,rfl,rfl,RepsOk.zero (by decide),Nat.le_refl _,HM0.out,(Ext.refl w).alloc _⟩
  case round =>
   obtain⟨pre,post,E,rs,vs,hl,rfl,hrep,hel,hm,hx⟩:=hrel;have HREP:=zH hrep;have HM:=zH hm;have HX:=zH hx
   cases post with
   | cons m post =>
    have hlt:pre.length < l.length:=(by rw [hl];simp);obtain⟨b,of,hA,e0,e1,e2,e3,e4,e5,e6⟩:=ybc HL.out hx hl;subst hA;have HLL:=zH hl;have HMD:=zH (HD.out m (by rw [hl];simp));have HEL:=zH hel;have he2:E.length < 200:=(by omega);have HC:=zH (yai (n:=4) HMD.out HM.out HREP.out (by decide) he2);have HRD:=zH (HREP.out.does (by decide) he2 HMD.out);clear hl hrep hm hx hel;go_wp2_with fail;refine HC.out.mono ?_;rintro r W2 ⟨va2,vs2,rfl,hm2,hb2⟩;have HM2:=zH hm2;have HB2:=zH hb2;clear hm2 hb2 HC;go_wp2_with fail;go_roundw
    case rel=>exact⟨pre++[m],post,_,_,vs2,by rw [HLL.out];simp,by simp,HRD.out,by have h1:=yae E rs m;have h2:=HEL.out;simp;omega,HM2.out,Below.trans HX.out HB2.out⟩
    case measure=>simp [intOf];omega
   | nil =>
    rw [List.append_nil] at hl;subst hl;have he2:E.length < 200:=(by omega);obtain⟨q,hq⟩:∃ q,rs[3]? = some q:=⟨_,List.getElem?_eq_getElem (by rw [hrep.len];decide)⟩
    obtain⟨⟨v1,v2,v3,vk,vq⟩,hv,hqv⟩:=hm.get hq;obtain⟨Q1,q1,rfl,-,-⟩:=hqv.st.all.form;have c15:wr.cell? ⟨w.heap.size,15,none⟩=some (.slice Q1 q.s.all.length q1):=hm.cell (k:=3) (j:=0) hv rfl;have HQA:=zH hqv.st.all;have HQ:=zH hq;have HC:=zH (yds hm hrep he2);obtain⟨Wm,rfl⟩:∃ X:World,X=wr:=⟨_,rfl⟩
    clear hq hv hqv hrep hm hx hel;go_wp2_with fail;refine HC.out.mono ?_;rintro r W2 ⟨r0,a,b,c,vs2,hrs4,rfl,hm2,hb2,hsame⟩;have hmt:=HREP.out.met hrs4
    have hql:∀ t,ofM q.s.all t<=ofM (yc0 a).all t:=by have h:=ydm HREP.out.len hrs4;rw [HQ.out] at h;obtain rfl:q=c:=Option.some.inj h;exact hmt.lec
    have H0:=HREP.out.hist;have hon:=yda H0.toHist hmt.ok hmt.is hmt.turn;have hos:=ydn H0.toHist hmt.ok hmt.is hmt.turn hql;have hl1:=hmt.is.lim H0 hmt.vec;have hp1:=hmt.turn.prune hmt.ok;have hp2:=hmt.turn.again hmt.ok;have hl2:=zlb (yc1 a) hl1;rw [hp1] at hl2
    have hql2:q.s.all.length<=4:=by
     have h3:=HREP.out.each 3 q HQ.out;have:=zd3 h3.is.all (ps:=zf9 4) h3.paths
     simpa [zf9] using this
    have hpm:=prOk_iff.2 hmt.ok;have hps:=(hmt.turn.since q.s.all).prune hmt.ok;have hls:LimS 400 (zic (yc0 a) q.s.all):=⟨hl1.all,Qc (Qe _ _) hl1.entries,hl1.pruned,fun e he=>hl1.each e (List.mem_filter.1 he).1⟩
    have hlt:=zlb (yc1 a) hls;rw [hps] at hlt
    have hlj:(za0 q.s.all []).length<=4:=by have h:=zeo q.s.all;rw [<- zka] at h;omega
    have hld:(zau (za0 q.s.all []) (yc1 a).1).length<=4:=by have h:=zeo (za0 q.s.all []);exact Qc (Qe _ _) (Qc h hlj)
    obtain⟨⟨v1,v2,v3,vk2,vq2⟩,hvb,hb⟩:=hm2.get (k:=2) rfl;obtain⟨⟨v4,v5,v6,vk3,vq3⟩,hvc,hc⟩:=hm2.get (k:=3) rfl;have sb:=hb.st;have sc:=hc.st;simp only [hmt.jb] at sb;simp only [hmt.jc] at sc;have cb0:=hm2.cell (j:=0) hvb rfl;have cb1:=hm2.cell (j:=1) hvb rfl;have cb2:=hm2.cell (j:=2) hvb rfl;have cc0:=hm2.cell (j:=0) hvc rfl;have cc1:=hm2.cell (j:=1) hvc rfl;have cc2:=hm2.cell (j:=2) hvc rfl;have hqa:=(HQA.out.keep (by decide) hsame).mono (S':=fun _=>True) (by decide) fun _ _ _=>trivial
    obtain⟨SS,hSS⟩:∃ x,yc0 a=x:=⟨_,rfl⟩
    obtain⟨PP,hPP⟩:∃ x,yc1 a=x:=⟨_,rfl⟩
    rw [hSS,hPP] at hon hos hp1 hp2;rw [hSS] at hl1 sb sc;rw [hSS,hPP] at hl2 hlt;rw [hSS] at hls;rw [hPP] at hpm hld;obtain⟨AA,hAA⟩:∃ x,turnS PP SS=x:=⟨_,rfl⟩
    rw [hAA] at hon hos hp1 hp2 hl2;obtain⟨JB,hJB⟩:∃ x,za0 q.s.all []=x:=⟨_,rfl⟩
    obtain⟨DS,hDS⟩:∃ x,zic SS q.s.all=x:=⟨_,rfl⟩
    rw [hJB,hDS] at hos;rw [hDS] at hls hlt;rw [hJB] at hlj hld;obtain⟨JD,hJD⟩:∃ x,zau JB PP.1=x:=⟨_,rfl⟩
    obtain⟨DT,hDT⟩:∃ x,turnS PP DS=x:=⟨_,rfl⟩
    rw [hJD,hDT] at hos;rw [hJD] at hld;rw [hDT] at hlt;have HJB:=zH hJB;have HDE:=zH hDS;have SM2:=zH (hls.small (by decide));have SM3:=zH (hlt.small (by decide));have HLJ:=zH hlj;have HLD:=zH hld;clear hls hlt hps hlj hld hJB hDS hJD hDT;obtain⟨B1,b1,B2,b2,B3,b3,rfl,rfl,rfl⟩:=sb.fm;obtain⟨C1,c1,C2,c2,C3,c3,rfl,rfl,rfl⟩:=sc.fm;obtain⟨W3,hW3⟩:∃ X,W2.alloc (.cells #[St PP.1,U PP.2.1,St PP.2.2.1,U PP.2.2.2] 29)=X:=⟨_,rfl⟩
    obtain⟨g9,hg9⟩:∃ g,W2.heap.size=g:=⟨_,rfl⟩
    have hx3:Ext W2 W3:=(by rw [<- hW3];exact (Ext.refl W2).alloc _);have HR9:=zH (show RowIs W3 g9 29 (prC PP) [] by rw [<- hW3,<- hg9];exact zaf W2 _ _);have HSB:=zH ((sb.ext hx3).mono (S':=fun _=>True) fun _ _ _=>trivial);have HSC:=zH ((sc.ext hx3).mono (S':=fun _=>True) fun _ _ _=>trivial);have HQA:=zH (hqa.ext (by decide) hx3);have HCB:=zH (fun (X:World) (he:Ext W3 X)=>(show X.cell? ⟨w.heap.size,10,none⟩=some (.slice B1 SS.all.length b1)/\X.cell? ⟨w.heap.size,11,none⟩=some (.slice B2 SS.entries.length b2)/\X.cell? ⟨w.heap.size,12,none⟩=some (.slice B3 SS.pruned.length b3) from ⟨(hx3.trans he).cell cb0,(hx3.trans he).cell cb1,(hx3.trans he).cell cb2⟩));have HCC:=zH (fun (X:World) (he:Ext W3 X)=>(show X.cell? ⟨w.heap.size,15,none⟩=some (.slice C1 SS.all.length c1)/\X.cell? ⟨w.heap.size,16,none⟩=some (.slice C2 SS.entries.length c2)/\X.cell? ⟨w.heap.size,17,none⟩=some (.slice C3 SS.pruned.length c3) from ⟨(hx3.trans he).cell cc0,(hx3.trans he).cell cc1,(hx3.trans he).cell cc2⟩));have HXX:Hid (Ext w W3):=zH (Ext.trans (show Ext w W2 from Below.trans HX.out hb2) hx3);have HOJ:=zH hon.1;have HOA:=zH hon.2;have HOD:=zH hos.1;have HOP:=zH hos.2;have HPR:=zH hp1;have HPA:=zH hp2;have HPM:=zH hpm;have HL1:=zH hl1;have HL2:=zH hl2;have SMS:=zH (hl1.small (by decide));have SMA:=zH (hl2.small (by decide));have HQL:=zH hql2;clear hmt hql H0 hon hos hl1 hl2 hp1 hp2 hql2 hpm hvb hvc hb hc sb sc cb0 cb1 cb2 cc0 cc1 cc2 hqa hSS hAA hx3 hm2 hb2 hsame hrs4 HREP HM HX HQ c15 HC;go_wp2_with fail;rename_i K hK;have HK:=zH hK;clear hK hW3 hg9;refine zc7 [some fun v=>v=.slice (some ⟨w.heap.size,0,none⟩) 4 4,some fun v=>v=.pointer (some ⟨w.heap.size,10,none⟩),some fun v=>v=.pointer (some ⟨w.heap.size,10,none⟩),some fun v=>v=stV (.slice B1 SS.all.length b1) (.slice B2 SS.entries.length b2) (.slice B3 SS.pruned.length b3),some fun v=>v=prV PP,none,none,none,some fun v=>v=I 0,none,none] (fun st w'=>BoxK W3.heap.size 26 zol (CSt W3.heap.size AA) (tupS 0) agS 5 6 7 9 10 st w') rfl (by kernel_rfl) ?hK ?h0 ?hstep ?hend
    case hK=>exact fun st w w' h he=>h.ext CSt.keep he
    case h0=>exact BoxK.start _
    case hstep =>
     simp only [zS,zD,Qa,zew,zf6]
     and_intros <;> intro x W st he hK
     ·intro f;have h0:x 3=.slice (some ⟨w.heap.size,0,none⟩) 4 4:=f.1;clear hK;go_wp;exact sQ
     ·intro f;have h0:_=_:=f.1;clear hK;go_wp;exact sQ
     ·intro f;have h0:_=_:=f.1;clear hK;go_wp;exact sQ
     ·intro f;have h0:_=_:=f.1;clear hK;obtain⟨k0,k1,k2⟩:=HCB.out W he;go_wp;exact sQ
     ·intro f;have h0:x 9=.pointer (some ⟨g9,0,none⟩):=f.1;clear hK;obtain⟨d0,d1,d2,d3⟩:=(HR9.out.ext he).p4;go_wp;exact sQ
     ·intro hn f;have h0:_=_:=f.1;have h1:_=_:=f.2.1;have HC:=zH (ziv PP (HSB.out.ext he) SMS.out);rw [HPR.out] at HC;have HK2:=zH hK;clear hK f;go_wp;refine HC.out.mono ?_;rintro r X ⟨u1,u2,u3,rfl,hn2,hx2⟩;obtain⟨C1_,x1_,C2_,x2_,C3_,x3_,rfl,rfl,rfl⟩:=hn2.fm;have HN:=zH hn2;clear hn2;dsimp only;go_wp;exact za2 ⟨HK2.out.call (xs:=[.slice C1_ AA.all.length x1_,.slice C2_ AA.entries.length x2_,.slice C3_ AA.pruned.length x3_]) (by decide) hn hx2 he.size ⟨C1_,x1_,C2_,x2_,C3_,x3_,rfl,HN.out.mono fun b hb h=>⟨⟨h,hb⟩,Qc he.size h⟩⟩,he.trans hx2⟩
     ·intro hn f;have h0:st 5=some (x 66):=f.1;have HK2:=zH (hK.move (by decide) h0);clear hK;go_wp;exact za2 ⟨HK2.out,he⟩
     ·intro hn f;have h0:st 6=some (x 60):=f.1;obtain⟨xs,S,hv,⟨C1_,x1_,C2_,x2_,C3_,x3_,rfl,-⟩,hK2⟩:=hK.part (by decide) h0;have HK2:=zH hK2;clear hK hK2;go_wp;exact za2 ⟨HK2.out,he⟩
     ·intro f;have h0:st 6=some (x 60):=f.1;obtain⟨xs,S,hv,⟨C1_,x1_,C2_,x2_,C3_,x3_,rfl,-⟩,hK2⟩:=hK.part (by decide) h0;have HK2:=zH hK2;clear hK hK2;go_wp;exact sQ
     ·intro hn f;have HK2:=zH hK;clear hK;go_wp;exact za2 ⟨HK2.out.alloc CSt.keep (by decide) hn he.size,he.alloc _⟩
     ·intro hn f;have h0:st 9=some (x 11):=f.1;have h1:st 7=some (x 67):=f.2.1;obtain⟨xs,S,g5,hv,hp2,hg2,hr,⟨C1_,x1_,C2_,x2_,C3_,x3_,rfl,-⟩,hfin⟩:=hK.store CSt.keep (by decide) h1 h0 hn;obtain⟨r0,r1,r2⟩:=hr.p3;obtain⟨y0,y1,y2⟩:=hr.q3;have hfi:=hfin (((W.setCell ⟨g5,0,none⟩ (.slice C1_ AA.all.length x1_)).setCell ⟨g5,1,none⟩ (.slice C2_ AA.entries.length x2_)).setCell ⟨g5,2,none⟩ (.slice C3_ AA.pruned.length x3_)) (.bool true) (zi0 hr) (Qd (zjl W g5 (.slice C1_ AA.all.length x1_) (.slice C2_ AA.entries.length x2_) (.slice C3_ AA.pruned.length x3_)).symm) (fun y hy=>zht W g5 (.slice C1_ AA.all.length x1_) (.slice C2_ AA.entries.length x2_) (.slice C3_ AA.pruned.length x3_) y hy);have hxe:=zi1 he hg2 (.slice C1_ AA.all.length x1_) (.slice C2_ AA.entries.length x2_) (.slice C3_ AA.pruned.length x3_);have HK2:=zH hfi;have HXE:=zH hxe;clear hK hfin hfi hxe hr h0 h1;go_wp;exact za2 (v:=.bool true) ⟨HK2.out,HXE.out⟩
    case hend =>
     intro x W4 st hx1 hK hn f;have h12:st 9=some (x 11):=f.2.2.2.2.2.2.2.2.2.1;have e11:x 68=I 0:=f.2.2.2.2.2.2.2.2.1;obtain⟨xs,S,g11,e12,hg2,hrow,⟨D1,d1,D2,d2,D3,d3,rfl,hst⟩,hSg⟩:=hK.done h12 (hn 10 (show 10 < 11 by decide) rfl);have HR11:=zH hrow;have HSD:=zH (hst.mono (S':=fun _=>True) fun _ _ _=>trivial);have HX1:=zH hx1;clear hK hn f hrow hst hSg h12 hx1;simp only [zS,zD,zU,Qa,Qb,zav,Act.put,e12,e11];go_wp;refine HK.out _ _ ?_;clear HK K e12 e11;have HSB:=zH (HSB.out.ext HX1.out);have HSC:=zH (HSC.out.ext HX1.out);have HQA:=zH (HQA.out.ext (by decide) HX1.out);have HR9:=zH (HR9.out.ext HX1.out);have HCB:=zH (fun (X:World) (he:Ext W4 X)=>HCB.out X (HX1.out.trans he));have HCC:=zH (fun (X:World) (he:Ext W4 X)=>HCC.out X (HX1.out.trans he));have HXX:=zH (HXX.out.trans HX1.out);clear HX1 hg2;refine wpH ?_;intro K HK;refine zc7 [some fun v=>v=.slice (some ⟨w.heap.size,0,none⟩) 4 4,some fun v=>v=.pointer (some ⟨w.heap.size,15,none⟩),some fun v=>v=.pointer (some ⟨w.heap.size,15,none⟩),some fun v=>v=stV (.slice C1 SS.all.length c1) (.slice C2 SS.entries.length c2) (.slice C3 SS.pruned.length c3),some fun v=>v=prV PP,none,none,none,some fun v=>v=I 0,none,none] (fun st w'=>BoxK W4.heap.size 26 zol (CSt W4.heap.size AA) (tupS 0) agS 5 6 7 9 10 st w') rfl (by kernel_rfl) ?hK ?h0 ?hstep ?hend
     case hK=>exact fun st w w' h he=>h.ext CSt.keep he
     case h0=>exact BoxK.start _
     case hstep =>
      simp only [zS,zD,Qa,zew,zf6]
      and_intros <;> intro x W st he hK
      ·intro f;have h0:x 3=.slice (some ⟨w.heap.size,0,none⟩) 4 4:=f.1;clear hK;go_wp;exact sQ
      ·intro f;have h0:_=_:=f.1;clear hK;go_wp;exact sQ
      ·intro f;have h0:_=_:=f.1;clear hK;go_wp;exact sQ
      ·intro f;have h0:_=_:=f.1;clear hK;obtain⟨k0,k1,k2⟩:=HCC.out W he;go_wp;exact sQ
      ·intro f;have h0:x 9=.pointer (some ⟨g9,0,none⟩):=f.1;clear hK;obtain⟨d0,d1,d2,d3⟩:=(HR9.out.ext he).p4;go_wp;exact sQ
      ·intro hn f;have h0:_=_:=f.1;have h1:_=_:=f.2.1;have HC:=zH (ziv PP (HSC.out.ext he) SMS.out);rw [HPR.out] at HC;have HK2:=zH hK;clear hK f;go_wp;refine HC.out.mono ?_;rintro r X ⟨u1,u2,u3,rfl,hn2,hx2⟩;obtain⟨C1_,x1_,C2_,x2_,C3_,x3_,rfl,rfl,rfl⟩:=hn2.fm;have HN:=zH hn2;clear hn2;dsimp only;go_wp;exact za2 ⟨HK2.out.call (xs:=[.slice C1_ AA.all.length x1_,.slice C2_ AA.entries.length x2_,.slice C3_ AA.pruned.length x3_]) (by decide) hn hx2 he.size ⟨C1_,x1_,C2_,x2_,C3_,x3_,rfl,HN.out.mono fun b hb h=>⟨⟨h,hb⟩,Qc he.size h⟩⟩,he.trans hx2⟩
      ·intro hn f;have h0:st 5=some (x 75):=f.1;have HK2:=zH (hK.move (by decide) h0);clear hK;go_wp;exact za2 ⟨HK2.out,he⟩
      ·intro hn f;have h0:st 6=some (x 69):=f.1;obtain⟨xs,S,hv,⟨C1_,x1_,C2_,x2_,C3_,x3_,rfl,-⟩,hK2⟩:=hK.part (by decide) h0;have HK2:=zH hK2;clear hK hK2;go_wp;exact za2 ⟨HK2.out,he⟩
      ·intro f;have h0:st 6=some (x 69):=f.1;obtain⟨xs,S,hv,⟨C1_,x1_,C2_,x2_,C3_,x3_,rfl,-⟩,hK2⟩:=hK.part (by decide) h0;have HK2:=zH hK2;clear hK hK2;go_wp;exact sQ
      ·intro hn f;have HK2:=zH hK;clear hK;go_wp;exact za2 ⟨HK2.out.alloc CSt.keep (by decide) hn he.size,he.alloc _⟩
      ·intro hn f;have h0:st 9=some (x 13):=f.1;have h1:st 7=some (x 76):=f.2.1;obtain⟨xs,S,g5,hv,hp2,hg2,hr,⟨C1_,x1_,C2_,x2_,C3_,x3_,rfl,-⟩,hfin⟩:=hK.store CSt.keep (by decide) h1 h0 hn;obtain⟨r0,r1,r2⟩:=hr.p3;obtain⟨y0,y1,y2⟩:=hr.q3;have hfi:=hfin (((W.setCell ⟨g5,0,none⟩ (.slice C1_ AA.all.length x1_)).setCell ⟨g5,1,none⟩ (.slice C2_ AA.entries.length x2_)).setCell ⟨g5,2,none⟩ (.slice C3_ AA.pruned.length x3_)) (.bool true) (zi0 hr) (Qd (zjl W g5 (.slice C1_ AA.all.length x1_) (.slice C2_ AA.entries.length x2_) (.slice C3_ AA.pruned.length x3_)).symm) (fun y hy=>zht W g5 (.slice C1_ AA.all.length x1_) (.slice C2_ AA.entries.length x2_) (.slice C3_ AA.pruned.length x3_) y hy);have hxe:=zi1 he hg2 (.slice C1_ AA.all.length x1_) (.slice C2_ AA.entries.length x2_) (.slice C3_ AA.pruned.length x3_);have HK2:=zH hfi;have HXE:=zH hxe;clear hK hfin hfi hxe hr h0 h1;go_wp;exact za2 (v:=.bool true) ⟨HK2.out,HXE.out⟩
     case hend =>
      intro x W5 st hx1 hK hn f;have h12:st 9=some (x 13):=f.2.2.2.2.2.2.2.2.2.1;have e11:x 77=I 0:=f.2.2.2.2.2.2.2.2.1;obtain⟨xs,S,g13,e12,hg2,hrow,⟨G1,g1,G2,g2,G3,g3,rfl,hst⟩,hSg⟩:=hK.done h12 (hn 10 (show 10 < 11 by decide) rfl);have HR13:=zH hrow;have HSG:=zH (hst.mono (S':=fun _=>True) fun _ _ _=>trivial);have HX1:=zH hx1;clear hK hn f hrow hst hSg h12 hx1;simp only [zS,zD,zU,Qa,Qb,zav,Act.put,e12,e11];go_wp;refine HK.out _ _ ?_;clear HK K e12 e11;have HSB:=zH (HSB.out.ext HX1.out);have HSC:=zH (HSC.out.ext HX1.out);have HQA:=zH (HQA.out.ext (by decide) HX1.out);have HR9:=zH (HR9.out.ext HX1.out);have HR11:=zH (HR11.out.ext HX1.out);have HSD:=zH (HSD.out.ext HX1.out);have HCB:=zH (fun (X:World) (he:Ext W5 X)=>HCB.out X (HX1.out.trans he));have HCC:=zH (fun (X:World) (he:Ext W5 X)=>HCC.out X (HX1.out.trans he));have HXX:=zH (HXX.out.trans HX1.out);clear HX1 hg2;refine wpH ?_;intro K HK;refine zc7 [some fun v=>v=.slice (some ⟨w.heap.size,0,none⟩) 4 4,some fun v=>v=.pointer (some ⟨w.heap.size,10,none⟩),some fun v=>v=.pointer (some ⟨w.heap.size,10,none⟩),some fun v=>v=stV (.slice B1 SS.all.length b1) (.slice B2 SS.entries.length b2) (.slice B3 SS.pruned.length b3),some fun v=>v=.slice (some ⟨w.heap.size,0,none⟩) 4 4,some fun v=>v=.pointer (some ⟨w.heap.size,15,none⟩),some fun v=>v=.pointer (some ⟨w.heap.size,15,none⟩),some fun v=>v=stV (.slice C1 SS.all.length c1) (.slice C2 SS.entries.length c2) (.slice C3 SS.pruned.length c3),none,some fun v=>v=prV PP,none,none,none,some fun v=>v=I 0,none,none] (fun st w'=>BoxK W5.heap.size 26 zol (CSt W5.heap.size AA) (tupS 0) agS 10 11 12 14 15 st w'/\(st 15=none->SlS SS 8 st w')) rfl (by kernel_rfl) ?hK ?h0 ?hstep ?hend
      case hK=>exact fun st w w' h he=>⟨h.1.ext CSt.keep he,fun h0=>(h.2 h0).ext he⟩
      case h0=>exact⟨BoxK.start _,fun _ v hv=>(by cases hv)⟩
      case hstep =>
       simp only [zS,zD,Qa,zew,zf6]
       and_intros <;> intro x W st he hK
       ·intro f;have h0:x 3=.slice (some ⟨w.heap.size,0,none⟩) 4 4:=f.1;clear hK;go_wp;exact sQ
       ·intro f;have h0:_=_:=f.1;clear hK;go_wp;exact sQ
       ·intro f;have h0:_=_:=f.1;clear hK;go_wp;exact sQ
       ·intro f;have h0:_=_:=f.1;clear hK;obtain⟨k0,k1,k2⟩:=HCB.out W he;go_wp;exact sQ
       ·intro f;have h0:x 3=.slice (some ⟨w.heap.size,0,none⟩) 4 4:=f.1;clear hK;go_wp;exact sQ
       ·intro f;have h0:_=_:=f.1;clear hK;go_wp;exact sQ
       ·intro f;have h0:_=_:=f.1;clear hK;go_wp;exact sQ
       ·intro f;have h0:_=_:=f.1;clear hK;obtain⟨k0,k1,k2⟩:=HCC.out W he;go_wp;exact sQ
       ·intro hn f;have h0:_=_:=f.1;have h1:_=_:=f.2.1;have HC:=zH (zib (HSB.out.ext he) (HSC.out.ext he) SMS.out SMS.out);rw [HOJ.out] at HC;have HK2:=zH hK;clear hK f;go_wp;refine HC.out.mono ?_;rintro e X ⟨z1,z2,z3,rfl,hn2,hx2⟩;dsimp only;go_wp;exact za2 ⟨⟨(HK2.out.1.ext CSt.keep hx2).other (by decide),fun _=>SlS.set hn2.at.sv⟩,he.trans hx2⟩
       ·intro f;have h0:x 9=.pointer (some ⟨g9,0,none⟩):=f.1;clear hK;obtain⟨d0,d1,d2,d3⟩:=(HR9.out.ext he).p4;go_wp;exact sQ
       ·intro hn f;have h1:_=_:=f.2.1
        have h15n:st 15=none:=Classical.byContradiction fun hne=>by obtain⟨xs,lo,hi,g,k1,k2,k3,k4,k5⟩:=hK.1;exact (k5 hne).1 hn
        obtain⟨D1,y1,D2,y2,D3,y3,h0,t0⟩:=hK.2 h15n (x 87) f.1;have HC:=zH (ziv PP t0 SMS.out);rw [HPR.out] at HC;have HK2:=zH hK;clear hK f t0;go_wp;refine HC.out.mono ?_;rintro r X ⟨u1,u2,u3,rfl,hn2,hx2⟩;obtain⟨C1_,x1_,C2_,x2_,C3_,x3_,rfl,rfl,rfl⟩:=hn2.fm;have HN:=zH hn2;clear hn2;dsimp only;go_wp;exact za2 ⟨⟨HK2.out.1.call (xs:=[.slice C1_ AA.all.length x1_,.slice C2_ AA.entries.length x2_,.slice C3_ AA.pruned.length x3_]) (by decide) hn hx2 he.size ⟨C1_,x1_,C2_,x2_,C3_,x3_,rfl,HN.out.mono fun b hb h=>⟨⟨h,hb⟩,Qc he.size h⟩⟩,fun h=>((HK2.out.2 (by rwa [zah st _ (by decide)] at h)).ext hx2).other (by decide)⟩,he.trans hx2⟩
       ·intro hn f;have h0:st 10=some (x 89):=f.1;have HK2:=zH (hK.1.move (by decide) h0);have HKD:=zH hK.2;clear hK;go_wp;exact za2 ⟨⟨HK2.out,fun h=>(HKD.out (by rwa [zah st _ (by decide)] at h)).other (by decide)⟩,he⟩
       ·intro hn f;have h0:st 11=some (x 78):=f.1;obtain⟨xs,S,hv,⟨C1_,x1_,C2_,x2_,C3_,x3_,rfl,-⟩,hK2⟩:=hK.1.part (by decide) h0;have HK2:=zH hK2;have HKD:=zH hK.2;clear hK hK2;go_wp;exact za2 ⟨⟨HK2.out,fun h=>(HKD.out (by rwa [zah st _ (by decide)] at h)).other (by decide)⟩,he⟩
       ·intro f;have h0:st 11=some (x 78):=f.1;obtain⟨xs,S,hv,⟨C1_,x1_,C2_,x2_,C3_,x3_,rfl,-⟩,hK2⟩:=hK.1.part (by decide) h0;have HK2:=zH hK2;have HKD:=zH hK.2;clear hK hK2;go_wp;exact sQ
       ·intro hn f;have HK2:=zH hK;clear hK;go_wp;exact za2 ⟨⟨HK2.out.1.alloc CSt.keep (by decide) hn he.size,fun h=>((HK2.out.2 (by rwa [zah st _ (by decide)] at h)).ext ((Ext.refl _).alloc _)).other (by decide)⟩,he.alloc _⟩
       ·intro hn f;have h0:st 14=some (x 15):=f.1;have h1:st 12=some (x 90):=f.2.1;obtain⟨xs,S,g5,hv,hp2,hg2,hr,⟨C1_,x1_,C2_,x2_,C3_,x3_,rfl,-⟩,hfin⟩:=hK.1.store CSt.keep (by decide) h1 h0 hn;obtain⟨r0,r1,r2⟩:=hr.p3;obtain⟨y0,y1,y2⟩:=hr.q3;have hfi:=hfin (((W.setCell ⟨g5,0,none⟩ (.slice C1_ AA.all.length x1_)).setCell ⟨g5,1,none⟩ (.slice C2_ AA.entries.length x2_)).setCell ⟨g5,2,none⟩ (.slice C3_ AA.pruned.length x3_)) (.bool true) (zi0 hr) (Qd (zjl W g5 (.slice C1_ AA.all.length x1_) (.slice C2_ AA.entries.length x2_) (.slice C3_ AA.pruned.length x3_)).symm) (fun y hy=>zht W g5 (.slice C1_ AA.all.length x1_) (.slice C2_ AA.entries.length x2_) (.slice C3_ AA.pruned.length x3_) y hy);have hxe:=zi1 he hg2 (.slice C1_ AA.all.length x1_) (.slice C2_ AA.entries.length x2_) (.slice C3_ AA.pruned.length x3_);have HK2:=zH hfi;have HXE:=zH hxe;clear hK hfin hfi hxe hr h0 h1;go_wp;exact za2 (v:=.bool true) ⟨⟨HK2.out,fun h=>by rw [zb2] at h;cases h⟩,HXE.out⟩
      case hend =>
       intro x W6 st hx1 hK hn f;have h12:st 14=some (x 15):=f.2.2.2.2.2.2.2.2.2.2.2.2.2.2.1;have e11:x 91=I 0:=f.2.2.2.2.2.2.2.2.2.2.2.2.2.1;obtain⟨xs,S,g15,e12,hg2,hrow,⟨J1,j1,J2,j2,J3,j3,rfl,hst⟩,hSg⟩:=hK.1.done h12 (hn 15 (show 15 < 16 by decide) rfl);have HR15:=zH hrow;have HSJ:=zH (hst.mono (S':=fun _=>True) fun _ _ _=>trivial);have HX1:=zH hx1;clear hK hn f hrow hst hSg h12 hx1;simp only [zS,zD,zU,Qa,Qb,zav,Act.put,e12,e11];go_wp;refine HK.out _ _ ?_;clear HK K e12 e11;have HSB:=zH (HSB.out.ext HX1.out);have HQA:=zH (HQA.out.ext (by decide) HX1.out);have HR9:=zH (HR9.out.ext HX1.out);have HR11:=zH (HR11.out.ext HX1.out);have HSD:=zH (HSD.out.ext HX1.out);have HR13:=zH (HR13.out.ext HX1.out);have HSG:=zH (HSG.out.ext HX1.out);have HCB:=zH (fun (X:World) (he:Ext W6 X)=>HCB.out X (HX1.out.trans he));have HXX:=zH (HXX.out.trans HX1.out);clear HX1 hg2 HSC HCC;have HC:=zH (ziv PP HSD.out SMA.out);rw [HPA.out] at HC;obtain⟨k0,k1,k2⟩:=HR11.out.p3;obtain⟨d0,d1,d2,d3⟩:=HR9.out.p4;refine wpH ?_;intro K HK;go_wp2_with fail;refine HC.out.mono ?_;rintro r W7 ⟨u1,u2,u3,rfl,hn,hx1⟩;obtain⟨L1,l1,L2,l2,L3,l3,rfl,rfl,rfl⟩:=hn.fm;obtain⟨W8,hW8⟩:∃ X,W7.alloc (.cells #[.slice L1 AA.all.length l1,.slice L2 AA.entries.length l2,.slice L3 AA.pruned.length l3] 26)=X:=⟨_,rfl⟩
       obtain⟨g17,hg17⟩:∃ g,W7.heap.size=g:=⟨_,rfl⟩
       have hx8:Ext W7 W8:=(by rw [<- hW8];exact (Ext.refl W7).alloc _);have HR17:=zH (show RowIs W8 g17 26 [.slice L1 AA.all.length l1,.slice L2 AA.entries.length l2,.slice L3 AA.pruned.length l3] [] by rw [<- hW8,<- hg17];exact zaf W7 _ _);have HSL:=zH ((hn.mono (S':=fun _=>True) fun _ _ _=>trivial).ext hx8);have HX1:=zH (hx1.trans hx8);have HSB:=zH (HSB.out.ext HX1.out);have HQA:=zH (HQA.out.ext (by decide) HX1.out);have HR9:=zH (HR9.out.ext HX1.out);have HR11:=zH (HR11.out.ext HX1.out);have HSD:=zH (HSD.out.ext HX1.out);have HR13:=zH (HR13.out.ext HX1.out);have HSG:=zH (HSG.out.ext HX1.out);have HR15:=zH (HR15.out.ext HX1.out);have HSJ:=zH (HSJ.out.ext HX1.out);have HCB:=zH (fun (X:World) (he:Ext W8 X)=>HCB.out X (HX1.out.trans he));have HXX:=zH (HXX.out.trans HX1.out);clear HX1 HC k0 k1 k2 d0 d1 d2 d3 hn hx1 hx8;go_wp2_with fail
       (try rw [hg17])
       (try rw [hW8])
       clear hW8 hg17;refine HK.out _ _ ?_;clear HK K;refine wpH ?_;intro K HK;refine wpH ?_;intro K HK;refine zat [fun v _=>v=I 0,fun v _=>v=.bool false,fun v _=>v=.bool false,fun v _=>v=I 0,fun v _=>v=.bool false,fun v _=>v=.bool false,fun v _=>v=.bool false,fun v _=>v=I 0,fun v _=>v=.bool false,fun v _=>v=.bool false,fun v _=>v=.bool false,fun v _=>v=I 0,fun v _=>v=.bool false,fun v _=>v=.bool false,fun v _=>v=.bool false,fun v _=>v=stV (.slice D1 AA.all.length d1) (.slice D2 AA.entries.length d2) (.slice D3 AA.pruned.length d3),fun v _=>v=stV (.slice G1 AA.all.length g1) (.slice G2 AA.entries.length g2) (.slice G3 AA.pruned.length g3),StV AA,fun v _=>v=stV (.slice J1 AA.all.length j1) (.slice J2 AA.entries.length j2) (.slice J3 AA.pruned.length j3),fun v _=>v=.bool true,fun v _=>v=.bool false,fun v _=>v=.bool false,fun v _=>v=.bool false,fun v _=>v=stV (.slice L1 AA.all.length l1) (.slice L2 AA.entries.length l2) (.slice L3 AA.pruned.length l3),fun v _=>v=stV (.slice D1 AA.all.length d1) (.slice D2 AA.entries.length d2) (.slice D3 AA.pruned.length d3),fun v _=>v=.bool true,fun v _=>v=.bool false] rfl (by kernel_rfl) ?hR ?hstep ?hend
       case hR=>simp only [zM];exact⟨kP,kP,kP,kP,kP,kP,kP,kP,kP,kP,kP,kP,kP,kP,kP,kP,kP,fun v _ _ h he=>h.ext he,kP,kP,kP,kP,kP,kP,kP,kP,kP⟩
       case hstep =>
        simp only [zS,zD,Qa,zbj]
        and_intros <;> intro x W he f
        ·have h0:x 12=I 0:=f.1;go_wp;exact sQ
        iterate 2 · have h0:_=_:=f.1;go_wp;exact sQ
        ·have hg:_=_:=f.2.1;have h0:x 14=I 0:=f.1;go_wp;exact sQ
        iterate 2 · have h0:_=_:=f.1;have h1:_=_:=f.2.1;go_wp;exact sQ
        ·have h0:_=_:=f.1;go_wp;exact sQ
        ·have hg:_=_:=f.2.1;have h0:x 16=I 0:=f.1;go_wp;exact sQ
        iterate 2 · have h0:_=_:=f.1;have h1:_=_:=f.2.1;go_wp;exact sQ
        ·have h0:_=_:=f.1;go_wp;exact sQ
        ·have hg:_=_:=f.2.1;have h0:x 18=I 0:=f.1;go_wp;exact sQ
        iterate 2 · have h0:_=_:=f.1;have h1:_=_:=f.2.1;go_wp;exact sQ
        ·have h0:_=_:=f.1;go_wp;exact sQ
        ·have hg:_=_:=f.2.1;have h0:x 11=.pointer (some ⟨g11,0,none⟩):=f.1;obtain⟨q0,q1,q2⟩:=(HR11.out.ext he).p3;go_wp;exact sQ
        ·have hg:_=_:=f.2.1;have h0:x 13=.pointer (some ⟨g13,0,none⟩):=f.1;obtain⟨q0,q1,q2⟩:=(HR13.out.ext he).p3;go_wp;exact sQ
        ·have h0:_=_:=f.1;have h1:_=_:=f.2.1;have hg:_=_:=f.2.2.1;have HC:=zH (zib (HSD.out.ext he) (HSG.out.ext he) SMA.out SMA.out);rw [HOA.out] at HC;clear f;go_wp;refine HC.out.mono ?_;rintro e X ⟨z1,z2,z3,rfl,hn,hx2⟩;dsimp only;go_wp;exact zaa hn.at.sv hx2
        ·have hg:_=_:=f.2.1;have h0:x 15=.pointer (some ⟨g15,0,none⟩):=f.1;obtain⟨q0,q1,q2⟩:=(HR15.out.ext he).p3;go_wp;exact sQ
        ·obtain⟨D0,y0,E0,z0,F0,w0,h0,t0⟩:=f.1;have h1:_=_:=f.2.1;have hg:_=_:=f.2.2.1;have HC:=zH (zlc t0 (HSJ.out.ext he));rw [show zed AA AA=true from sameSt_iff.2 rfl] at HC;clear f t0;go_wp;refine HC.out.mono ?_;rintro r W3 ⟨rfl,hx3⟩;dsimp only;go_wp;exact zaa rfl hx3
        iterate 2 · have h0:_=_:=f.1;have h1:_=_:=f.2.1;go_wp;exact sQ
        ·have h0:_=_:=f.1;go_wp;exact sQ
        ·have hg:_=_:=f.2.1;have h0:x 17=.pointer (some ⟨g17,0,none⟩):=f.1;obtain⟨q0,q1,q2⟩:=(HR17.out.ext he).p3;go_wp;exact sQ
        ·have hg:_=_:=f.2.1;have h0:x 11=.pointer (some ⟨g11,0,none⟩):=f.1;obtain⟨q0,q1,q2⟩:=(HR11.out.ext he).p3;go_wp;exact sQ
        ·have h0:_=_:=f.1;have h1:_=_:=f.2.1;have hg:_=_:=f.2.2.1;have HC:=zH (zlc (HSL.out.ext he) (HSD.out.ext he));rw [show zed AA AA=true from sameSt_iff.2 rfl] at HC;clear f;go_wp;refine HC.out.mono ?_;rintro r W3 ⟨rfl,hx3⟩;dsimp only;go_wp;exact zaa rfl hx3
        ·have h0:_=_:=f.1;have h1:_=_:=f.2.1;go_wp;exact sQ
       case hend =>
        intro x W9 hxz f;have e120:x 120=.bool false:=f.2.2.2.2.2.2.2.2.2.2.2.2.2.2.2.2.2.2.2.2.2.2.1;have e124:x 124=.bool false:=f.2.2.2.2.2.2.2.2.2.2.2.2.2.2.2.2.2.2.2.2.2.2.2.2.2.2.1;clear f;simp only [zS,zD,zU,Qa,Qb,zav,Act.put,e120,e124];go_wp;refine HK.out _ _ ?_;clear HK K;have HSB:=zH (HSB.out.ext hxz);have HQA:=zH (HQA.out.ext (by decide) hxz);have HR9:=zH (HR9.out.ext hxz);have HR11:=zH (HR11.out.ext hxz);have HSD:=zH (HSD.out.ext hxz);have HR13:=zH (HR13.out.ext hxz);have HSG:=zH (HSG.out.ext hxz);have HCB:=zH (fun (X:World) (he:Ext W9 X)=>HCB.out X (hxz.trans he));have HXX:=zH (HXX.out.trans hxz);clear hxz HSJ HR15 HSL HR17;go_wp2_with fail;refine HK.out _ _ ?_;clear HK K;refine wpH ?_;intro K HK;refine zc7 [some fun v=>v=.slice (some ⟨w.heap.size,0,none⟩) 4 4,some fun v=>v=.pointer (some ⟨w.heap.size,10,none⟩),some fun v=>v=.pointer (some ⟨w.heap.size,10,none⟩),some fun v=>v=stV (.slice B1 SS.all.length b1) (.slice B2 SS.entries.length b2) (.slice B3 SS.pruned.length b3),some fun v=>v=.slice Q1 q.s.all.length q1,none,some fun v=>v=prV PP,none,none,none,some fun v=>v=I 0,none,none] (fun st w'=>BoxK W9.heap.size 83 yca (CDb DT JD) tupD agD 7 8 9 11 12 st w'/\(st 12=none->DltK 0 5 DS DS JB st w')) rfl (by kernel_rfl) ?hK ?h0 ?hstep ?hend
        case hK=>exact fun st w w' h he=>⟨h.1.ext CDb.keep he,fun h0=>(h.2 h0).ext he⟩
        case h0=>exact⟨BoxK.start _,fun _ v hv=>(by cases hv)⟩
        case hstep =>
         simp only [zS,zD,Qa,zew,zf6]
         and_intros <;> intro x W st he hK
         ·intro f;have h0:x 3=.slice (some ⟨w.heap.size,0,none⟩) 4 4:=f.1;clear hK;go_wp;exact sQ
         ·intro f;have h0:_=_:=f.1;clear hK;go_wp;exact sQ
         ·intro f;have h0:_=_:=f.1;clear hK;go_wp;exact sQ
         ·intro f;have h0:_=_:=f.1;clear hK;obtain⟨k0,k1,k2⟩:=HCB.out W he;go_wp;exact sQ
         ·intro f;have h0:x 8=.slice Q1 q.s.all.length q1:=f.1;clear hK;go_wp;exact sQ
         ·intro hn f;have h0:_=_:=f.1;have h1:_=_:=f.2.1;have HC:=zH (zod (HSB.out.ext he) (HQA.out.ext (by decide) he) SMS.out (by have:=HQL.out;omega));rw [HDE.out,HJB.out] at HC;have HK2:=zH hK;clear hK f;go_wp;refine HC.out.mono ?_;rintro r X ⟨u0,u1,u2,u3,rfl,hO,hS,hx2⟩;have hO2:=(zbb hO).mono (S':=fun b=>0<=b) (by decide) (fun _ _ _=>Nat.zero_le _);have hS2:=hS.at.mono (S':=fun b=>0<=b) (fun _ _ _=>Nat.zero_le _);obtain⟨E0,y0,rfl,-,-⟩:=hO2.form;obtain⟨E1,y1,E2,y2,E3,y3,rfl,rfl,rfl⟩:=hS2.fm;have HO2:=zH hO2;have HS2:=zH hS2;clear hO hS hO2 hS2;dsimp only;go_wp;exact za2 ⟨⟨(HK2.out.1.ext CDb.keep hx2).other (by decide),fun _ v hv=>by rw [zb2] at hv;cases hv;exact⟨E0,y0,E1,y1,E2,y2,E3,y3,rfl,HO2.out,HS2.out⟩⟩,he.trans hx2⟩
         ·intro f;have h0:x 9=.pointer (some ⟨g9,0,none⟩):=f.1;clear hK;obtain⟨d0,d1,d2,d3⟩:=(HR9.out.ext he).p4;go_wp;exact sQ
         ·intro hn f;have h1:_=_:=f.2.1
          have h12n:st 12=none:=Classical.byContradiction fun hne=>by obtain⟨xs,lo,hi,g,k1,k2,k3,k4,k5⟩:=hK.1;exact (k5 hne).1 hn
          obtain⟨E0,y0,E1,y1,E2,y2,E3,y3,h0,hO2,hS2⟩:=hK.2 h12n (x 132) f.1;have HC:=zH (zvu PP hS2 hO2 SM2.out (Qc HLJ.out (by decide)));rw [HOD.out] at HC;have HK2:=zH hK;clear hK f hO2 hS2;go_wp;refine HC.out.mono ?_;rintro r X ⟨u0,u1,u2,u3,rfl,hn2,hm2,hx2⟩;obtain⟨C0_,x0_,rfl,-,-⟩:=hm2.form;obtain⟨C1_,x1_,C2_,x2_,C3_,x3_,rfl,rfl,rfl⟩:=hn2.fm;have HN:=zH hn2;have HM:=zH hm2;clear hn2 hm2;dsimp only;go_wp;exact za2 ⟨⟨HK2.out.1.call (xs:=[.slice C0_ JD.length x0_,.slice C1_ DT.all.length x1_,.slice C2_ DT.entries.length x2_,.slice C3_ DT.pruned.length x3_]) (by decide) hn hx2 he.size ⟨C0_,x0_,C1_,x1_,C2_,x2_,C3_,x3_,rfl,HM.out.mono (by decide) fun b hb h=>⟨h,hb⟩,HN.out.mono fun b hb h=>⟨h,hb⟩⟩,fun h=>((HK2.out.2 (by rwa [zah st _ (by decide)] at h)).ext hx2).other (by decide)⟩,he.trans hx2⟩
         ·intro hn f;have h0:st 7=some (x 134):=f.1;have HK2:=zH (hK.1.move (by decide) h0);have HKD:=zH hK.2;clear hK;go_wp;exact za2 ⟨⟨HK2.out,fun h=>(HKD.out (by rwa [zah st _ (by decide)] at h)).other (by decide)⟩,he⟩
         ·intro hn f;have h0:st 8=some (x 126):=f.1;obtain⟨xs,S,hv,⟨C0_,x0_,C1_,x1_,C2_,x2_,C3_,x3_,rfl,-⟩,hK2⟩:=hK.1.part (by decide) h0;have HK2:=zH hK2;have HKD:=zH hK.2;clear hK hK2;go_wp;exact za2 ⟨⟨HK2.out,fun h=>(HKD.out (by rwa [zah st _ (by decide)] at h)).other (by decide)⟩,he⟩
         ·intro f;have h0:st 8=some (x 126):=f.1;obtain⟨xs,S,hv,⟨C0_,x0_,C1_,x1_,C2_,x2_,C3_,x3_,rfl,-⟩,hK2⟩:=hK.1.part (by decide) h0;have HK2:=zH hK2;have HKD:=zH hK.2;clear hK hK2;go_wp;exact sQ
         ·intro hn f;have HK2:=zH hK;clear hK;go_wp;exact za2 ⟨⟨HK2.out.1.alloc CDb.keep (by decide) hn he.size,fun h=>((HK2.out.2 (by rwa [zah st _ (by decide)] at h)).ext ((Ext.refl _).alloc _)).other (by decide)⟩,he.alloc _⟩
         ·intro hn f;have h0:st 11=some (x 19):=f.1;have h1:st 9=some (x 135):=f.2.1;obtain⟨xs,S,g5,hv,hp2,hg2,hr,⟨C0_,x0_,C1_,x1_,C2_,x2_,C3_,x3_,rfl,-⟩,hfin⟩:=hK.1.store CDb.keep (by decide) h1 h0 hn;obtain⟨r0,r1,r2,r3⟩:=hr.p4;obtain⟨y0,y1,y2,y3⟩:=hr.q4;have hfi:=hfin ((((W.setCell ⟨g5,0,none⟩ (.slice C0_ JD.length x0_)).setCell ⟨g5,1,none⟩ (.slice C1_ DT.all.length x1_)).setCell ⟨g5,2,none⟩ (.slice C2_ DT.entries.length x2_)).setCell ⟨g5,3,none⟩ (.slice C3_ DT.pruned.length x3_)) (.bool true) (zym hr) (Qd (ydp W g5 (.slice C0_ JD.length x0_) (.slice C1_ DT.all.length x1_) (.slice C2_ DT.entries.length x2_) (.slice C3_ DT.pruned.length x3_)).symm) (fun y hy=>zvv W g5 (.slice C0_ JD.length x0_) (.slice C1_ DT.all.length x1_) (.slice C2_ DT.entries.length x2_) (.slice C3_ DT.pruned.length x3_) y hy);have hxe:=zyl he hg2 (.slice C0_ JD.length x0_) (.slice C1_ DT.all.length x1_) (.slice C2_ DT.entries.length x2_) (.slice C3_ DT.pruned.length x3_);have HK2:=zH hfi;have HXE:=zH hxe;clear hK hfin hfi hxe hr h0 h1;go_wp;exact za2 (v:=.bool true) ⟨⟨HK2.out,fun h=>by rw [zb2] at h;cases h⟩,HXE.out⟩
        case hend =>
         intro x W10 st hx1 hK hn f;have h12:st 11=some (x 19):=f.2.2.2.2.2.2.2.2.2.2.2.1;have e11:x 136=I 0:=f.2.2.2.2.2.2.2.2.2.2.1;obtain⟨xs,S,g19,e12,hg2,hrow,⟨M0,m0,M1,m1,M2,m2,M3,m3,rfl,hsl,hst⟩,hSg⟩:=hK.1.done h12 (hn 12 (show 12 < 13 by decide) rfl);have HR19:=zH hrow;have HSM:=zH (hst.mono (S':=fun _=>True) fun _ _ _=>trivial);have HBD:=zH (hsl.mono (S':=fun _=>True) (by decide) fun _ _ _=>trivial);clear hsl;have HX1:=zH hx1;clear hK hn f hrow hst hSg h12 hx1;simp only [zS,zD,zU,Qa,Qb,zav,Act.put,e12,e11];go_wp;refine HK.out _ _ ?_;clear HK K e12 e11;have HR9:=zH (HR9.out.ext HX1.out);have HR11:=zH (HR11.out.ext HX1.out);have HSD:=zH (HSD.out.ext HX1.out);have HR13:=zH (HR13.out.ext HX1.out);have HSG:=zH (HSG.out.ext HX1.out);have HXX:=zH (HXX.out.trans HX1.out);clear HX1 hg2 HSB HCB HQA;have HC:=zH (zu7 HSG.out HSM.out HBD.out SMA.out SM3.out (Qc HLD.out (by decide)));rw [HOP.out] at HC;obtain⟨k0,k1,k2⟩:=HR13.out.p3;obtain⟨d0,d1,d2,d3⟩:=HR19.out.p4;refine wpH ?_;intro K HK;go_wp2_with fail;refine HC.out.mono ?_;rintro r W11 ⟨u1,u2,u3,rfl,hn,hx1⟩;obtain⟨N1,n1,N2,n2,N3,n3,rfl,rfl,rfl⟩:=hn.fm;obtain⟨W12,hW12⟩:∃ X,W11.alloc (.cells #[.slice N1 AA.all.length n1,.slice N2 AA.entries.length n2,.slice N3 AA.pruned.length n3] 26)=X:=⟨_,rfl⟩
         obtain⟨g21,hg21⟩:∃ g,W11.heap.size=g:=⟨_,rfl⟩
         have hx8:Ext W11 W12:=(by rw [<- hW12];exact (Ext.refl W11).alloc _);have HR21:=zH (show RowIs W12 g21 26 [.slice N1 AA.all.length n1,.slice N2 AA.entries.length n2,.slice N3 AA.pruned.length n3] [] by rw [<- hW12,<- hg21];exact zaf W11 _ _);have HSN:=zH ((hn.mono (S':=fun _=>True) fun _ _ _=>trivial).ext hx8);have HX1:=zH (hx1.trans hx8);have HR11:=zH (HR11.out.ext HX1.out);have HSD:=zH (HSD.out.ext HX1.out);have HR13:=zH (HR13.out.ext HX1.out);have HSG:=zH (HSG.out.ext HX1.out);have HXX:=zH (HXX.out.trans HX1.out);clear HX1 HC k0 k1 k2 d0 d1 d2 d3 hn hx1 hx8 HR9 HR19;go_wp2_with fail
         (try rw [hg21])
         (try rw [hW12])
         clear hW12 hg21;refine HK.out _ _ ?_;clear HK K;refine wpH ?_;intro K HK;refine zat [fun v _=>v=I 0,fun v _=>v=.bool true,fun v _=>v=.bool true,fun v _=>v=I 0,fun v _=>v=.bool true,fun v _=>v=.bool true,fun v _=>v=.bool true,fun v _=>v=stV (.slice N1 AA.all.length n1) (.slice N2 AA.entries.length n2) (.slice N3 AA.pruned.length n3),fun v _=>v=stV (.slice G1 AA.all.length g1) (.slice G2 AA.entries.length g2) (.slice G3 AA.pruned.length g3),fun v _=>v=stV (.slice D1 AA.all.length d1) (.slice D2 AA.entries.length d2) (.slice D3 AA.pruned.length d3),StV AA,fun v _=>v=.bool true,fun v _=>v=.bool true,fun v _=>v=.bool true,fun v _=>v=.bool true,fun v _=>v=.bool true] rfl (by kernel_rfl) ?hR ?hstep ?hend
         case hR=>simp only [zM];exact⟨kP,kP,kP,kP,kP,kP,kP,kP,kP,kP,fun v _ _ h he=>h.ext he,kP,kP,kP,kP,kP⟩
         case hstep =>
          simp only [zS,zD,Qa,zbj]
          and_intros <;> intro x W he f
          ·have h0:x 20=I 0:=f.1;go_wp;exact sQ
          iterate 2 · have h0:_=_:=f.1;go_wp;exact sQ
          ·have hg:_=_:=f.2.1;have h0:x 22=I 0:=f.1;go_wp;exact sQ
          iterate 2 · have h0:_=_:=f.1;have h1:_=_:=f.2.1;go_wp;exact sQ
          ·have h0:_=_:=f.1;go_wp;exact sQ
          ·have hg:_=_:=f.2.1;have h0:x 21=.pointer (some ⟨g21,0,none⟩):=f.1;obtain⟨q0,q1,q2⟩:=(HR21.out.ext he).p3;go_wp;exact sQ
          ·have hg:_=_:=f.2.1;have h0:x 13=.pointer (some ⟨g13,0,none⟩):=f.1;obtain⟨q0,q1,q2⟩:=(HR13.out.ext he).p3;go_wp;exact sQ
          ·have hg:_=_:=f.2.1;have h0:x 11=.pointer (some ⟨g11,0,none⟩):=f.1;obtain⟨q0,q1,q2⟩:=(HR11.out.ext he).p3;go_wp;exact sQ
          ·have h0:_=_:=f.1;have h1:_=_:=f.2.1;have hg:_=_:=f.2.2.1;have HC:=zH (zib (HSG.out.ext he) (HSD.out.ext he) SMA.out SMA.out);rw [HOA.out] at HC;clear f;go_wp;refine HC.out.mono ?_;rintro e X ⟨z1,z2,z3,rfl,hn,hx2⟩;dsimp only;go_wp;exact zaa hn.at.sv hx2
          ·have h0:_=_:=f.1;obtain⟨D1,y1,E1,z1,F1,w1,h1,t1⟩:=f.2.1;have hg:_=_:=f.2.2.1;have HC:=zH (zlc (HSN.out.ext he) t1);rw [show zed AA AA=true from sameSt_iff.2 rfl] at HC;clear f t1;go_wp;refine HC.out.mono ?_;rintro r W3 ⟨rfl,hx3⟩;dsimp only;go_wp;exact zaa rfl hx3
          ·have h0:_=_:=f.1;have h1:_=_:=f.2.1;go_wp;exact sQ
          ·have h0:_=_:=f.1;go_wp;exact sQ
          ·have hg:_=_:=f.1;go_wp;refine (zm6 _).mono ?_;rintro r W3 ⟨rfl,hx3⟩;dsimp only;go_wp;exact zaa rfl hx3
          ·have h0:_=_:=f.1;have h1:_=_:=f.2.1;go_wp;exact sQ
         case hend=>intro x Wz hxz f;have e158:x 158=.bool true:=f.2.2.2.2.2.2.2.2.2.2.2.2.2.2.2.1;clear f;simp only [zS,zD,zU,Qa,Qb,zav,Act.put,e158];go_wp2_with fail;refine HK.out _ _ ?_;clear HK K;go_wp2_with fail;go_ret;exact⟨rfl,HXX.out.trans hxz⟩
end
end Go.Proofs.YtaabaflgeljbjaaGreat
