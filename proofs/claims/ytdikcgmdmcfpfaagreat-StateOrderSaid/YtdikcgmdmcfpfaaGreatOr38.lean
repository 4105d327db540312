/- gossamerlaw16.StateOrder: the walk. Printed by gen_order.py. -/
import Derived.Test.YtdikcgmdmcfpfaaGreatOr36
import Derived.Test.YtdikcgmdmcfpfaaGreatOr26
import Derived.Test.YtdikcgmdmcfpfaaGreatOr05
import Derived.Test.YtdikcgmdmcfpfaaGreatOr25
import Derived.Test.YtdikcgmdmcfpfaaGreatOr37
set_option linter.unusedVariables false
set_option linter.unusedSimpArgs false
set_option maxRecDepth 100000
set_option maxHeartbeats 4000000
namespace Go.Proofs.YtdikcgmdmcfpfaaGreat
section
open Go.RowKit Go.Shelf
theorem ztk {S:Nat→Prop} {l:List Deed} {vl:Value} {w:World} (hl:Sl zm5 w S vl l) (hd:∀ d ∈ l,DeedOk d) :
  Calls Tryz.prog 5 #[vl] w fun r w'=>r=.returned (.bool true)∧Ext w w':=by
 obtain⟨A,c,rfl,-,-⟩:=hl.form
 have HL:=zH hl
 have HD:=zH hd
 clear hl hd
 go_enter Tryz.func5,Tryz.ntmps5
 by_cases h50:50 < l.length
 ·have q1:decide ((50:Int) < (l.length:Int))=true:=decide_eq_true (by omega)
  have q2:(l.length:Int) > 50:=by omega
  clear h50
  go_wp2_with fail
  refine (zos _).mono ?_
  rintro r Z ⟨rfl,hxz⟩
  go_wp2_with fail
  go_ret
  exact⟨rfl,hxz⟩
 ·have q1:decide ((50:Int) < (l.length:Int))=false:=decide_eq_false (by omega)
  have q2:¬ (l.length:Int) > 50:=by omega
  have h51:l.length≤50:=Nat.not_lt.1 h50
  clear h50
  have hmk:∀ W:World,(Instr.makeSlice 46 (.int .i64 3) (.int .i64 3)).run Tryz.prog W=.ok (.slice (some ⟨W.heap.size,0,none⟩) 3 3) (W.alloc (.cells #[.slice none 0 0,.slice none 0 0,.slice none 0 0,.slice none 0 0,.slice none 0 0,.slice none 0 0,.slice none 0 0,.slice none 0 0,.slice none 0 0,.slice none 0 0,.slice none 0 0,.slice none 0 0,.slice none 0 0,.slice none 0 0,.slice none 0 0] 58)):=fun W=>by kernel_rfl
  have HM0:Hid (Mem (w.alloc (.cells #[.slice none 0 0,.slice none 0 0,.slice none 0 0,.slice none 0 0,.slice none 0 0,.slice none 0 0,.slice none 0 0,.slice none 0 0,.slice none 0 0,.slice none 0 0,.slice none 0 0,.slice none 0 0,.slice none 0 0,.slice none 0 0,.slice none 0 0] 58)) w.heap.size w.heap.size (List.replicate 3 zth) (List.replicate 3 rep0) (.slice none 0 0) []):=zH (Mem.zero (zai w 58 [.slice none 0 0,.slice none 0 0,.slice none 0 0,.slice none 0 0,.slice none 0 0,.slice none 0 0,.slice none 0 0,.slice none 0 0,.slice none 0 0,.slice none 0 0,.slice none 0 0,.slice none 0 0,.slice none 0 0,.slice none 0 0,.slice none 0 0]) (Nat.le_refl _))
  go_wp2_with fail
  clear hmk q1 q2
  go_loopw [4,5] (fun va i wr=>∃ (pre post:List Deed) (E:List Ev) (rs:List Rep) (vs:List RepV),l=pre++post∧i=I pre.length∧RepsOk E 3 rs∧E.length≤pre.length∧Mem wr w.heap.size w.heap.size vs rs va E∧Ext w wr) (fun _ i _=>l.length - (intOf i).toNat)
  case atStart=>exact⟨[],l,[],_,_,rfl,rfl,RepsOk.zero (by decide),Nat.le_refl _,HM0.out,(Ext.refl w).alloc _⟩
  case round =>
   obtain⟨pre,post,E,rs,vs,hl,rfl,hrep,hel,hm,hx⟩:=hrel
   have HREP:=zH hrep
   have HM:=zH hm
   have HX:=zH hx
   cases post with
   | cons m post =>
    have hlt:pre.length < l.length:=by rw [hl];simp
    obtain⟨b,of,hA,e0,e1,e2,e3,e4,e5,e6⟩:=zyz HL.out hx hl
    subst hA
    have HLL:=zH hl
    have HMD:=zH (HD.out m (by rw [hl];simp))
    have HEL:=zH hel
    have he2:E.length < 200:=by omega
    have HC:=zH (zx1 (n:=3) HMD.out HM.out HREP.out (by decide) he2)
    have HRD:=zH (HREP.out.does (by decide) he2 HMD.out)
    clear hl hrep hm hx hel
    go_wp2_with fail
    refine HC.out.mono ?_
    rintro r W2 ⟨va2,vs2,rfl,hm2,hb2⟩
    have HM2:=zH hm2
    have HB2:=zH hb2
    clear hm2 hb2 HC
    go_wp2_with fail
    go_roundw
    case rel=>exact⟨pre++[m],post,_,_,vs2,by rw [HLL.out];simp,by simp,HRD.out,by have h1:=zxs E rs m;have h2:=HEL.out;simp;omega,HM2.out,Below.trans HX.out HB2.out⟩
    case measure=>simp [intOf];omega
   | nil =>
    rw [List.append_nil] at hl
    subst hl
    have hrl:=hrep.len
    have hvl:=hm.len
    rw [hrl] at hvl
    obtain⟨ra,rb,rc,rfl⟩:=ztj hrl
    obtain⟨va0,vb0,vc0,rfl⟩:=ztj hvl
    clear hrl hvl hel
    obtain⟨⟨sa,ea,pa⟩,ka,qa⟩:=ra
    obtain⟨xa1,xa2,xa3,xa4,xa5⟩:=va0
    have hsa:=(hm.rep 0 _ _ rfl rfl).st
    obtain⟨Aa1,na1,rfl,-,-⟩:=hsa.all.form
    obtain⟨Aa2,na2,rfl,-,-⟩:=hsa.entries.form
    obtain⟨Aa3,na3,rfl,-,-⟩:=hsa.pruned.form
    have HSa:=zH (hsa.mono (S':=fun _=>True) fun _ _ _=>trivial)
    have HIa:=zH (hrep.each 0 _ rfl).is
    have HVa:=zH ((hrep.each 0 _ rfl).vec hrep.few hrep.hist.most)
    obtain⟨⟨sb,eb,pb⟩,kb,qb⟩:=rb
    obtain⟨xb1,xb2,xb3,xb4,xb5⟩:=vb0
    have hsb:=(hm.rep 1 _ _ rfl rfl).st
    obtain⟨Ab1,nb1,rfl,-,-⟩:=hsb.all.form
    obtain⟨Ab2,nb2,rfl,-,-⟩:=hsb.entries.form
    obtain⟨Ab3,nb3,rfl,-,-⟩:=hsb.pruned.form
    have HSb:=zH (hsb.mono (S':=fun _=>True) fun _ _ _=>trivial)
    have HIb:=zH (hrep.each 1 _ rfl).is
    have HVb:=zH ((hrep.each 1 _ rfl).vec hrep.few hrep.hist.most)
    obtain⟨⟨sc,ec,pc⟩,kc,qc⟩:=rc
    obtain⟨xc1,xc2,xc3,xc4,xc5⟩:=vc0
    have hsc:=(hm.rep 2 _ _ rfl rfl).st
    obtain⟨Ac1,nc1,rfl,-,-⟩:=hsc.all.form
    obtain⟨Ac2,nc2,rfl,-,-⟩:=hsc.entries.form
    obtain⟨Ac3,nc3,rfl,-,-⟩:=hsc.pruned.form
    have HSc:=zH (hsc.mono (S':=fun _=>True) fun _ _ _=>trivial)
    have HIc:=zH (hrep.each 2 _ rfl).is
    have HVc:=zH ((hrep.each 2 _ rfl).vec hrep.few hrep.hist.most)
    have HRC:=zH (fun (X:World) (he:Ext wr X)=>(show X.cell? ⟨w.heap.size,0,none⟩=some (.slice Aa1 sa.length na1)∧X.cell? ⟨w.heap.size,1,none⟩=some (.slice Aa2 ea.length na2)∧X.cell? ⟨w.heap.size,2,none⟩=some (.slice Aa3 pa.length na3)∧X.cell? ⟨w.heap.size,5,none⟩=some (.slice Ab1 sb.length nb1)∧X.cell? ⟨w.heap.size,6,none⟩=some (.slice Ab2 eb.length nb2)∧X.cell? ⟨w.heap.size,7,none⟩=some (.slice Ab3 pb.length nb3)∧X.cell? ⟨w.heap.size,10,none⟩=some (.slice Ac1 sc.length nc1)∧X.cell? ⟨w.heap.size,11,none⟩=some (.slice Ac2 ec.length nc2)∧X.cell? ⟨w.heap.size,12,none⟩=some (.slice Ac3 pc.length nc3) from ⟨he.cell (hm.cell (k:=0) (j:=0) rfl rfl),he.cell (hm.cell (k:=0) (j:=1) rfl rfl),he.cell (hm.cell (k:=0) (j:=2) rfl rfl),he.cell (hm.cell (k:=1) (j:=0) rfl rfl),he.cell (hm.cell (k:=1) (j:=1) rfl rfl),he.cell (hm.cell (k:=1) (j:=2) rfl rfl),he.cell (hm.cell (k:=2) (j:=0) rfl rfl),he.cell (hm.cell (k:=2) (j:=1) rfl rfl),he.cell (hm.cell (k:=2) (j:=2) rfl rfl)⟩))
    have HH:=zH hrep.hist
    have SMa:=zH ((HIa.out.lim HH.out HVa.out).small (n:=400) (by decide))
    have SMb:=zH ((HIb.out.lim HH.out HVb.out).small (n:=400) (by decide))
    have SMc:=zH ((HIc.out.lim HH.out HVc.out).small (n:=400) (by decide))
    have HJC:=zH (zvw HH.out.toHist HIb.out HIa.out)
    have HJA:=zH (zs4 HH.out.toHist HIa.out HIb.out HIc.out)
    have HJG:=zH (zs5 HH.out.toHist HIa.out HIb.out)
    have HIj:=zH (HIa.out.join0 HH.out.toHist HIb.out)
    have HIbc:=zH (HIb.out.join0 HH.out.toHist HIc.out)
    have HVj:=zH (HVa.out.join HVb.out)
    have HVbc:=zH (HVb.out.join HVc.out)
    have HAP:=zH (zlo HH.out.toHist HIa.out HIb.out (base:=sa) fun p=>Nat.le_refl _)
    have HNO:=zH (zs6 HH.out.toHist HIa.out ⟨sb,eb,pb⟩)
    have SMj:=zH ((HIj.out.lim HH.out HVj.out).small (n:=400) (by decide))
    have SMbc:=zH ((HIbc.out.lim HH.out HVbc.out).small (n:=400) (by decide))
    have HLb:=zH (HIb.out.lim HH.out HVb.out)
    have HLa:=zH (HIa.out.lim HH.out HVa.out)
    have HLj:=zH (HIj.out.lim HH.out HVj.out)
    obtain⟨⟨sj,ej,pj⟩,hj⟩:∃ x,zba ⟨sa,ea,pa⟩ ⟨sb,eb,pb⟩=x:=⟨_,rfl⟩
    rw [hj] at HJC HJA HJG HAP HNO SMj HLj
    obtain⟨sbc,hbc⟩:∃ x,zba ⟨sb,eb,pb⟩ ⟨sc,ec,pc⟩=x:=⟨_,rfl⟩
    rw [hbc] at HJA SMbc
    obtain⟨sm,hsm⟩:∃ x,zba ⟨sa,ea,pa⟩ sbc=x:=⟨_,rfl⟩
    rw [hsm] at HJA
    have HJ:=zH hj
    have HBC:=zH hbc
    have HSMM:=zH hsm
    clear hj hbc hsm
    clear hsa hsb hsc hrep hm
    have HX:=zH hx
    clear hx
    go_wp2_with fail
    rename_i K hK
    have HK:=zH hK
    clear hK
    refine zd9 [some fun v=>v=.slice (some ⟨w.heap.size,0,none⟩) 3 3,some fun v=>v=.pointer (some ⟨w.heap.size,0,none⟩),some fun v=>v=.pointer (some ⟨w.heap.size,0,none⟩),some fun v=>v=stV (.slice Aa1 sa.length na1) (.slice Aa2 ea.length na2) (.slice Aa3 pa.length na3),some fun v=>v=.slice (some ⟨w.heap.size,0,none⟩) 3 3,some fun v=>v=.pointer (some ⟨w.heap.size,5,none⟩),some fun v=>v=.pointer (some ⟨w.heap.size,5,none⟩),some fun v=>v=stV (.slice Ab1 sb.length nb1) (.slice Ab2 eb.length nb2) (.slice Ab3 pb.length nb3),some fun v=>v=.slice (some ⟨w.heap.size,0,none⟩) 3 3,some fun v=>v=.pointer (some ⟨w.heap.size,10,none⟩),some fun v=>v=.pointer (some ⟨w.heap.size,10,none⟩),some fun v=>v=stV (.slice Ac1 sc.length nc1) (.slice Ac2 ec.length nc2) (.slice Ac3 pc.length nc3),none,none,none,none,none] (fun st W=>Box3 wr.heap.size 30 zo7 (fun i=>[[.slice Aa1 sa.length na1,.slice Aa2 ea.length na2,.slice Aa3 pa.length na3],[.slice Ab1 sb.length nb1,.slice Ab2 eb.length nb2,.slice Ab3 pb.length nb3],[.slice Ac1 sc.length nc1,.slice Ac2 ec.length nc2,.slice Ac3 pc.length nc3]].getD i []) 12 st W∧st 17=none) rfl (by kernel_rfl) ?hK ?h0 ?hstep ?hend
    case hK=>exact fun st w w' h he=>⟨h.1.ext he,h.2⟩
    case h0=>exact⟨Box3.start _,rfl⟩
    case hstep =>
     simp only [List.length_cons,List.length_nil,Nat.reduceAdd,List.take_succ_cons,List.take_zero,ze8,zgp,and_true]
     refine ⟨?_,?_,?_,?_,?_,?_,?_,?_,?_,?_,?_,?_,?_,?_,?_,?_,?_⟩
     ·intro x W st he hK f
      have h0:x 3=.slice (some ⟨w.heap.size,0,none⟩) 3 3:=f.1
      clear hK
      go_wp
      exact sQ
     ·intro x W st he hK f
      have h0:x 38=.slice (some ⟨w.heap.size,0,none⟩) 3 3:=f.1
      clear hK
      go_wp
      exact sQ
     ·intro x W st he hK f
      have h0:x 39=.pointer (some ⟨w.heap.size,0,none⟩):=f.1
      clear hK
      go_wp
      exact sQ
     ·intro x W st he hK f
      have h0:x 40=.pointer (some ⟨w.heap.size,0,none⟩):=f.1
      clear hK
      obtain⟨ca0,ca1,ca2,cb0,cb1,cb2,cc0,cc1,cc2⟩:=HRC.out W he
      go_wp
      exact sQ
     ·intro x W st he hK f
      have h0:x 3=.slice (some ⟨w.heap.size,0,none⟩) 3 3:=f.1
      clear hK
      go_wp
      exact sQ
     ·intro x W st he hK f
      have h0:x 42=.slice (some ⟨w.heap.size,0,none⟩) 3 3:=f.1
      clear hK
      go_wp
      exact sQ
     ·intro x W st he hK f
      have h0:x 43=.pointer (some ⟨w.heap.size,5,none⟩):=f.1
      clear hK
      go_wp
      exact sQ
     ·intro x W st he hK f
      have h0:x 44=.pointer (some ⟨w.heap.size,5,none⟩):=f.1
      clear hK
      obtain⟨ca0,ca1,ca2,cb0,cb1,cb2,cc0,cc1,cc2⟩:=HRC.out W he
      go_wp
      exact sQ
     ·intro x W st he hK f
      have h0:x 3=.slice (some ⟨w.heap.size,0,none⟩) 3 3:=f.1
      clear hK
      go_wp
      exact sQ
     ·intro x W st he hK f
      have h0:x 46=.slice (some ⟨w.heap.size,0,none⟩) 3 3:=f.1
      clear hK
      go_wp
      exact sQ
     ·intro x W st he hK f
      have h0:x 47=.pointer (some ⟨w.heap.size,10,none⟩):=f.1
      clear hK
      go_wp
      exact sQ
     ·intro x W st he hK f
      have h0:x 48=.pointer (some ⟨w.heap.size,10,none⟩):=f.1
      clear hK
      obtain⟨ca0,ca1,ca2,cb0,cb1,cb2,cc0,cc1,cc2⟩:=HRC.out W he
      go_wp
      exact sQ
     ·intro x W st he hK hn f
      have HK2:=zH hK
      clear hK
      go_wp
      exact zbi ⟨⟨HK2.out.1.alloc (k:=0) (by decide) hn he.size,by rw [zae st _ (by decide)];exact HK2.out.2⟩,he.alloc _⟩
     ·intro x W st he hK hn f
      have HK2:=zH hK
      clear hK
      go_wp
      exact zbi ⟨⟨HK2.out.1.alloc (k:=1) (by decide) hn he.size,by rw [zae st _ (by decide)];exact HK2.out.2⟩,he.alloc _⟩
     ·intro x W st he hK hn f
      have HK2:=zH hK
      clear hK
      go_wp
      exact zbi ⟨⟨HK2.out.1.alloc (k:=2) (by decide) hn he.size,by rw [zae st _ (by decide)];exact HK2.out.2⟩,he.alloc _⟩
     ·intro x W st he hK hn f
      have h0:st 12=some (x 8):=f.1
      have h1:x 41=stV (.slice Aa1 sa.length na1) (.slice Aa2 ea.length na2) (.slice Aa3 pa.length na3):=f.2.1
      obtain⟨g2,hp,hg2,hr,hfin⟩:=hK.1.store (k:=0) (by decide) h0 hn
      obtain⟨r0,r1,r2⟩:=hr.p3
      obtain⟨y0,y1,y2⟩:=hr.q3
      have hfi:=hfin (((W.setCell ⟨g2,0,none⟩ (.slice Aa1 sa.length na1)).setCell ⟨g2,1,none⟩ (.slice Aa2 ea.length na2)).setCell ⟨g2,2,none⟩ (.slice Aa3 pa.length na3)) (.bool true) (zhq hr) (Nat.le_of_eq (zh9 W g2 (.slice Aa1 sa.length na1) (.slice Aa2 ea.length na2) (.slice Aa3 pa.length na3)).symm) (fun y hy=>zh8 W g2 (.slice Aa1 sa.length na1) (.slice Aa2 ea.length na2) (.slice Aa3 pa.length na3) y hy)
      have hxe:=zhr he hg2 (.slice Aa1 sa.length na1) (.slice Aa2 ea.length na2) (.slice Aa3 pa.length na3)
      have HK2:=zH hfi
      have H17:=zH hK.2
      have HXE:=zH hxe
      clear hK hfin hfi hxe hr h0
      go_wp
      exact zbi (v:=.bool true) ⟨⟨HK2.out,by rw [zae st _ (by decide)];exact H17.out⟩,HXE.out⟩
     ·intro x W st he hK hn f
      have h0:st 13=some (x 9):=f.1
      have h1:x 45=stV (.slice Ab1 sb.length nb1) (.slice Ab2 eb.length nb2) (.slice Ab3 pb.length nb3):=f.2.1
      obtain⟨g2,hp,hg2,hr,hfin⟩:=hK.1.store (k:=1) (by decide) h0 hn
      obtain⟨r0,r1,r2⟩:=hr.p3
      obtain⟨y0,y1,y2⟩:=hr.q3
      have hfi:=hfin (((W.setCell ⟨g2,0,none⟩ (.slice Ab1 sb.length nb1)).setCell ⟨g2,1,none⟩ (.slice Ab2 eb.length nb2)).setCell ⟨g2,2,none⟩ (.slice Ab3 pb.length nb3)) (.bool true) (zhq hr) (Nat.le_of_eq (zh9 W g2 (.slice Ab1 sb.length nb1) (.slice Ab2 eb.length nb2) (.slice Ab3 pb.length nb3)).symm) (fun y hy=>zh8 W g2 (.slice Ab1 sb.length nb1) (.slice Ab2 eb.length nb2) (.slice Ab3 pb.length nb3) y hy)
      have hxe:=zhr he hg2 (.slice Ab1 sb.length nb1) (.slice Ab2 eb.length nb2) (.slice Ab3 pb.length nb3)
      have HK2:=zH hfi
      have H17:=zH hK.2
      have HXE:=zH hxe
      clear hK hfin hfi hxe hr h0
      go_wp
      exact zbi (v:=.bool true) ⟨⟨HK2.out,by rw [zae st _ (by decide)];exact H17.out⟩,HXE.out⟩
    case hend =>
     intro x W8 st hx1 hK hn f
     have h8:st 12=some (x 8):=f.2.2.2.2.2.2.2.2.2.2.2.2.1
     have h9:st 13=some (x 9):=f.2.2.2.2.2.2.2.2.2.2.2.2.2.1
     have h10:st 14=some (x 10):=f.2.2.2.2.2.2.2.2.2.2.2.2.2.2.1
     have h49:x 49=stV (.slice Ac1 sc.length nc1) (.slice Ac2 ec.length nc2) (.slice Ac3 pc.length nc3):=f.2.2.2.2.2.2.2.2.2.2.2.1
     obtain⟨g0,g1,g2,e8,e9,e10,hr0,hr1,hr2,d1,d2,hN⟩:=hK.1.done h8 h9 h10 (hn 15 (show 15 < 17 by decide) rfl) (hn 16 (show 16 < 17 by decide) rfl) hK.2
     have k0:RowIs (((W8.setCell ⟨g2,0,none⟩ (.slice Ac1 sc.length nc1)).setCell ⟨g2,1,none⟩ (.slice Ac2 ec.length nc2)).setCell ⟨g2,2,none⟩ (.slice Ac3 pc.length nc3)) g0 30 [.slice Aa1 sa.length na1,.slice Aa2 ea.length na2,.slice Aa3 pa.length na3] []:=((hr0.other d1 _).other d1 _).other d1 _
     have k1:RowIs (((W8.setCell ⟨g2,0,none⟩ (.slice Ac1 sc.length nc1)).setCell ⟨g2,1,none⟩ (.slice Ac2 ec.length nc2)).setCell ⟨g2,2,none⟩ (.slice Ac3 pc.length nc3)) g1 30 [.slice Ab1 sb.length nb1,.slice Ab2 eb.length nb2,.slice Ab3 pb.length nb3] []:=((hr1.other d2 _).other d2 _).other d2 _
     have k2:RowIs (((W8.setCell ⟨g2,0,none⟩ (.slice Ac1 sc.length nc1)).setCell ⟨g2,1,none⟩ (.slice Ac2 ec.length nc2)).setCell ⟨g2,2,none⟩ (.slice Ac3 pc.length nc3)) g2 30 [.slice Ac1 sc.length nc1,.slice Ac2 ec.length nc2,.slice Ac3 pc.length nc3] []:=zhq hr2
     have kx:Ext wr (((W8.setCell ⟨g2,0,none⟩ (.slice Ac1 sc.length nc1)).setCell ⟨g2,1,none⟩ (.slice Ac2 ec.length nc2)).setCell ⟨g2,2,none⟩ (.slice Ac3 pc.length nc3)):=zhr hx1 hN (.slice Ac1 sc.length nc1) (.slice Ac2 ec.length nc2) (.slice Ac3 pc.length nc3)
     obtain⟨r0,r1,r2⟩:=hr2.p3
     obtain⟨y0,y1,y2⟩:=hr2.q3
     obtain⟨W9,hW9⟩:∃ X,(((W8.setCell ⟨g2,0,none⟩ (.slice Ac1 sc.length nc1)).setCell ⟨g2,1,none⟩ (.slice Ac2 ec.length nc2)).setCell ⟨g2,2,none⟩ (.slice Ac3 pc.length nc3))=X:=⟨_,rfl⟩
     rw [hW9] at k0 k1 k2 kx
     have R0:=zH k0
     have R1:=zH k1
     have R2:=zH k2
     have HW9:=zH hW9
     have HSa:=zH (HSa.out.ext kx)
     have HSb:=zH (HSb.out.ext kx)
     have HSc:=zH (HSc.out.ext kx)
     have HX:=zH (HX.out.trans kx)
     clear k0 k1 k2 kx hW9 hr0 hr1 hr2 hK hn f h8 h9 h10 hx1 d1 d2 hN HRC
     simp only [List.length_cons,List.length_nil,Nat.reduceAdd,List.take_succ_cons,List.take_zero,List.filterMap_cons,List.filterMap_nil,List.drop_succ_cons,List.drop_zero,zav,Act.put,List.setIfInBounds_toArray,List.set_cons_succ,List.set_cons_zero,e8,e9,e10,h49]
     go_wp
     rw [HW9.out]
     refine HK.out _ _ ?_
     clear HK K r0 r1 r2 y0 y1 y2
     have HC:=zH (zd3 HSa.out HSb.out SMa.out SMb.out)
     rw [HJ.out] at HC
     obtain⟨a0,a1,a2⟩:=R0.out.p3
     obtain⟨b0,b1,b2⟩:=R1.out.p3
     go_wp2_with fail
     refine HC.out.mono ?_
     rintro r V ⟨u1,u2,u3,rfl,hn,hx1⟩
     obtain⟨J1,j1,rfl,-,-⟩:=hn.all.form
     obtain⟨J2,j2,rfl,-,-⟩:=hn.entries.form
     obtain⟨J3,j3,rfl,-,-⟩:=hn.pruned.form
     have HSj:=zH (hn.at.mono (S':=fun _=>True) fun _ _ _=>trivial)
     clear hn HC a0 a1 a2 b0 b1 b2
     have HSa:=zH (HSa.out.ext hx1)
     have HSb:=zH (HSb.out.ext hx1)
     have HSc:=zH (HSc.out.ext hx1)
     have R0:=zH (R0.out.ext hx1)
     have R1:=zH (R1.out.ext hx1)
     have R2:=zH (R2.out.ext hx1)
     have HX:=zH (HX.out.trans hx1)
     clear hx1
     have hx1:=(Ext.refl V).alloc (.cells #[.slice J1 sj.length j1,.slice J2 ej.length j2,.slice J3 pj.length j3] 30)
     have R3:=zH (zai V 30 [.slice J1 sj.length j1,.slice J2 ej.length j2,.slice J3 pj.length j3])
     have HSj:=zH (HSj.out.ext hx1)
     have HSa:=zH (HSa.out.ext hx1)
     have HSb:=zH (HSb.out.ext hx1)
     have HSc:=zH (HSc.out.ext hx1)
     have R0:=zH (R0.out.ext hx1)
     have R1:=zH (R1.out.ext hx1)
     have R2:=zH (R2.out.ext hx1)
     have HX:=zH (HX.out.trans hx1)
     clear hx1
     obtain⟨W10,hW10⟩:∃ X,(V.alloc (.cells #[.slice J1 sj.length j1,.slice J2 ej.length j2,.slice J3 pj.length j3] 30))=X:=⟨_,rfl⟩
     obtain⟨g3,hg3⟩:∃ x,V.heap.size=x:=⟨_,rfl⟩
     rw [hW10] at HSa HSb HSc HSj R0 R1 R2 R3 HX
     rw [hg3] at R3
     go_wp2_with fail
     rename_i K hK
     have HK:=zH hK
     clear hK
     clear hW10 hg3
     refine za1 [fun v _=>v=stV (.slice J1 sj.length j1) (.slice J2 ej.length j2) (.slice J3 pj.length j3),fun v _=>v=stV (.slice Ab1 sb.length nb1) (.slice Ab2 eb.length nb2) (.slice Ab3 pb.length nb3),fun v _=>v=stV (.slice Aa1 sa.length na1) (.slice Aa2 ea.length na2) (.slice Aa3 pa.length na3),fun v W=>∃ C1 x1 C2 x2 C3 x3,v=stV (.slice C1 (⟨sj,ej,pj⟩:State).all.length x1) (.slice C2 (⟨sj,ej,pj⟩:State).entries.length x2) (.slice C3 (⟨sj,ej,pj⟩:State).pruned.length x3)∧StAt W (fun _=>True) (⟨sj,ej,pj⟩:State) (.slice C1 (⟨sj,ej,pj⟩:State).all.length x1) (.slice C2 (⟨sj,ej,pj⟩:State).entries.length x2) (.slice C3 (⟨sj,ej,pj⟩:State).pruned.length x3),fun v _=>v=.bool true,fun v _=>v=.bool false,fun v _=>v=.bool false,fun v _=>v=stV (.slice J1 sj.length j1) (.slice J2 ej.length j2) (.slice J3 pj.length j3),fun v _=>v=stV (.slice Ac1 sc.length nc1) (.slice Ac2 ec.length nc2) (.slice Ac3 pc.length nc3),fun v W=>∃ C1 x1 C2 x2 C3 x3,v=stV (.slice C1 sm.all.length x1) (.slice C2 sm.entries.length x2) (.slice C3 sm.pruned.length x3)∧StAt W (fun _=>True) sm (.slice C1 sm.all.length x1) (.slice C2 sm.entries.length x2) (.slice C3 sm.pruned.length x3),fun v _=>v=stV (.slice Aa1 sa.length na1) (.slice Aa2 ea.length na2) (.slice Aa3 pa.length na3),fun v _=>v=stV (.slice Ab1 sb.length nb1) (.slice Ab2 eb.length nb2) (.slice Ab3 pb.length nb3),fun v _=>v=stV (.slice Ac1 sc.length nc1) (.slice Ac2 ec.length nc2) (.slice Ac3 pc.length nc3),fun v W=>∃ C1 x1 C2 x2 C3 x3,v=stV (.slice C1 sbc.all.length x1) (.slice C2 sbc.entries.length x2) (.slice C3 sbc.pruned.length x3)∧StAt W (fun _=>True) sbc (.slice C1 sbc.all.length x1) (.slice C2 sbc.entries.length x2) (.slice C3 sbc.pruned.length x3),fun v W=>∃ C1 x1 C2 x2 C3 x3,v=stV (.slice C1 sm.all.length x1) (.slice C2 sm.entries.length x2) (.slice C3 sm.pruned.length x3)∧StAt W (fun _=>True) sm (.slice C1 sm.all.length x1) (.slice C2 sm.entries.length x2) (.slice C3 sm.pruned.length x3),fun v _=>v=.bool true,fun v _=>v=.bool false,fun v _=>v=.bool false,fun v _=>v=.bool false,fun v _=>v=stV (.slice J1 sj.length j1) (.slice J2 ej.length j2) (.slice J3 pj.length j3),fun v _=>v=stV (.slice Aa1 sa.length na1) (.slice Aa2 ea.length na2) (.slice Aa3 pa.length na3),fun v W=>∃ C1 x1 C2 x2 C3 x3,v=stV (.slice C1 (⟨sj,ej,pj⟩:State).all.length x1) (.slice C2 (⟨sj,ej,pj⟩:State).entries.length x2) (.slice C3 (⟨sj,ej,pj⟩:State).pruned.length x3)∧StAt W (fun _=>True) (⟨sj,ej,pj⟩:State) (.slice C1 (⟨sj,ej,pj⟩:State).all.length x1) (.slice C2 (⟨sj,ej,pj⟩:State).entries.length x2) (.slice C3 (⟨sj,ej,pj⟩:State).pruned.length x3),fun v _=>v=stV (.slice J1 sj.length j1) (.slice J2 ej.length j2) (.slice J3 pj.length j3),fun v _=>v=.bool true,fun v _=>v=.bool false] rfl (by kernel_rfl) ?hR ?hstep ?hend
     case hR =>
      simp only [List.mem_cons,List.not_mem_nil,or_false,forall_eq_or_imp,forall_eq]
      exact⟨kP,kP,kP,fun v _ _ h he=>by obtain⟨C1,x1,C2,x2,C3,x3,e,h⟩:=h;exact⟨C1,x1,C2,x2,C3,x3,e,h.ext he⟩,kP,kP,kP,kP,kP,fun v _ _ h he=>by obtain⟨C1,x1,C2,x2,C3,x3,e,h⟩:=h;exact⟨C1,x1,C2,x2,C3,x3,e,h.ext he⟩,kP,kP,kP,fun v _ _ h he=>by obtain⟨C1,x1,C2,x2,C3,x3,e,h⟩:=h;exact⟨C1,x1,C2,x2,C3,x3,e,h.ext he⟩,fun v _ _ h he=>by obtain⟨C1,x1,C2,x2,C3,x3,e,h⟩:=h;exact⟨C1,x1,C2,x2,C3,x3,e,h.ext he⟩,kP,kP,kP,kP,kP,kP,fun v _ _ h he=>by obtain⟨C1,x1,C2,x2,C3,x3,e,h⟩:=h;exact⟨C1,x1,C2,x2,C3,x3,e,h.ext he⟩,kP,kP,kP⟩
     case hstep =>
      simp only [List.length_cons,List.length_nil,Nat.reduceAdd,List.take_succ_cons,List.take_zero,zb2,and_true]
      refine ⟨?_,?_,?_,?_,?_,?_,?_,?_,?_,?_,?_,?_,?_,?_,?_,?_,?_,?_,?_,?_,?_,?_,?_,?_,?_⟩
      ·intro x W he f
       have h0:x 11=.pointer (some ⟨g3,0,none⟩):=f.1
       have hRr:=R3.out.ext he
       obtain⟨r0,r1,r2⟩:=hRr.p3
       go_wp
       exact sQ
      ·intro x W he f
       have h0:x 9=.pointer (some ⟨g1,0,none⟩):=f.1
       have hRr:=R1.out.ext he
       obtain⟨r0,r1,r2⟩:=hRr.p3
       go_wp
       exact sQ
      ·intro x W he f
       have h0:x 8=.pointer (some ⟨g0,0,none⟩):=f.1
       have hRr:=R0.out.ext he
       obtain⟨r0,r1,r2⟩:=hRr.p3
       go_wp
       exact sQ
      ·intro x W he f
       have h0:x 54=stV (.slice Ab1 sb.length nb1) (.slice Ab2 eb.length nb2) (.slice Ab3 pb.length nb3):=f.1
       have h1:x 55=stV (.slice Aa1 sa.length na1) (.slice Aa2 ea.length na2) (.slice Aa3 pa.length na3):=f.2.1
       have HC:=zH (zd3 (HSb.out.ext he) (HSa.out.ext he) SMb.out SMa.out)
       rw [HJC.out] at HC
       clear f
       go_wp
       refine HC.out.mono ?_
       rintro e X ⟨z1,z2,z3,rfl,hn,hx2⟩
       obtain⟨C1,x1,rfl,-,-⟩:=hn.all.form
       obtain⟨C2,x2,rfl,-,-⟩:=hn.entries.form
       obtain⟨C3,x3,rfl,-,-⟩:=hn.pruned.form
       have HN:=zH (hn.at.mono (S':=fun _=>True) fun _ _ _=>trivial)
       clear hn
       dsimp only
       go_wp
       exact zaa ⟨C1,x1,C2,x2,C3,x3,rfl,HN.out⟩ hx2
      ·intro x W he f
       have h0:x 53=stV (.slice J1 sj.length j1) (.slice J2 ej.length j2) (.slice J3 pj.length j3):=f.1
       obtain⟨G1,z1,G2,z2,G3,z3,h1,hst1⟩:=f.2.1
       have HC:=zH (zhm (HSj.out.ext he) hst1)
       rw [show zch (⟨sj,ej,pj⟩:State) (⟨sj,ej,pj⟩:State)=true from sameSt_iff.2 rfl] at HC
       clear f hst1
       go_wp
       refine HC.out.mono ?_
       rintro e X ⟨rfl,hx2⟩
       dsimp only
       go_wp
       exact zaa rfl hx2
      ·intro x W he f
       have h0:x 57=.bool true:=f.1
       go_wp
       exact sQ
      ·intro x W he f
       have h0:x 58=.bool false:=f.1
       go_wp
       exact sQ
      ·intro x W he f
       have h0:x 11=.pointer (some ⟨g3,0,none⟩):=f.1
       have h1:x 59=.bool false:=f.2.1
       have hRr:=R3.out.ext he
       obtain⟨r0,r1,r2⟩:=hRr.p3
       go_wp
       exact sQ
      ·intro x W he f
       have h0:x 10=.pointer (some ⟨g2,0,none⟩):=f.1
       have h1:x 59=.bool false:=f.2.1
       have hRr:=R2.out.ext he
       obtain⟨r0,r1,r2⟩:=hRr.p3
       go_wp
       exact sQ
      ·intro x W he f
       have h0:x 60=stV (.slice J1 sj.length j1) (.slice J2 ej.length j2) (.slice J3 pj.length j3):=f.1
       have h1:x 61=stV (.slice Ac1 sc.length nc1) (.slice Ac2 ec.length nc2) (.slice Ac3 pc.length nc3):=f.2.1
       have hg:x 59=.bool false:=f.2.2.1
       have HC:=zH (zd3 (HSj.out.ext he) (HSc.out.ext he) SMj.out SMc.out)
       rw [HJA.out] at HC
       clear f
       go_wp
       refine HC.out.mono ?_
       rintro e X ⟨z1,z2,z3,rfl,hn,hx2⟩
       obtain⟨C1,x1,rfl,-,-⟩:=hn.all.form
       obtain⟨C2,x2,rfl,-,-⟩:=hn.entries.form
       obtain⟨C3,x3,rfl,-,-⟩:=hn.pruned.form
       have HN:=zH (hn.at.mono (S':=fun _=>True) fun _ _ _=>trivial)
       clear hn
       dsimp only
       go_wp
       exact zaa ⟨C1,x1,C2,x2,C3,x3,rfl,HN.out⟩ hx2
      ·intro x W he f
       have h0:x 8=.pointer (some ⟨g0,0,none⟩):=f.1
       have h1:x 59=.bool false:=f.2.1
       have hRr:=R0.out.ext he
       obtain⟨r0,r1,r2⟩:=hRr.p3
       go_wp
       exact sQ
      ·intro x W he f
       have h0:x 9=.pointer (some ⟨g1,0,none⟩):=f.1
       have h1:x 59=.bool false:=f.2.1
       have hRr:=R1.out.ext he
       obtain⟨r0,r1,r2⟩:=hRr.p3
       go_wp
       exact sQ
      ·intro x W he f
       have h0:x 10=.pointer (some ⟨g2,0,none⟩):=f.1
       have h1:x 59=.bool false:=f.2.1
       have hRr:=R2.out.ext he
       obtain⟨r0,r1,r2⟩:=hRr.p3
       go_wp
       exact sQ
      ·intro x W he f
       have h0:x 64=stV (.slice Ab1 sb.length nb1) (.slice Ab2 eb.length nb2) (.slice Ab3 pb.length nb3):=f.1
       have h1:x 65=stV (.slice Ac1 sc.length nc1) (.slice Ac2 ec.length nc2) (.slice Ac3 pc.length nc3):=f.2.1
       have hg:x 59=.bool false:=f.2.2.1
       have HC:=zH (zd3 (HSb.out.ext he) (HSc.out.ext he) SMb.out SMc.out)
       rw [HBC.out] at HC
       clear f
       go_wp
       refine HC.out.mono ?_
       rintro e X ⟨z1,z2,z3,rfl,hn,hx2⟩
       obtain⟨C1,x1,rfl,-,-⟩:=hn.all.form
       obtain⟨C2,x2,rfl,-,-⟩:=hn.entries.form
       obtain⟨C3,x3,rfl,-,-⟩:=hn.pruned.form
       have HN:=zH (hn.at.mono (S':=fun _=>True) fun _ _ _=>trivial)
       clear hn
       dsimp only
       go_wp
       exact zaa ⟨C1,x1,C2,x2,C3,x3,rfl,HN.out⟩ hx2
      ·intro x W he f
       have h0:x 63=stV (.slice Aa1 sa.length na1) (.slice Aa2 ea.length na2) (.slice Aa3 pa.length na3):=f.1
       obtain⟨D1,y1,D2,y2,D3,y3,h1,hst⟩:=f.2.1
       have hg:x 59=.bool false:=f.2.2.1
       have HC:=zH (zd3 (HSa.out.ext he) hst SMa.out SMbc.out)
       rw [HSMM.out] at HC
       clear f hst
       go_wp
       refine HC.out.mono ?_
       rintro e X ⟨z1,z2,z3,rfl,hn,hx2⟩
       obtain⟨C1,x1,rfl,-,-⟩:=hn.all.form
       obtain⟨C2,x2,rfl,-,-⟩:=hn.entries.form
       obtain⟨C3,x3,rfl,-,-⟩:=hn.pruned.form
       have HN:=zH (hn.at.mono (S':=fun _=>True) fun _ _ _=>trivial)
       clear hn
       dsimp only
       go_wp
       exact zaa ⟨C1,x1,C2,x2,C3,x3,rfl,HN.out⟩ hx2
      ·intro x W he f
       obtain⟨D1,y1,D2,y2,D3,y3,h0,hst0⟩:=f.1
       obtain⟨G1,z1,G2,z2,G3,z3,h1,hst1⟩:=f.2.1
       have hg:x 59=.bool false:=f.2.2.1
       have HC:=zH (zhm hst0 hst1)
       rw [show zch sm sm=true from sameSt_iff.2 rfl] at HC
       clear f hst0 hst1
       go_wp
       refine HC.out.mono ?_
       rintro e X ⟨rfl,hx2⟩
       dsimp only
       go_wp
       exact zaa rfl hx2
      ·intro x W he f
       have h0:x 68=.bool true:=f.1
       have h1:x 59=.bool false:=f.2.1
       go_wp
       exact sQ
      ·intro x W he f
       have h0:x 59=.bool false:=f.1
       have h1:x 69=.bool false:=f.2.1
       go_wp
       exact sQ
      ·intro x W he f
       have h0:x 70=.bool false:=f.1
       go_wp
       exact sQ
      ·intro x W he f
       have h0:x 11=.pointer (some ⟨g3,0,none⟩):=f.1
       have h1:x 71=.bool false:=f.2.1
       have hRr:=R3.out.ext he
       obtain⟨r0,r1,r2⟩:=hRr.p3
       go_wp
       exact sQ
      ·intro x W he f
       have h0:x 8=.pointer (some ⟨g0,0,none⟩):=f.1
       have h1:x 71=.bool false:=f.2.1
       have hRr:=R0.out.ext he
       obtain⟨r0,r1,r2⟩:=hRr.p3
       go_wp
       exact sQ
      ·intro x W he f
       have h0:x 72=stV (.slice J1 sj.length j1) (.slice J2 ej.length j2) (.slice J3 pj.length j3):=f.1
       have h1:x 73=stV (.slice Aa1 sa.length na1) (.slice Aa2 ea.length na2) (.slice Aa3 pa.length na3):=f.2.1
       have hg:x 71=.bool false:=f.2.2.1
       have HC:=zH (zd3 (HSj.out.ext he) (HSa.out.ext he) SMj.out SMa.out)
       rw [HJG.out] at HC
       clear f
       go_wp
       refine HC.out.mono ?_
       rintro e X ⟨z1,z2,z3,rfl,hn,hx2⟩
       obtain⟨C1,x1,rfl,-,-⟩:=hn.all.form
       obtain⟨C2,x2,rfl,-,-⟩:=hn.entries.form
       obtain⟨C3,x3,rfl,-,-⟩:=hn.pruned.form
       have HN:=zH (hn.at.mono (S':=fun _=>True) fun _ _ _=>trivial)
       clear hn
       dsimp only
       go_wp
       exact zaa ⟨C1,x1,C2,x2,C3,x3,rfl,HN.out⟩ hx2
      ·intro x W he f
       have h0:x 11=.pointer (some ⟨g3,0,none⟩):=f.1
       have h1:x 71=.bool false:=f.2.1
       have hRr:=R3.out.ext he
       obtain⟨r0,r1,r2⟩:=hRr.p3
       go_wp
       exact sQ
      ·intro x W he f
       obtain⟨D1,y1,D2,y2,D3,y3,h0,hst0⟩:=f.1
       have h1:x 75=stV (.slice J1 sj.length j1) (.slice J2 ej.length j2) (.slice J3 pj.length j3):=f.2.1
       have hg:x 71=.bool false:=f.2.2.1
       have HC:=zH (zhm hst0 (HSj.out.ext he))
       rw [show zch (⟨sj,ej,pj⟩:State) (⟨sj,ej,pj⟩:State)=true from sameSt_iff.2 rfl] at HC
       clear f hst0
       go_wp
       refine HC.out.mono ?_
       rintro e X ⟨rfl,hx2⟩
       dsimp only
       go_wp
       exact zaa rfl hx2
      ·intro x W he f
       have h0:x 76=.bool true:=f.1
       have h1:x 71=.bool false:=f.2.1
       go_wp
       exact sQ
     case hend =>
      intro x W11 hx1 f
      have e71:x 71=.bool false:=f.2.2.2.2.2.2.2.2.2.2.2.2.2.2.2.2.2.2.1
      have e77:x 77=.bool false:=f.2.2.2.2.2.2.2.2.2.2.2.2.2.2.2.2.2.2.2.2.2.2.2.2.1
      clear f
      have HSa:=zH (HSa.out.ext hx1)
      have HSb:=zH (HSb.out.ext hx1)
      have HSc:=zH (HSc.out.ext hx1)
      have HSj:=zH (HSj.out.ext hx1)
      have R0:=zH (R0.out.ext hx1)
      have R1:=zH (R1.out.ext hx1)
      have R2:=zH (R2.out.ext hx1)
      have R3:=zH (R3.out.ext hx1)
      have HX:=zH (HX.out.trans hx1)
      clear hx1
      simp only [List.length_cons,List.length_nil,Nat.reduceAdd,List.take_succ_cons,List.take_zero,List.filterMap_cons,List.filterMap_nil,List.drop_succ_cons,List.drop_zero,zav,Act.put,List.setIfInBounds_toArray,List.set_cons_succ,List.set_cons_zero,e71,e77]
      go_wp
      refine HK.out _ _ ?_
      clear HK K
      go_wp2_with fail
      rename_i K hK
      have HK:=zH hK
      clear hK
      have hsi:zde ⟨sb,eb,pb⟩ sa=⟨sb,eb.filter (zca sa),pb⟩:=rfl
      have hap:=HAP.out
      rw [hsi] at hap
      have hls:sa.length≤549755813888:=Nat.le_trans HLa.out.all (by decide)
      have hlj:(zat sa []).length≤549755813888:=by
       have h:=zef sa
       rw [← zgk] at h
       omega
      have SMD:Hid (SmallS ⟨sb,eb.filter (zca sa),pb⟩):=zH (LimS.small (n:=400) ⟨HLb.out.all,Nat.le_trans (List.length_filter_le _ _) HLb.out.entries,HLb.out.pruned,fun e he=>HLb.out.each e (List.mem_filter.1 he).1⟩ (by decide))
      have HS0:=zH (fun (X:World) (he:Ext W11 X)=>zgc (HSb.out.ext he) (HSa.out.ext he).all SMb.out hls)
      obtain⟨JB,hjb⟩:∃ x,zat sa []=x:=⟨_,rfl⟩
      rw [hjb] at HS0 hap hlj
      rw [hsi] at HS0
      obtain⟨de,hde⟩:∃ x,eb.filter (zca sa)=x:=⟨_,rfl⟩
      rw [hde] at HS0 hap SMD
      have HAP:=zH hap
      have HA0:=zH (fun (X:World) (he:Ext W11 X) (b0 b1 b2 b3:Value) (h0:Sl markT X (fun b=>W11.heap.size≤b) b0 JB) (h1:StAt X (fun b=>W11.heap.size≤b) ⟨sb,de,pb⟩ b1 b2 b3)=>by
       have h:=zhj (HSa.out.ext he) h1 h0 SMa.out SMD.out hlj
       rw [HAP.out] at h
       exact h)
      clear hap hls hlj hjb hde hsi
      refine zd9 [some fun v=>v=stV (.slice Aa1 sa.length na1) (.slice Aa2 ea.length na2) (.slice Aa3 pa.length na3),some fun v=>v=stV (.slice Ab1 sb.length nb1) (.slice Ab2 eb.length nb2) (.slice Ab3 pb.length nb3),some fun v=>v=.pointer (some ⟨g0,0,none⟩),some fun v=>v=.slice Aa1 sa.length na1,none,none,none,none,some fun v=>v=I 0,none,none] (fun st w=>BoxK W11.heap.size 30 zo7 (CSt W11.heap.size ⟨sj,ej,pj⟩) (tupS 0) agS 5 6 7 9 10 st w∧(st 10=none→DltK W11.heap.size 4 ⟨sb,eb,pb⟩ ⟨sb,de,pb⟩ JB st w)) rfl (by kernel_rfl) ?hK ?h0 ?hstep ?hend
      case hK=>exact fun st w w' h he=>⟨h.1.ext CSt.keep he,fun h0=>(h.2 h0).ext he⟩
      case h0=>exact⟨BoxK.start _,fun _ v hv=>by cases hv⟩
      case hstep =>
       simp only [List.length_cons,List.length_nil,Nat.reduceAdd,List.take_succ_cons,List.take_zero,ze8,zgp,and_true]
       refine ⟨?_,?_,?_,?_,?_,?_,?_,?_,?_,?_,?_⟩
       ·intro x W st he hK f
        have h0:x 8=.pointer (some ⟨g0,0,none⟩):=f.1
        clear hK
        have hRr:=R0.out.ext he
        obtain⟨r0,r1,r2⟩:=hRr.p3
        go_wp
        exact sQ
       ·intro x W st he hK f
        have h0:x 9=.pointer (some ⟨g1,0,none⟩):=f.1
        clear hK
        have hRr:=R1.out.ext he
        obtain⟨r0,r1,r2⟩:=hRr.p3
        go_wp
        exact sQ
       ·intro x W st he hK f
        have h0:x 8=.pointer (some ⟨g0,0,none⟩):=f.1
        clear hK
        go_wp
        exact sQ
       ·intro x W st he hK f
        have h0:x 82=.pointer (some ⟨g0,0,none⟩):=f.1
        clear hK
        have hRr:=R0.out.ext he
        have r0:=hRr.cell (j:=0) rfl
        go_wp
        exact sQ
       ·intro x W st he hK hn f
        have h0:x 81=stV (.slice Ab1 sb.length nb1) (.slice Ab2 eb.length nb2) (.slice Ab3 pb.length nb3):=f.1
        have h1:x 83=.slice Aa1 sa.length na1:=f.2.1
        have HC:=zH (HS0.out W he)
        have HK2:=zH hK
        clear hK
        go_wp
        refine HC.out.mono ?_
        rintro r W2b ⟨u0,u1,u2,u3,rfl,hO,hS,hx2⟩
        have hO2:=(zbn hO).mono (S':=fun b=>W11.heap.size≤b) (by decide) (fun b _ h=>Nat.le_trans he.size h)
        have hS2:=hS.at.mono (S':=fun b=>W11.heap.size≤b) (fun b _ h=>Nat.le_trans he.size h)
        obtain⟨D0,y0,rfl,-,-⟩:=hO2.form
        obtain⟨D1,y1,rfl,-,-⟩:=hS2.all.form
        obtain⟨D2,y2,rfl,-,-⟩:=hS2.entries.form
        obtain⟨D3,y3,rfl,-,-⟩:=hS2.pruned.form
        have HO2:=zH hO2
        have HS2:=zH hS2
        clear hO hS hO2 hS2
        dsimp only
        go_wp
        exact zbi ⟨⟨(HK2.out.1.ext CSt.keep hx2).other (by decide),fun _ v hv=>by rw [zb7] at hv;cases hv;exact⟨D0,y0,D1,y1,D2,y2,D3,y3,rfl,HO2.out,HS2.out⟩⟩,he.trans hx2⟩
       ·intro x W st he hK hn f
        have h0:x 80=stV (.slice Aa1 sa.length na1) (.slice Aa2 ea.length na2) (.slice Aa3 pa.length na3):=f.1
        have h84:st 4=some (x 84):=f.2.1
        have h10:st 10=none:=Classical.byContradiction fun hne=>by
         obtain⟨xs,lo,hi,g,k1,k2,k3,k4,k5⟩:=hK.1
         exact (k5 hne).1 hn
        obtain⟨D0,y0,D1,y1,D2,y2,D3,y3,e84,hO2,hS2⟩:=hK.2 h10 (x 84) h84
        have HC:=zH (HA0.out W he _ _ _ _ hO2 hS2)
        have HK2:=zH hK
        clear hK hO2 hS2 f
        go_wp
        refine HC.out.mono ?_
        rintro r W2b ⟨u1,u2,u3,rfl,hn2,hx2⟩
        obtain⟨C1,x1,rfl,-,-⟩:=hn2.all.form
        obtain⟨C2,x2,rfl,-,-⟩:=hn2.entries.form
        obtain⟨C3,x3,rfl,-,-⟩:=hn2.pruned.form
        have HN:=zH hn2
        clear hn2
        dsimp only
        go_wp
        exact zbi ⟨⟨HK2.out.1.call (xs:=[.slice C1 sj.length x1,.slice C2 ej.length x2,.slice C3 pj.length x3]) (by decide) hn hx2 he.size ⟨C1,x1,C2,x2,C3,x3,rfl,HN.out.mono fun b hb h=>⟨⟨h,hb⟩,Nat.le_trans he.size h⟩⟩,fun h=>((HK2.out.2 (by rwa [zae st _ (by decide)] at h)).ext hx2).other (by decide)⟩,he.trans hx2⟩
       ·intro x W st he hK hn f
        have h0:st 5=some (x 85):=f.1
        have HK2:=zH hK
        clear hK
        go_wp
        exact zbi ⟨⟨HK2.out.1.move (by decide) h0,fun h=>(HK2.out.2 (by rwa [zae st _ (by decide)] at h)).other (by decide)⟩,he⟩
       ·intro x W st he hK hn f
        have h0:st 6=some (x 79):=f.1
        obtain⟨xs,S,hv,⟨C1,x1,C2,x2,C3,x3,rfl,-⟩,hK2⟩:=hK.1.part (by decide) h0
        have HK2:=zH hK2
        have HKD:=zH hK.2
        clear hK hK2
        go_wp
        exact zbi ⟨⟨HK2.out,fun h=>(HKD.out (by rwa [zae st _ (by decide)] at h)).other (by decide)⟩,he⟩
       ·intro x W st he hK f
        have h0:st 6=some (x 79):=f.1
        obtain⟨xs,S,hv,⟨C1,x1,C2,x2,C3,x3,rfl,-⟩,hK2⟩:=hK.1.part (by decide) h0
        have HK2:=zH hK2
        have HKD:=zH hK.2
        clear hK hK2
        go_wp
        exact sQ
       ·intro x W st he hK hn f
        have HK2:=zH hK
        clear hK
        go_wp
        exact zbi ⟨⟨HK2.out.1.alloc CSt.keep (by decide) hn he.size,fun h=>((HK2.out.2 (by rwa [zae st _ (by decide)] at h)).ext ((Ext.refl _).alloc _)).other (by decide)⟩,he.alloc _⟩
       ·intro x W st he hK hn f
        have h0:st 9=some (x 12):=f.1
        have h1:st 7=some (x 86):=f.2.1
        obtain⟨xs,S,g5,hv,hp2,hg2,hr,⟨C1,x1,C2,x2,C3,x3,rfl,-⟩,hfin⟩:=hK.1.store CSt.keep (by decide) h1 h0 hn
        obtain⟨r0,r1,r2⟩:=hr.p3
        obtain⟨y0,y1,y2⟩:=hr.q3
        have hfi:=hfin (((W.setCell ⟨g5,0,none⟩ (.slice C1 sj.length x1)).setCell ⟨g5,1,none⟩ (.slice C2 ej.length x2)).setCell ⟨g5,2,none⟩ (.slice C3 pj.length x3)) (.bool true) (zhq hr) (Nat.le_of_eq (zh9 W g5 (.slice C1 sj.length x1) (.slice C2 ej.length x2) (.slice C3 pj.length x3)).symm) (fun y hy=>zh8 W g5 (.slice C1 sj.length x1) (.slice C2 ej.length x2) (.slice C3 pj.length x3) y hy)
        have hxe:=zhr he hg2 (.slice C1 sj.length x1) (.slice C2 ej.length x2) (.slice C3 pj.length x3)
        have HK2:=zH hfi
        have HXE:=zH hxe
        clear hK hfin hfi hxe hr h0 h1
        go_wp
        exact zbi (v:=.bool true) ⟨⟨HK2.out,fun h=>by rw [zb7] at h;cases h⟩,HXE.out⟩
      case hend =>
       intro x W12 st hx1 hK hn f
       have h12:st 9=some (x 12):=f.2.2.2.2.2.2.2.2.2.1
       have e87:x 87=I 0:=f.2.2.2.2.2.2.2.2.1
       obtain⟨xs,S,g5,e12,hg2,hrow,⟨C1,x1,C2,x2,C3,x3,rfl,hst⟩,hSg⟩:=hK.1.done h12 (hn 10 (show 10 < 11 by decide) rfl)
       have R5:=zH hrow
       have HS5:=zH (hst.mono (S':=fun _=>True) fun _ _ _=>trivial)
       have HSa:=zH (HSa.out.ext hx1)
       have HSb:=zH (HSb.out.ext hx1)
       have HSc:=zH (HSc.out.ext hx1)
       have HSj:=zH (HSj.out.ext hx1)
       have R0:=zH (R0.out.ext hx1)
       have R1:=zH (R1.out.ext hx1)
       have R2:=zH (R2.out.ext hx1)
       have R3:=zH (R3.out.ext hx1)
       have HX:=zH (HX.out.trans hx1)
       clear hx1
       clear hK hn f hrow hst hSg h12
       simp only [List.length_cons,List.length_nil,Nat.reduceAdd,List.take_succ_cons,List.take_zero,List.filterMap_cons,List.filterMap_nil,List.drop_succ_cons,List.drop_zero,zav,Act.put,List.setIfInBounds_toArray,List.set_cons_succ,List.set_cons_zero,e12,e87]
       go_wp
       refine HK.out _ _ ?_
       clear HK K
       have HC:=zH (zhm HS5.out HSj.out)
       rw [show zch (⟨sj,ej,pj⟩:State) ⟨sj,ej,pj⟩=true from sameSt_iff.2 rfl] at HC
       obtain⟨a0,a1,a2⟩:=R5.out.p3
       obtain⟨b0,b1,b2⟩:=R3.out.p3
       go_wp2_with fail
       refine HC.out.mono ?_
       rintro r V2 ⟨rfl,hx1⟩
       have R5:=zH (R5.out.ext hx1)
       have HSa:=zH (HSa.out.ext hx1)
       have HSb:=zH (HSb.out.ext hx1)
       have HSc:=zH (HSc.out.ext hx1)
       have HSj:=zH (HSj.out.ext hx1)
       have R0:=zH (R0.out.ext hx1)
       have R1:=zH (R1.out.ext hx1)
       have R2:=zH (R2.out.ext hx1)
       have R3:=zH (R3.out.ext hx1)
       have HX:=zH (HX.out.trans hx1)
       clear hx1
       clear HC a0 a1 a2 b0 b1 b2
       have hls:sj.length≤549755813888:=Nat.le_trans HLj.out.all (by decide)
       have HC:=zH (zgc HSa.out HSj.out.all SMa.out hls)
       have hno:(zde ⟨sa,ea,pa⟩ sj).entries = []:=HNO.out
       have HNN:=zH hno
       clear hno hls
       obtain⟨a0,a1,a2⟩:=R0.out.p3
       have b0:=R3.out.cell (j:=0) rfl
       go_wp2_with fail
       refine HC.out.mono ?_
       rintro r V3 ⟨u0,u1,u2,u3,rfl,hO,hS,hx1⟩
       have hlen:=HNN.out
       obtain⟨D0,y0,rfl,-,-⟩:=hO.form
       obtain⟨D1,y1,rfl,-,-⟩:=hS.all.form
       obtain⟨D2,y2,rfl,-,-⟩:=hS.entries.form
       obtain⟨D3,y3,rfl,-,-⟩:=hS.pruned.form
       rw [hlen]
       have HX:=zH (HX.out.trans hx1)
       clear hO hS hx1 HC a0 a1 a2 b0 hlen
       have hf1:=fun (X:World)=>zlr (.slice D0 (zat sj []).length y0) (.slice D1 (zde ⟨sa,ea,pa⟩ sj).all.length y1) (.slice D2 ([]:List Entry).length y2) (.slice D3 (zde ⟨sa,ea,pa⟩ sj).pruned.length y3) X
       have hf2:=fun (X:World)=>zkn (.slice D1 (zde ⟨sa,ea,pa⟩ sj).all.length y1) (.slice D2 ([]:List Entry).length y2) (.slice D3 (zde ⟨sa,ea,pa⟩ sj).pruned.length y3) X
       simp only [List.length_nil] at hf1 hf2
       go_wp2_with fail
       refine (zos _).mono ?_
       rintro r Z ⟨rfl,hxz⟩
       go_wp2_with fail
       go_ret
       exact⟨rfl,HX.out.trans hxz⟩
end
end Go.Proofs.YtdikcgmdmcfpfaaGreat
