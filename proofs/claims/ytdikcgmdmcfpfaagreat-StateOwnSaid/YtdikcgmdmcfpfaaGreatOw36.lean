/- gossamerlaw16.StateOwn: the walk. Printed by gen_own.py. -/
import Derived.Test.YtdikcgmdmcfpfaaGreatOw34
import Derived.Test.YtdikcgmdmcfpfaaGreatOw26
import Derived.Test.YtdikcgmdmcfpfaaGreatOw35
import Derived.Test.YtdikcgmdmcfpfaaGreatOw25
set_option linter.unusedVariables false
set_option linter.unusedSimpArgs false
set_option linter.unusedSectionVars false
set_option maxRecDepth 100000
set_option maxHeartbeats 4000000
namespace Go.Proofs.YtdikcgmdmcfpfaaGreat
section
open Go.RowKit Go.Shelf
structure Arg2 (W:World) (N q:Nat) (a:State) (op:OpD) (a1 a2 a3:Value):Prop where
 ra:RowIs W q 30 [a1,a2,a3] []
 ro:RowIs W (q+1) 42 [K8 op.1,St op.2.1,I op.2.2.1,St op.2.2.2] []
 sa:StAt W (fun x=>x < N) a a1 a2 a3
theorem Arg2.ext {W W':World} {N q:Nat} {a:State} {op:OpD} {a1 a2 a3:Value} (h:Arg2 W N q a op a1 a2 a3) (he:Ext W W'):Arg2 W' N q a op a1 a2 a3 :=
 ⟨h.ra.ext he,h.ro.ext he,h.sa.ext he⟩
structure BoxSt (W:World) (q:Nat) (a:State) (a1 a2 a3:Value):Prop where
 row:RowIs W q 30 [a1,a2,a3] []
 st:StAt W (fun _=>True) a a1 a2 a3
theorem BoxSt.ext {W W':World} {q:Nat} {a:State} {a1 a2 a3:Value} (h:BoxSt W q a a1 a2 a3) (he:Ext W W'):BoxSt W' q a a1 a2 a3:=⟨h.row.ext he,h.st.ext he⟩
def CEnt (E:Entry) (xs:List Value) (S:Nat→Prop) (W:World):Prop:=∃ B1 m1 B2 m2 B3 m3,xs=entL E (.slice B1 E.seen.length m1) (.slice B2 E.counts.length m2) (.slice B3 E.items.length m3)∧EntAt W S E (.slice B1 E.seen.length m1) (.slice B2 E.counts.length m2) (.slice B3 E.items.length m3)
theorem CEnt.keep {E:Entry} (xs:List Value) (S:Nat→Prop) (w w':World) (h:CEnt E xs S w) (hs:∀ b,S b→b < w.heap.size→w'.heap[b]? = w.heap[b]?):CEnt E xs S w':=by
 obtain⟨B1,m1,B2,m2,B3,m3,e,h1⟩:=h
 exact⟨B1,m1,B2,m2,B3,m3,e,h1.seen.keep (by decide) hs,h1.counts.keep (by decide) hs,h1.items.keep (by decide) hs⟩
abbrev tupE (xs:List Value):Value:=.tuple #[.agg xs.toArray,.bool true]
abbrev agE (xs:List Value):Value:=.agg xs.toArray
abbrev zvy:List Value:=[St [],.slice none 0 0,.slice none 0 0,.slice none 0 0,U 0,St [],.bool false]
theorem zvu {S1:Nat→Prop} {a:State} {a1 a2 a3:Value} {w:World} (p:Str) (op:OpD) (hn1:-9223372036854775808≤op.2.2.1) (hn2:op.2.2.1≤9223372036854775807) (num:Nat) (hnum:num < 18446744073709551616) (ha:StAt w S1 a a1 a2 a3) (ra:∀ e ∈ a.entries,RoomE e) :
  Calls Tryz.prog 6 #[stV a1 a2 a3,St p,opV op,U num] w fun r w'=>r = .returned (.bool true)∧Ext w w':=by
 obtain⟨sa,se,sp⟩:=a
 obtain⟨dO,k,n,tx⟩:=op
 simp only at hn1 hn2
 obtain⟨A1,n1,rfl,-,-⟩:=ha.all.form
 obtain⟨A2,n2,rfl,-,-⟩:=ha.entries.form
 obtain⟨A3,n3,rfl,-,-⟩:=ha.pruned.form
 have hx0:Ext w ((w.alloc (.cells #[.slice A1 sa.length n1,.slice A2 se.length n2,.slice A3 sp.length n3] 30)).alloc (.cells #[K8 dO,St k,I n,St tx] 42)):=((Ext.refl w).alloc _).alloc _
 have hA0:Arg2 ((w.alloc (.cells #[.slice A1 sa.length n1,.slice A2 se.length n2,.slice A3 sp.length n3] 30)).alloc (.cells #[K8 dO,St k,I n,St tx] 42)) w.heap.size w.heap.size ⟨sa,se,sp⟩ (dO,k,n,tx) (.slice A1 sa.length n1) (.slice A2 se.length n2) (.slice A3 sp.length n3) :=
  ⟨(zab w 30 [.slice A1 sa.length n1,.slice A2 se.length n2,.slice A3 sp.length n3]).alloc _,by have h:=zab (w.alloc (.cells #[.slice A1 sa.length n1,.slice A2 se.length n2,.slice A3 sp.length n3] 30)) 42 [K8 dO,St k,I n,St tx];simp only [World.size_alloc] at h;exact h,
   (ha.mono (S':=fun x=>x < w.heap.size) (fun x hx _=>hx)).ext hx0⟩
 have hz0:w.heap.size+2≤((w.alloc (.cells #[.slice A1 sa.length n1,.slice A2 se.length n2,.slice A3 sp.length n3] 30)).alloc (.cells #[K8 dO,St k,I n,St tx] 42)).heap.size:=by simp
 have RA:=Lib.hid ra
 clear ha ra
 have HL1:=Lib.hid (zpt hA0.sa RA.out)
 have c0:=hA0.ra.cell (j:=0) rfl
 have c1:=hA0.ra.cell (j:=1) rfl
 have c2:=hA0.ra.cell (j:=2) rfl
 have HA:=Lib.hid hA0
 have HX:=Lib.hid hx0
 clear hx0 hA0
 go_enter Tryz.func6,Tryz.ntmps6
 go_wp2_with fail
 generalize ((w.alloc (.cells #[.slice A1 sa.length n1,.slice A2 se.length n2,.slice A3 sp.length n3] 30)).alloc (.cells #[K8 dO,St k,I n,St tx] 42))=W0 at *
 refine HL1.out.mono ?_
 rintro r W1 ⟨rfl,hx1⟩
 clear c0 c1 c2 HL1
 have HA:=Lib.hid (HA.out.ext hx1)
 have HX:=Lib.hid (HX.out.trans hx1)
 have hz0:=Nat.le_trans hz0 hx1.size
 clear hx1
 cases hl1:zci ⟨sa,se,sp⟩ with
 | true =>
  go_wp2_with fail
  refine (zce _).mono ?_
  rintro r Z ⟨rfl,hxz⟩
  go_wp2_with fail
  go_ret
  exact⟨rfl,HX.out.trans hxz⟩
 | false =>
  have SMA:=Lib.hid (zlt hl1)
  have LSA:=Lib.hid (zno hl1)
  clear hl1
  by_cases h256:256 < p.length
  ·have q1:decide ((256:Int) < (p.length:Int))=true:=decide_eq_true (by omega)
   have q2:(p.length:Int) > 256:=by omega
   clear h256
   go_wp2_with fail
   refine (zce _).mono ?_
   rintro r Z ⟨rfl,hxz⟩
   go_wp2_with fail
   go_ret
   exact⟨rfl,HX.out.trans hxz⟩
  ·have q1:decide ((256:Int) < (p.length:Int))=false:=decide_eq_false (by omega)
   have q2:¬ (p.length:Int) > 256:=by omega
   clear h256
   cases hpp:p with
   | nil =>
    subst hpp
    go_wp2_with fail
    refine (zce _).mono ?_
    rintro r Z ⟨rfl,hxz⟩
    go_wp2_with fail
    go_ret
    exact⟨rfl,HX.out.trans hxz⟩
   | cons p0 pr =>
    rw [hpp] at q1 q2
    have q7:decide ((256:Int) < (pr.length:Int)+1)=false:=by simpa using q1
    have q8:¬ (pr.length:Int)+1 > 256:=by simpa using q2
    clear q1 q2
    have o1:=HA.out.ro.cell (j:=1) rfl
    have o3:=HA.out.ro.cell (j:=3) rfl
    by_cases h1024:1024 < k.length
    ·have q3:decide ((1024:Int) < (k.length:Int))=true:=decide_eq_true (by omega)
     have q4:(k.length:Int) > 1024:=by omega
     clear h1024
     go_wp2_with fail
     refine (zce _).mono ?_
     rintro r Z ⟨rfl,hxz⟩
     go_wp2_with fail
     go_ret
     exact⟨rfl,HX.out.trans hxz⟩
    ·have q3:decide ((1024:Int) < (k.length:Int))=false:=decide_eq_false (by omega)
     have q4:¬ (k.length:Int) > 1024:=by omega
     clear h1024
     by_cases h4096:4096 < tx.length
     ·have q5:decide ((4096:Int) < (tx.length:Int))=true:=decide_eq_true (by omega)
      have q6:(tx.length:Int) > 4096:=by omega
      clear h4096
      go_wp2_with fail
      refine (zce _).mono ?_
      rintro r Z ⟨rfl,hxz⟩
      go_wp2_with fail
      go_ret
      exact⟨rfl,HX.out.trans hxz⟩
     ·have q5:decide ((4096:Int) < (tx.length:Int))=false:=decide_eq_false (by omega)
      have q6:¬ (tx.length:Int) > 4096:=by omega
      clear h4096
      have HM1:=Lib.hid (zhd HA.out.sa SMA.out)
      have c0:=HA.out.ra.cell (j:=0) rfl
      have c1:=HA.out.ra.cell (j:=1) rfl
      have c2:=HA.out.ra.cell (j:=2) rfl
      go_wp2_with fail
      refine HM1.out.mono ?_
      rintro r W3 ⟨rfl,hx1⟩
      clear HM1 c0 c1 c2 o1 o3 q3 q4 q5 q6 q7 q8
      rw [← hpp]
      clear hpp
      have HA:=Lib.hid (HA.out.ext hx1)
      have HX:=Lib.hid (HX.out.trans hx1)
      have hz0:=Nat.le_trans hz0 hx1.size
      clear hx1
      cases hm1:mayS ⟨sa,se,sp⟩ with
      | false =>
       go_wp2_with fail
       refine (zce _).mono ?_
       rintro r Z ⟨rfl,hxz⟩
       go_wp2_with fail
       go_ret
       exact⟨rfl,HX.out.trans hxz⟩
      | true =>
       have MYA:=Lib.hid hm1
       clear hm1
       obtain⟨was,hwas⟩:∃ was,ofM sa p=was:=⟨_,rfl⟩
       have HOF:=Lib.hid (zfa p HA.out.sa.all)
       rw [hwas] at HOF
       have HW:=Lib.hid hwas
       clear hwas
       obtain⟨R,hR⟩:∃ R,updS ⟨sa,se,sp⟩ p (dO,k,n,tx)=R:=⟨_,rfl⟩
       have HU:=Lib.hid (ziq p (dO,k,n,tx) hn1 hn2 HA.out.sa SMA.out)
       have hol:=zwq (s:=⟨sa,se,sp⟩) (p:=p) (o:=(dO,k,n,tx))
       have her:=zp8 (s:=⟨sa,se,sp⟩) (p:=p) (o:=(dO,k,n,tx))
       have hok:=zmf (s:=⟨sa,se,sp⟩) (p:=p) (o:=(dO,k,n,tx))
       have hlt:=zvt (p:=p) (o:=(dO,k,n,tx)) LSA.out
       rw [hR] at HU hol her hlt hok
       clear hR
       obtain⟨⟨ta,te,tp⟩,er⟩:=R
       dsimp only at HU hol her hlt hok
       have HOL:=Lib.hid hol
       have HER:=Lib.hid her
       have LST:=Lib.hid hlt
       have HOK:=Lib.hid hok
       clear hol her hlt hok
       have c0:=HA.out.ra.cell (j:=0) rfl
       have c1:=HA.out.ra.cell (j:=1) rfl
       have c2:=HA.out.ra.cell (j:=2) rfl
       have o0:=HA.out.ro.cell (j:=0) rfl
       have o1:=HA.out.ro.cell (j:=1) rfl
       have o2:=HA.out.ro.cell (j:=2) rfl
       have o3:=HA.out.ro.cell (j:=3) rfl
       go_wp2_with fail
       refine HOF.out.mono ?_
       rintro r W4 ⟨rfl,rfl⟩
       clear HOF
       go_wp2_with fail
       refine HU.out.mono ?_
       rintro r V ⟨u1,u2,u3,rfl,hS,hx1⟩
       clear HU c0 c1 c2 o0 o1 o2 o3
       have HA:=Lib.hid (HA.out.ext hx1)
       have HX:=Lib.hid (HX.out.trans hx1)
       have hz0:=Nat.le_trans hz0 hx1.size
       clear hx1
       obtain⟨C1,q1,rfl,-,-⟩:=hS.all.form
       obtain⟨C2,q2,rfl,-,-⟩:=hS.entries.form
       obtain⟨C3,q3,rfl,-,-⟩:=hS.pruned.form
       have hx1:=(Ext.refl V).alloc (.cells #[.slice C1 ta.length q1,.slice C2 te.length q2,.slice C3 tp.length q3] 30)
       have HT:Hid (BoxSt (V.alloc (.cells #[.slice C1 ta.length q1,.slice C2 te.length q2,.slice C3 tp.length q3] 30)) V.heap.size ⟨ta,te,tp⟩ (.slice C1 ta.length q1) (.slice C2 te.length q2) (.slice C3 tp.length q3)):=Lib.hid ⟨zab V 30 [.slice C1 ta.length q1,.slice C2 te.length q2,.slice C3 tp.length q3],(hS.mono (S':=fun _=>True) (fun _ _ _=>trivial)).ext hx1⟩
       clear hS
       have HA:=Lib.hid (HA.out.ext hx1)
       have HX:=Lib.hid (HX.out.trans hx1)
       have hz0:=Nat.le_trans hz0 hx1.size
       clear hx1
       obtain⟨W5,hW5⟩:∃ W5,(V.alloc (.cells #[.slice C1 ta.length q1,.slice C2 te.length q2,.slice C3 tp.length q3] 30))=W5:=⟨_,rfl⟩
       obtain⟨g,hg⟩:∃ g,V.heap.size=g:=⟨_,rfl⟩
       rw [hW5] at HA HX HT hz0
       rw [hg] at HT
       have HWW:=Lib.hid hW5
       have HGG:=Lib.hid hg
       clear hW5 hg
       by_cases her0:er=0
       ·subst her0
        have HO:=Lib.hid (HOL.out rfl)
        have HKO:=Lib.hid (HOK.out rfl)
        clear HOL HER HOK
        go_wp2_with fail
        rw [HWW.out,HGG.out]
        clear HWW HGG
        obtain⟨b,hb⟩:∃ b,mayS ⟨ta,te,tp⟩=b:=⟨_,rfl⟩
        have HB:=Lib.hid hb
        clear hb
        have hwl:was < 281474976710656:=by have h:=HKO.out.2.2.1;rw [HW.out] at h;exact h
        have HOFT:=Lib.hid (show ofM ta p=was+1 by have h:=HO.out.of;simp only at h;rw [HW.out] at h;exact h)
        refine zaz [fun v _=>v = .pointer (some ⟨g,0,none⟩),fun v _=>v = .slice C1 ta.length q1,fun v _=>v=St p,fun v _=>v=U (was+1),fun v _=>v=U was,fun v _=>v=U (was+1),fun v _=>v = .bool false,fun v _=>v = .bool false,fun v _=>v = .pointer (some ⟨g,0,none⟩),fun v _=>v = .slice C1 ta.length q1,fun v _=>v=St p,fun v W=>∃ B m,v = .slice B (zbl ta p).length m∧Sl markT W (fun _=>True) (.slice B (zbl ta p).length m) (zbl ta p),fun v _=>v = .pointer (some ⟨w.heap.size,0,none⟩),fun v _=>v = .slice A1 sa.length n1,fun v _=>v=St p,fun v W=>∃ B m,v = .slice B (zbl sa p).length m∧Sl markT W (fun _=>True) (.slice B (zbl sa p).length m) (zbl sa p),fun v _=>v = .bool true,fun v _=>v = .bool false,fun v _=>v = .bool false,fun v _=>v = .bool false,fun v _=>v=stV (.slice C1 ta.length q1) (.slice C2 te.length q2) (.slice C3 tp.length q3),fun v _=>v = .bool b,fun v _=>v = .bool (!b),fun v _=>v = .bool (!b),fun v _=>b=false→v = .pointer (some ⟨w.heap.size,0,none⟩),fun v _=>b=false→v = .slice A1 sa.length n1,fun v _=>b=false→v=St p] rfl (by kernel_rfl) ?hR ?hstep ?hend
        case hR =>
         simp only [List.mem_cons,List.not_mem_nil,or_false,forall_eq_or_imp,forall_eq]
         exact⟨fun v _ _ h _=>h,fun v _ _ h _=>h,fun v _ _ h _=>h,fun v _ _ h _=>h,fun v _ _ h _=>h,fun v _ _ h _=>h,fun v _ _ h _=>h,fun v _ _ h _=>h,fun v _ _ h _=>h,fun v _ _ h _=>h,fun v _ _ h _=>h,fun v _ _ h he=>by obtain⟨B,m,e,h1⟩:=h;exact⟨B,m,e,h1.ext (by decide) he⟩,fun v _ _ h _=>h,fun v _ _ h _=>h,fun v _ _ h _=>h,fun v _ _ h he=>by obtain⟨B,m,e,h1⟩:=h;exact⟨B,m,e,h1.ext (by decide) he⟩,fun v _ _ h _=>h,fun v _ _ h _=>h,fun v _ _ h _=>h,fun v _ _ h _=>h,fun v _ _ h _=>h,fun v _ _ h _=>h,fun v _ _ h _=>h,fun v _ _ h _=>h,fun v _ _ h _=>h,fun v _ _ h _=>h,fun v _ _ h _=>h⟩
        case hstep =>
         simp only [List.length_cons,List.length_nil,Nat.reduceAdd,List.take_succ_cons,List.take_zero,zbn,and_true]
         refine ⟨?_,?_,?_,?_,?_,?_,?_,?_,?_,?_,?_,?_,?_,?_,?_,?_,?_,?_,?_,?_,?_,?_,?_,?_,?_,?_,?_⟩
         ·intro x W he f
          have h0:x 10 = .pointer (some ⟨g,0,none⟩):=f.1
          go_wp
          exact zaa rfl (Ext.refl _)
         ·intro x W he f
          have h0:x 59 = .pointer (some ⟨g,0,none⟩):=f.1
          have k0:=(HT.out.ext he).row.cell (j:=0) rfl
          go_wp
          exact zaa rfl (Ext.refl _)
         ·intro x W he f
          have h0:x 1=St p:=f.1
          go_wp
          exact zaa rfl (Ext.refl _)
         ·intro x W he f
          have h0:x 60 = .slice C1 ta.length q1:=f.1
          have h1:x 61=St p:=f.2.1
          have HC:=Lib.hid (zfa p (HT.out.st.all.ext (by decide) he))
          rw [HOFT.out] at HC
          go_wp
          refine HC.out.mono ?_
          rintro r W2 ⟨rfl,rfl⟩
          dsimp only
          go_wp
          exact zaa rfl (Ext.refl _)
         ·intro x W he f
          have h0:x 9=U was:=f.1
          go_wp
          exact zaa rfl (Ext.refl _)
         ·intro x W he f
          have h0:x 63=U was:=f.1
          have hw1:((was:Int)+1) % 18446744073709551616=((was+1:Nat):Int):=by omega
          go_wp
          exact zaa (v:=U (was+1)) rfl (Ext.refl _)
         ·intro x W he f
          have h0:x 62=U (was+1):=f.1
          have h1:x 64=U (was+1):=f.2.1
          go_wp
          exact zaa rfl (Ext.refl _)
         ·intro x W he f
          have h0:x 65 = .bool false:=f.1
          go_wp
          exact zaa rfl (Ext.refl _)
         ·intro x W he f
          have h0:x 10 = .pointer (some ⟨g,0,none⟩):=f.1
          have h1:x 66 = .bool false:=f.2.1
          go_wp
          exact zaa rfl (Ext.refl _)
         ·intro x W he f
          have h0:x 67 = .pointer (some ⟨g,0,none⟩):=f.1
          have h1:x 66 = .bool false:=f.2.1
          have k0:=(HT.out.ext he).row.cell (j:=0) rfl
          go_wp
          exact zaa rfl (Ext.refl _)
         ·intro x W he f
          have h0:x 1=St p:=f.1
          have h1:x 66 = .bool false:=f.2.1
          go_wp
          exact zaa rfl (Ext.refl _)
         ·intro x W he f
          have h0:x 68 = .slice C1 ta.length q1:=f.1
          have h1:x 69=St p:=f.2.1
          have h2:x 66 = .bool false:=f.2.2.1
          have HC:=Lib.hid (zkh p (HT.out.st.all.ext (by decide) he) (Nat.le_trans LST.out.all (by decide)))
          go_wp
          refine HC.out.mono ?_
          rintro r W2 ⟨v1,rfl,hn,hx2⟩
          have hn2:=(za6 hn).mono (S':=fun _=>True) (by decide) (fun _ _ _=>trivial)
          obtain⟨B,m,rfl,-,-⟩:=hn2.form
          have HN:=Lib.hid hn2
          clear hn hn2
          dsimp only
          go_wp
          exact zaa ⟨B,m,rfl,HN.out⟩ hx2
         ·intro x W he f
          have h0:x 4 = .pointer (some ⟨w.heap.size,0,none⟩):=f.1
          have h1:x 66 = .bool false:=f.2.1
          go_wp
          exact zaa rfl (Ext.refl _)
         ·intro x W he f
          have h0:x 71 = .pointer (some ⟨w.heap.size,0,none⟩):=f.1
          have h1:x 66 = .bool false:=f.2.1
          have c0:=(HA.out.ext he).ra.cell (j:=0) rfl
          go_wp
          exact zaa rfl (Ext.refl _)
         ·intro x W he f
          have h0:x 1=St p:=f.1
          have h1:x 66 = .bool false:=f.2.1
          go_wp
          exact zaa rfl (Ext.refl _)
         ·intro x W he f
          have h0:x 72 = .slice A1 sa.length n1:=f.1
          have h1:x 73=St p:=f.2.1
          have h2:x 66 = .bool false:=f.2.2.1
          have HC:=Lib.hid (zkh p (HA.out.sa.all.ext (by decide) he) (Nat.le_trans LSA.out.all (by decide)))
          go_wp
          refine HC.out.mono ?_
          rintro r W2 ⟨v1,rfl,hn,hx2⟩
          have hn2:=(za6 hn).mono (S':=fun _=>True) (by decide) (fun _ _ _=>trivial)
          obtain⟨B,m,rfl,-,-⟩:=hn2.form
          have HN:=Lib.hid hn2
          clear hn hn2
          dsimp only
          go_wp
          exact zaa ⟨B,m,rfl,HN.out⟩ hx2
         ·intro x W he f
          obtain⟨B,m,h0,hs0⟩:∃ B m,x 70 = .slice B (zbl ta p).length m∧Sl markT W (fun _=>True) (.slice B (zbl ta p).length m) (zbl ta p):=f.1
          obtain⟨B2,m2,h1,hs1⟩:∃ B m,x 74 = .slice B (zbl sa p).length m∧Sl markT W (fun _=>True) (.slice B (zbl sa p).length m) (zbl sa p):=f.2.1
          have h2:x 66 = .bool false:=f.2.2.1
          have HC:=Lib.hid (zhf hs0 hs1)
          rw [show decide (zbl ta p=zbl sa p)=true from decide_eq_true (HO.out.drop)] at HC
          clear hs0 hs1
          go_wp
          refine HC.out.mono ?_
          rintro r W2 ⟨rfl,hx2⟩
          dsimp only
          go_wp
          exact zaa rfl hx2
         ·intro x W he f
          have h0:x 75 = .bool true:=f.1
          have h1:x 66 = .bool false:=f.2.1
          go_wp
          exact zaa rfl (Ext.refl _)
         ·intro x W he f
          have h0:x 66 = .bool false:=f.1
          have h1:x 76 = .bool false:=f.2.1
          go_wp
          exact zaa rfl (Ext.refl _)
         ·intro x W he f
          have h0:x 77 = .bool false:=f.1
          go_wp
          exact zaa rfl (Ext.refl _)
         ·intro x W he f
          have h0:x 10 = .pointer (some ⟨g,0,none⟩):=f.1
          have h1:x 78 = .bool false:=f.2.1
          have k0:=(HT.out.ext he).row.cell (j:=0) rfl
          have k1:=(HT.out.ext he).row.cell (j:=1) rfl
          have k2:=(HT.out.ext he).row.cell (j:=2) rfl
          go_wp
          exact zaa rfl (Ext.refl _)
         ·intro x W he f
          have h0:x 79=stV (.slice C1 ta.length q1) (.slice C2 te.length q2) (.slice C3 tp.length q3):=f.1
          have h1:x 78 = .bool false:=f.2.1
          have HC:=Lib.hid (zhd (HT.out.st.ext he) (LST.out.small (by decide)))
          rw [HB.out] at HC
          go_wp
          refine HC.out.mono ?_
          rintro r W2 ⟨rfl,hx2⟩
          dsimp only
          go_wp
          exact zaa rfl hx2
         ·intro x W he f
          have h0:x 80 = .bool b:=f.1
          have h1:x 78 = .bool false:=f.2.1
          go_wp
          exact zaa rfl (Ext.refl _)
         ·intro x W he f
          have h0:x 81 = .bool (!b):=f.1
          have h1:x 78 = .bool false:=f.2.1
          go_wp
          exact zaa rfl (Ext.refl _)
         ·intro x W he f
          cases b with
          | true =>
           have hg:x 82 = .bool false:=f.2.1
           go_wp
           exact zaa (fun h=>by cases h) (Ext.refl _)
          | false =>
           have h0:x 4 = .pointer (some ⟨w.heap.size,0,none⟩):=f.1
           have hg:x 82 = .bool true:=f.2.1
           go_wp
           exact zaa (fun _=>rfl) (Ext.refl _)
         ·intro x W he f
          cases b with
          | true =>
           have hg:x 82 = .bool false:=f.2.1
           go_wp
           exact zaa (fun h=>by cases h) (Ext.refl _)
          | false =>
           have h0:x 83 = .pointer (some ⟨w.heap.size,0,none⟩):=f.1 rfl
           have hg:x 82 = .bool true:=f.2.1
           have c0:=(HA.out.ext he).ra.cell (j:=0) rfl
           go_wp
           exact zaa (fun _=>rfl) (Ext.refl _)
         ·intro x W he f
          cases b with
          | true =>
           have hg:x 82 = .bool false:=f.2.1
           go_wp
           exact zaa (fun h=>by cases h) (Ext.refl _)
          | false =>
           have h0:x 1=St p:=f.1
           have hg:x 82 = .bool true:=f.2.1
           go_wp
           exact zaa (fun _=>rfl) (Ext.refl _)
        case hend =>
         intro x W6 hx1 f
         have h77:x 77 = .bool false:=f.2.2.2.2.2.2.2.2.2.2.2.2.2.2.2.2.2.2.1
         have h78:x 78 = .bool false:=f.2.2.2.2.2.2.2.2.2.2.2.2.2.2.2.2.2.2.2.1
         have h82:x 82 = .bool (!b):=f.2.2.2.2.2.2.2.2.2.2.2.2.2.2.2.2.2.2.2.2.2.2.2.1
         have h84:b=false→x 84 = .slice A1 sa.length n1:=f.2.2.2.2.2.2.2.2.2.2.2.2.2.2.2.2.2.2.2.2.2.2.2.2.2.1
         have h85:b=false→x 85=St p:=f.2.2.2.2.2.2.2.2.2.2.2.2.2.2.2.2.2.2.2.2.2.2.2.2.2.2.1
         clear f
         have HA:=Lib.hid (HA.out.ext hx1)
         have HT:=Lib.hid (HT.out.ext hx1)
         have HX:=Lib.hid (HX.out.trans hx1)
         have hz0:=Nat.le_trans hz0 hx1.size
         clear hx1
         have HOF:=Lib.hid (zfa p HA.out.sa.all)
         rw [HW.out] at HOF
         have hbw:b=false→was=0:=fun h=>by
          have hm:=HO.out.may
          simp only at hm
          rw [HW.out,HB.out,h] at hm
          exact Nat.eq_zero_of_not_pos fun h0=>by cases hm h0
         have hrest:True:=trivial
         cases b with
         | true =>
          clear h84 h85 hbw HOF
          simp only [List.length_cons,List.length_nil,Nat.reduceAdd,List.take_succ_cons,List.take_zero,List.filterMap_cons,List.filterMap_nil,List.drop_succ_cons,List.drop_zero,zau,Act.put,List.setIfInBounds_toArray,List.set_cons_succ,List.set_cons_zero,h77,h78,h82,Bool.not_true]
          go_wp
          go_wp2_with fail
          have hse:se.length≤400:=LSA.out.entries
          have hte:te.length≤se.length+1:=HO.out.len
          have HEA:=Lib.hid (fun (pre post:List Entry) (m:Entry) (wr:World) (h:Ext W6 wr) (hl:se=pre++m :: post)=>zb1 HA.out.sa.entries h hl)
          go_loopw [12] (fun i wr=>∃ pre post,se=pre++post∧i=I pre.length∧Ext W6 wr) (fun i _=>se.length - (intOf i).toNat)
          case atStart=>exact⟨[],se,rfl,rfl,Ext.refl _⟩
          case round =>
           obtain⟨pre,post,hl,rfl,hx1⟩:=hrel
           have HX6:=Lib.hid hx1
           have HA:=Lib.hid (HA.out.ext hx1)
           have HT:=Lib.hid (HT.out.ext hx1)
           have HX:=Lib.hid (HX.out.trans hx1)
           have hz0:=Nat.le_trans hz0 hx1.size
           clear hx1
           cases post with
           | cons e post =>
            have hlt:pre.length < se.length:=by rw [hl];simp
            obtain⟨b1,o1,w1,w2,w3,rfl,e0,e1,e2,e3,e4,e5,e6,hEA⟩:=HEA.out pre post e wr HX6.out hl
            obtain⟨Z1,z1,rfl,-,-⟩:=hEA.seen.form
            obtain⟨Z2,z2,rfl,-,-⟩:=hEA.counts.form
            obtain⟨Z3,z3,rfl,-,-⟩:=hEA.items.form
            have hEM:e ∈ se:=by rw [hl];simp
            obtain⟨E,hE,hEk⟩:=HO.out.each e hEM
            simp only at hE
            have HE:=Lib.hid hE
            have HEK:=Lib.hid hEk
            have HL:=Lib.hid hl
            have HEE:=Lib.hid hEA
            have HKE:=Lib.hid (zhq hE)
            clear hE hEk hl hEA hEM
            have c1:=HA.out.ra.cell (j:=1) rfl
            go_wp2_with fail
            refine zgg [some fun v=>v=stV (.slice C1 ta.length q1) (.slice C2 te.length q2) (.slice C3 tp.length q3),some fun v=>v = .pointer (some ⟨w.heap.size,1,none⟩),some fun v=>v = .slice (some ⟨b1,o1,none⟩) se.length n2,some fun v=>v=I pre.length,some fun v=>v = .pointer (some ⟨b1,o1+pre.length * 7,none⟩),some fun v=>v = .pointer (some ⟨b1,o1+pre.length * 7,none⟩),some fun v=>v=St e.key,none,none,none,some fun v=>v = .bool true,none,none] (BoxK wr.heap.size 37 zvy (CEnt E) tupE agE 7 8 9 11 12) rfl (by kernel_rfl) ?hK ?h0 ?hstep ?hend
            case hK=>exact fun st w w' h he=>h.ext CEnt.keep he
            case h0=>exact BoxK.start _
            case hstep =>
             simp only [List.length_cons,List.length_nil,Nat.reduceAdd,List.take_succ_cons,List.take_zero,zgd,zh7,and_true]
             refine ⟨?_,?_,?_,?_,?_,?_,?_,?_,?_,?_,?_,?_,?_⟩
             ·intro x W st he hK f
              have h0:x 10 = .pointer (some ⟨g,0,none⟩):=f.1
              clear hK
              have k0:=(HT.out.ext he).row.cell (j:=0) rfl
              have k1:=(HT.out.ext he).row.cell (j:=1) rfl
              have k2:=(HT.out.ext he).row.cell (j:=2) rfl
              go_wp
              exact zaa rfl (Ext.refl _)
             ·intro x W st he hK f
              have h0:x 4 = .pointer (some ⟨w.heap.size,0,none⟩):=f.1
              clear hK
              go_wp
              exact zaa rfl (Ext.refl _)
             ·intro x W st he hK f
              have h0:x 99 = .pointer (some ⟨w.heap.size,1,none⟩):=f.1
              clear hK
              have c1:=(HA.out.ext he).ra.cell (j:=1) rfl
              go_wp
              exact zaa rfl (Ext.refl _)
             ·intro x W st he hK f
              have h0:x 12=I pre.length:=f.1
              clear hK
              go_wp
              exact zaa rfl (Ext.refl _)
             ·intro x W st he hK f
              have h0:x 100 = .slice (some ⟨b1,o1,none⟩) se.length n2:=f.1
              have h1:x 101=I pre.length:=f.2.1
              clear hK
              go_wp
              exact zaa rfl (Ext.refl _)
             ·intro x W st he hK f
              have h0:x 102 = .pointer (some ⟨b1,o1+pre.length * 7,none⟩):=f.1
              clear hK
              go_wp
              exact zaa rfl (Ext.refl _)
             ·intro x W st he hK f
              have h0:x 103 = .pointer (some ⟨b1,o1+pre.length * 7,none⟩):=f.1
              clear hK
              have d0:=he.cell e0
              go_wp
              exact zaa rfl (Ext.refl _)
             ·intro x W st he hK hn f
              have h0:x 98=stV (.slice C1 ta.length q1) (.slice C2 te.length q2) (.slice C3 tp.length q3):=f.1
              have h1:x 104=St e.key:=f.2.1
              have HC:=Lib.hid (zma e.key (HT.out.st.ext he) (fun m hm=>(LST.out.each m hm).small (by decide)))
              dsimp only at HC
              rw [HE.out] at HC
              simp only [Option.getD_some,Option.isSome_some] at HC
              have HK:=Lib.hid hK
              clear hK
              go_wp
              refine HC.out.mono ?_
              rintro r W2 ⟨u1,u2,u3,rfl,hn2,hx2⟩
              obtain⟨B1,m1,rfl,-,-⟩:=hn2.seen.form
              obtain⟨B2,m2,rfl,-,-⟩:=hn2.counts.form
              obtain⟨B3,m3,rfl,-,-⟩:=hn2.items.form
              have HN:=Lib.hid hn2.at
              clear hn2
              dsimp only
              go_wp
              exact zdl ⟨HK.out.call (xs:=entL E (.slice B1 E.seen.length m1) (.slice B2 E.counts.length m2) (.slice B3 E.items.length m3)) (by decide) hn hx2 he.size ⟨B1,m1,B2,m2,B3,m3,rfl,HN.out.mono fun b hb h=>⟨h,hb⟩⟩,he.trans hx2⟩
             ·intro x W st he hK hn f
              have h0:st 7=some (x 105):=f.1
              have HK:=Lib.hid hK
              clear hK
              go_wp
              exact zdl ⟨HK.out.move (by decide) h0,he⟩
             ·intro x W st he hK hn f
              have h0:st 8=some (x 97):=f.1
              obtain⟨xs,S,hv,⟨B1,m1,B2,m2,B3,m3,rfl,-⟩,hK2⟩:=hK.part (by decide) h0
              have HK:=Lib.hid hK2
              clear hK hK2
              go_wp
              exact zdl ⟨HK.out,he⟩
             ·intro x W st he hK f
              have h0:st 8=some (x 97):=f.1
              obtain⟨xs,S,hv,⟨B1,m1,B2,m2,B3,m3,rfl,-⟩,hK2⟩:=hK.part (by decide) h0
              have HK:=Lib.hid hK2
              clear hK hK2
              go_wp
              exact zaa rfl (Ext.refl _)
             ·intro x W st he hK hn f
              have HK:=Lib.hid hK
              clear hK
              go_wp
              exact zdl ⟨HK.out.alloc CEnt.keep (by decide) hn he.size,he.alloc _⟩
             ·intro x W st he hK hn f
              have h0:st 11=some (x 13):=f.1
              have h1:st 9=some (x 106):=f.2.1
              obtain⟨xs,S,g2,hv,hp,hg2,hr,⟨B1,m1,B2,m2,B3,m3,rfl,-⟩,hfin⟩:=hK.store CEnt.keep (by decide) h1 h0 hn
              have r0:=hr.cell (j:=0) rfl
              have r1:=hr.cell (j:=1) rfl
              have r2:=hr.cell (j:=2) rfl
              have r3:=hr.cell (j:=3) rfl
              have r4:=hr.cell (j:=4) rfl
              have r5:=hr.cell (j:=5) rfl
              have r6:=hr.cell (j:=6) rfl
              have y0:=hr.frozen 0
              have y1:=hr.frozen 1
              have y2:=hr.frozen 2
              have y3:=hr.frozen 3
              have y4:=hr.frozen 4
              have y5:=hr.frozen 5
              have y6:=hr.frozen 6
              have hfi:=hfin (put7 W g2 E (.slice B1 E.seen.length m1) (.slice B2 E.counts.length m2) (.slice B3 E.items.length m3)) (.bool true) (zip (e0:=zad) hr) (Nat.le_of_eq (zhr _ _ _ _ _ _).symm) (fun y hy=>zdi _ _ _ _ _ _ y hy)
              have hxe:=za8 he hg2 E (.slice B1 E.seen.length m1) (.slice B2 E.counts.length m2) (.slice B3 E.items.length m3)
              have HK:=Lib.hid hfi
              have HXE:=Lib.hid hxe
              clear hK hfin hfi hxe hr h0 h1
              go_wp
              exact zdl (v:=.bool true) ⟨HK.out,HXE.out⟩
            case hend =>
             intro x W8 st hx1 hK hn f
             have h13:st 11=some (x 13):=f.2.2.2.2.2.2.2.2.2.2.2.1
             have h107:x 107 = .bool true:=f.2.2.2.2.2.2.2.2.2.2.1
             obtain⟨xs,S,g2,hp,-,hrow,⟨B1,m1,B2,m2,B3,m3,rfl,hEat⟩,-⟩:=hK.done h13 (hn 12 (show 12 < 13 by decide) rfl)
             have HRW:=Lib.hid hrow
             have HEN:=Lib.hid hEat
             have HX8:=Lib.hid hx1
             have d0:=hx1.cell e0
             have d1:=hx1.cell e1
             have d2:=hx1.cell e2
             have d3:=hx1.cell e3
             have d4:=hx1.cell e4
             have d5:=hx1.cell e5
             have d6:=hx1.cell e6
             have HA:=Lib.hid (HA.out.ext hx1)
             have HT:=Lib.hid (HT.out.ext hx1)
             have HX:=Lib.hid (HX.out.trans hx1)
             have hz0:=Nat.le_trans hz0 hx1.size
             clear hx1
             clear hK hn f hrow hEat h13
             clear e0 e1 e2 e3 e4 e5 e6
             simp only [List.length_cons,List.length_nil,Nat.reduceAdd,List.take_succ_cons,List.take_zero,List.filterMap_cons,List.filterMap_nil,List.drop_succ_cons,List.drop_zero,zau,Act.put,List.setIfInBounds_toArray,List.set_cons_succ,List.set_cons_zero,h107,hp]
             go_wp
             go_wp2_with fail
             by_cases hkk:E.key=k
             ·skip
              refine zaz [fun v _=>v = .bool true,fun v _=>v = .bool false,fun v _=>v = .bool false,fun v _=>v = .pointer (some ⟨g2,0,none⟩),fun v _=>v=St k,fun v _=>v = .pointer (some ⟨w.heap.size+1,1,none⟩),fun v _=>v=St k,fun v _=>v = .bool false,fun v _=>v = .bool false,fun _ _=>True,fun _ _=>True,fun _ _=>True,fun _ _=>True,fun _ _=>True,fun _ _=>True] rfl (by kernel_rfl) ?hR ?hstep ?hend
              case hR =>
               simp only [List.mem_cons,List.not_mem_nil,or_false,forall_eq_or_imp,forall_eq]
               exact⟨fun v _ _ h _=>h,fun v _ _ h _=>h,fun v _ _ h _=>h,fun v _ _ h _=>h,fun v _ _ h _=>h,fun v _ _ h _=>h,fun v _ _ h _=>h,fun v _ _ h _=>h,fun v _ _ h _=>h,fun _ _ _ _ _=>trivial,fun _ _ _ _ _=>trivial,fun _ _ _ _ _=>trivial,fun _ _ _ _ _=>trivial,fun _ _ _ _ _=>trivial,fun _ _ _ _ _=>trivial⟩
              case hstep =>
               simp only [List.length_cons,List.length_nil,Nat.reduceAdd,List.take_succ_cons,List.take_zero,zbn,and_true]
               refine ⟨?_,?_,?_,?_,?_,?_,?_,?_,?_,?_,?_,?_,?_,?_,?_⟩
               ·intro x W he f
                have h0:x 14 = .bool true:=f.1
                go_wp
                exact zaa rfl (Ext.refl _)
               ·intro x W he f
                have h0:x 108 = .bool true:=f.1
                go_wp
                exact zaa rfl (Ext.refl _)
               ·intro x W he f
                have h0:x 109 = .bool false:=f.1
                go_wp
                exact zaa rfl (Ext.refl _)
               ·intro x W he f
                have h0:x 13 = .pointer (some ⟨g2,0,none⟩):=f.1
                have h1:x 110 = .bool false:=f.2.1
                go_wp
                exact zaa rfl (Ext.refl _)
               ·intro x W he f
                have h0:x 111 = .pointer (some ⟨g2,0,none⟩):=f.1
                have h1:x 110 = .bool false:=f.2.1
                have r0:=(HRW.out.ext he).cell (j:=0) rfl
                rw [hkk] at r0
                go_wp
                exact zaa rfl (Ext.refl _)
               ·intro x W he f
                have h0:x 6 = .pointer (some ⟨w.heap.size+1,0,none⟩):=f.1
                have h1:x 110 = .bool false:=f.2.1
                go_wp
                exact zaa rfl (Ext.refl _)
               ·intro x W he f
                have h0:x 113 = .pointer (some ⟨w.heap.size+1,1,none⟩):=f.1
                have h1:x 110 = .bool false:=f.2.1
                have o1:=(HA.out.ext he).ro.cell (j:=1) rfl
                go_wp
                exact zaa rfl (Ext.refl _)
               ·intro x W he f
                have h0:x 112=St k:=f.1
                have h1:x 114=St k:=f.2.1
                have h2:x 110 = .bool false:=f.2.2.1
                go_wp
                exact zaa rfl (Ext.refl _)
               ·intro x W he f
                have h0:x 115 = .bool false:=f.1
                have h1:x 110 = .bool false:=f.2.1
                go_wp
                exact zaa rfl (Ext.refl _)
               ·intro x W he f
                have hg:x 116 = .bool false:=f.2.1
                go_wp
                exact zaa trivial (Ext.refl _)
               ·intro x W he f
                have hg:x 116 = .bool false:=f.2.1
                go_wp
                exact zaa trivial (Ext.refl _)
               ·intro x W he f
                have hg:x 116 = .bool false:=f.2.1
                go_wp
                exact zaa trivial (Ext.refl _)
               ·intro x W he f
                have hg:x 116 = .bool false:=f.2.1
                go_wp
                exact zaa trivial (Ext.refl _)
               ·intro x W he f
                have hg:x 116 = .bool false:=f.2.2.1
                go_wp
                exact zaa trivial (Ext.refl _)
               ·intro x W he f
                have hg:x 116 = .bool false:=f.2.1
                go_wp
                exact zaa trivial (Ext.refl _)
              case hend =>
               intro x W9 hx1 f
               have h110:x 110 = .bool false:=f.2.2.1
               have h116:x 116 = .bool false:=f.2.2.2.2.2.2.2.2.1
               clear f
               have HX9:=Lib.hid ((HX6.out.trans HX8.out).trans hx1)
               clear hx1
               simp only [List.length_cons,List.length_nil,Nat.reduceAdd,List.take_succ_cons,List.take_zero,List.filterMap_cons,List.filterMap_nil,List.drop_succ_cons,List.drop_zero,zau,Act.put,List.setIfInBounds_toArray,List.set_cons_succ,List.set_cons_zero,h110,h116]
               go_wp
               go_wp2_with fail
               go_roundw
               case rel=>exact⟨pre++[e],post,by rw [HL.out];simp,by simp,HX9.out⟩
               case measure=>simp [intOf];omega
             ·skip
              refine zaz [fun v _=>v = .bool true,fun v _=>v = .bool false,fun v _=>v = .bool false,fun v _=>v = .pointer (some ⟨g2,0,none⟩),fun v _=>v=St E.key,fun v _=>v = .pointer (some ⟨w.heap.size+1,1,none⟩),fun v _=>v=St k,fun v _=>v = .bool true,fun v _=>v = .bool true,fun v _=>v=entV E (.slice B1 E.seen.length m1) (.slice B2 E.counts.length m2) (.slice B3 E.items.length m3),fun v _=>v = .pointer (some ⟨w.heap.size,1,none⟩),fun v _=>v = .slice (some ⟨b1,o1,none⟩) se.length n2,fun v _=>v=I pre.length,fun v _=>v = .pointer (some ⟨b1,o1+pre.length * 7,none⟩),fun v _=>v=entV e (.slice Z1 e.seen.length z1) (.slice Z2 e.counts.length z2) (.slice Z3 e.items.length z3)] rfl (by kernel_rfl) ?hR ?hstep ?hend
              case hR =>
               simp only [List.mem_cons,List.not_mem_nil,or_false,forall_eq_or_imp,forall_eq]
               exact⟨fun v _ _ h _=>h,fun v _ _ h _=>h,fun v _ _ h _=>h,fun v _ _ h _=>h,fun v _ _ h _=>h,fun v _ _ h _=>h,fun v _ _ h _=>h,fun v _ _ h _=>h,fun v _ _ h _=>h,fun v _ _ h _=>h,fun v _ _ h _=>h,fun v _ _ h _=>h,fun v _ _ h _=>h,fun v _ _ h _=>h,fun v _ _ h _=>h⟩
              case hstep =>
               simp only [List.length_cons,List.length_nil,Nat.reduceAdd,List.take_succ_cons,List.take_zero,zbn,and_true]
               refine ⟨?_,?_,?_,?_,?_,?_,?_,?_,?_,?_,?_,?_,?_,?_,?_⟩
               ·intro x W he f
                have h0:x 14 = .bool true:=f.1
                go_wp
                exact zaa rfl (Ext.refl _)
               ·intro x W he f
                have h0:x 108 = .bool true:=f.1
                go_wp
                exact zaa rfl (Ext.refl _)
               ·intro x W he f
                have h0:x 109 = .bool false:=f.1
                go_wp
                exact zaa rfl (Ext.refl _)
               ·intro x W he f
                have h0:x 13 = .pointer (some ⟨g2,0,none⟩):=f.1
                have h1:x 110 = .bool false:=f.2.1
                go_wp
                exact zaa rfl (Ext.refl _)
               ·intro x W he f
                have h0:x 111 = .pointer (some ⟨g2,0,none⟩):=f.1
                have h1:x 110 = .bool false:=f.2.1
                have r0:=(HRW.out.ext he).cell (j:=0) rfl
                go_wp
                exact zaa rfl (Ext.refl _)
               ·intro x W he f
                have h0:x 6 = .pointer (some ⟨w.heap.size+1,0,none⟩):=f.1
                have h1:x 110 = .bool false:=f.2.1
                go_wp
                exact zaa rfl (Ext.refl _)
               ·intro x W he f
                have h0:x 113 = .pointer (some ⟨w.heap.size+1,1,none⟩):=f.1
                have h1:x 110 = .bool false:=f.2.1
                have o1:=(HA.out.ext he).ro.cell (j:=1) rfl
                go_wp
                exact zaa rfl (Ext.refl _)
               ·intro x W he f
                have h0:x 112=St E.key:=f.1
                have h1:x 114=St k:=f.2.1
                have h2:x 110 = .bool false:=f.2.2.1
                have hkb:(E.key == k)=false:=by simpa using hkk
                have hkc:(E.key != k)=true:=by simpa using hkk
                go_wp
                exact zaa rfl (Ext.refl _)
               ·intro x W he f
                have h0:x 115 = .bool true:=f.1
                have h1:x 110 = .bool false:=f.2.1
                go_wp
                exact zaa rfl (Ext.refl _)
               ·intro x W he f
                have h0:x 13 = .pointer (some ⟨g2,0,none⟩):=f.1
                have h1:x 116 = .bool true:=f.2.1
                have r0:=(HRW.out.ext he).cell (j:=0) rfl
                have r1:=(HRW.out.ext he).cell (j:=1) rfl
                have r2:=(HRW.out.ext he).cell (j:=2) rfl
                have r3:=(HRW.out.ext he).cell (j:=3) rfl
                have r4:=(HRW.out.ext he).cell (j:=4) rfl
                have r5:=(HRW.out.ext he).cell (j:=5) rfl
                have r6:=(HRW.out.ext he).cell (j:=6) rfl
                go_wp
                exact zaa rfl (Ext.refl _)
               ·intro x W he f
                have h0:x 4 = .pointer (some ⟨w.heap.size,0,none⟩):=f.1
                have h1:x 116 = .bool true:=f.2.1
                go_wp
                exact zaa rfl (Ext.refl _)
               ·intro x W he f
                have h0:x 118 = .pointer (some ⟨w.heap.size,1,none⟩):=f.1
                have h1:x 116 = .bool true:=f.2.1
                have c1:=(HA.out.ext he).ra.cell (j:=1) rfl
                go_wp
                exact zaa rfl (Ext.refl _)
               ·intro x W he f
                have h0:x 12=I pre.length:=f.1
                have h1:x 116 = .bool true:=f.2.1
                go_wp
                exact zaa rfl (Ext.refl _)
               ·intro x W he f
                have h0:x 119 = .slice (some ⟨b1,o1,none⟩) se.length n2:=f.1
                have h1:x 120=I pre.length:=f.2.1
                have h2:x 116 = .bool true:=f.2.2.1
                go_wp
                exact zaa rfl (Ext.refl _)
               ·intro x W he f
                have h0:x 121 = .pointer (some ⟨b1,o1+pre.length * 7,none⟩):=f.1
                have h1:x 116 = .bool true:=f.2.1
                have y0:=he.cell d0
                have y1:=he.cell d1
                have y2:=he.cell d2
                have y3:=he.cell d3
                have y4:=he.cell d4
                have y5:=he.cell d5
                have y6:=he.cell d6
                go_wp
                exact zaa rfl (Ext.refl _)
              case hend =>
               intro x W9 hx1 f
               have h110:x 110 = .bool false:=f.2.2.1
               have h116:x 116 = .bool true:=f.2.2.2.2.2.2.2.2.1
               have h117:x 117=entV E (.slice B1 E.seen.length m1) (.slice B2 E.counts.length m2) (.slice B3 E.items.length m3):=f.2.2.2.2.2.2.2.2.2.1
               have h122:x 122=entV e (.slice Z1 e.seen.length z1) (.slice Z2 e.counts.length z2) (.slice Z3 e.items.length z3):=f.2.2.2.2.2.2.2.2.2.2.2.2.2.2.1
               clear f
               have HC:=Lib.hid (zhy (HEN.out.ext hx1) ((HEE.out.ext (HX6.out.trans HX8.out)).ext hx1))
               rw [show zav E e=true from sameE_iff.2 (HEK.out hkk)] at HC
               have HX9:=Lib.hid ((HX6.out.trans HX8.out).trans hx1)
               clear hx1
               simp only [List.length_cons,List.length_nil,Nat.reduceAdd,List.take_succ_cons,List.take_zero,List.filterMap_cons,List.filterMap_nil,List.drop_succ_cons,List.drop_zero,zau,Act.put,List.setIfInBounds_toArray,List.set_cons_succ,List.set_cons_zero,h110,h116,h117,h122]
               go_wp
               refine HC.out.mono ?_
               rintro r Y ⟨rfl,hx1⟩
               dsimp only
               have HX9:=Lib.hid (HX9.out.trans hx1)
               clear hx1
               go_wp
               go_wp2_with fail
               go_roundw
               case rel=>exact⟨pre++[e],post,by rw [HL.out];simp,by simp,HX9.out⟩
               case measure=>simp [intOf];omega
           | nil =>
            rw [List.append_nil] at hl
            subst hl
            have hge:¬ ((te.length:Int) > (se.length:Int)+1):=by omega
            have hge2:decide ((se.length:Int)+1 < (te.length:Int))=false:=decide_eq_false (by omega)
            have k1:=HT.out.row.cell (j:=1) rfl
            have c1:=HA.out.ra.cell (j:=1) rfl
            clear HEA HX6
            have HRE:=Lib.hid (zmg (s:=⟨sa,se,sp⟩) (p:=p) (n:=num))
            have HRO:=Lib.hid (zoq (s:=⟨sa,se,sp⟩) (p:=p) (n:=num))
            have HU:=Lib.hid (zfp p num hnum HA.out.sa SMA.out)
            have c0:=HA.out.ra.cell (j:=0) rfl
            have c1:=HA.out.ra.cell (j:=1) rfl
            have c2:=HA.out.ra.cell (j:=2) rfl
            go_wp2_with fail
            refine HU.out.mono ?_
            rintro r V ⟨u1,u2,u3,rfl,hS,hx1⟩
            clear HU c0 c1 c2
            have HA:=Lib.hid (HA.out.ext hx1)
            have HT:=Lib.hid (HT.out.ext hx1)
            have HX:=Lib.hid (HX.out.trans hx1)
            have hz0:=Nat.le_trans hz0 hx1.size
            clear hx1
            generalize zbo ⟨sa,se,sp⟩ p num=R2 at *
            obtain⟨⟨va,ve,vp⟩,f0⟩:=R2
            dsimp only at hS HRE HRO ⊢
            obtain⟨D1,y1,rfl,-,-⟩:=hS.all.form
            obtain⟨D2,y2,rfl,-,-⟩:=hS.entries.form
            obtain⟨D3,y3,rfl,-,-⟩:=hS.pruned.form
            have hx1:=(Ext.refl V).alloc (.cells #[.slice D1 va.length y1,.slice D2 ve.length y2,.slice D3 vp.length y3] 30)
            have hr2:=zab V 30 [.slice D1 va.length y1,.slice D2 ve.length y2,.slice D3 vp.length y3]
            have hr2:=zab V 30 [.slice D1 va.length y1,.slice D2 ve.length y2,.slice D3 vp.length y3]
            have hst2:StAt (V.alloc (.cells #[.slice D1 va.length y1,.slice D2 ve.length y2,.slice D3 vp.length y3] 30)) (fun b=>b < V.heap.size) ⟨va,ve,vp⟩ (.slice D1 va.length y1) (.slice D2 ve.length y2) (.slice D3 vp.length y3):=(hS.mono (S':=fun b=>b < V.heap.size) (fun b hb _=>hb)).ext hx1
            have hst3:=Lib.hid hS
            have HAV:=HA
            have HXV:=HX
            clear hS
            have HA:=Lib.hid (HA.out.ext hx1)
            have HT:=Lib.hid (HT.out.ext hx1)
            have HX:=Lib.hid (HX.out.trans hx1)
            have hz0:=Nat.le_trans hz0 hx1.size
            clear hx1
            by_cases hf0:f0=0
            ·subst hf0
             obtain⟨e1,e2⟩:=HRO.out rfl
             have e3:=e1.symm
             have e4:=e2.symm
             subst e3 e4
             clear HRE HRO
             have r0:=hr2.cell (j:=0) rfl
             have r1:=hr2.cell (j:=1) rfl
             have r2:=hr2.cell (j:=2) rfl
             have z0:=hr2.frozen 0
             have z1:=hr2.frozen 1
             have z2:=hr2.frozen 2
             have c0:=HA.out.ra.cell (j:=0) rfl
             have c1:=HA.out.ra.cell (j:=1) rfl
             have c2:=HA.out.ra.cell (j:=2) rfl
             have hr3:=zab V 30 [.slice A1 sa.length n1,.slice D2 se.length y2,.slice D3 sp.length y3]
             have hx3:=(Ext.refl V).alloc (.cells #[.slice A1 sa.length n1,.slice D2 se.length y2,.slice D3 sp.length y3] 30)
             have hq2:=hst3.out.ext hx3
             have hsa3:=HAV.out.sa.ext hx3
             have hra3:=HAV.out.ra.ext hx3
             have HSM:=Lib.hid (zdu (a:=⟨sa,se,sp⟩) (b:=⟨sa,se,sp⟩) ⟨hsa3.all.mono (S':=fun _=>True) (by decide) (fun _ _ _=>trivial),hq2.entries.mono (S':=fun _=>True) (by decide) (fun _ _ _=>trivial),hq2.pruned.mono (S':=fun _=>True) (by decide) (fun _ _ _=>trivial)⟩ hsa3)
             rw [show zbv ⟨sa,se,sp⟩ ⟨sa,se,sp⟩=true from sameSt_iff.2 rfl] at HSM
             have s0:=hr3.cell (j:=0) rfl
             have s1:=hr3.cell (j:=1) rfl
             have s2:=hr3.cell (j:=2) rfl
             have d0:=hra3.cell (j:=0) rfl
             have d1:=hra3.cell (j:=1) rfl
             have d2:=hra3.cell (j:=2) rfl
             have HX3:=Lib.hid (HXV.out.trans hx3)
             clear hr2 hr3 hx3 hst2 hq2 hsa3 hra3
             go_wp2_with fail
             refine HSM.out.mono ?_
             rintro r Z0 ⟨rfl,hxz0⟩
             go_wp2_with fail
             refine (zce _).mono ?_
             rintro r Z ⟨rfl,hxz⟩
             go_wp2_with fail
             go_ret
             exact⟨rfl,(HX3.out.trans hxz0).trans hxz⟩
            ·have hf1:((f0:Int) == 0)=false:=by rw [beq_eq_false_iff_ne];omega
             have e0:=HRE.out hf0
             cases e0
             clear HRE HRO
             have r0:=hr2.cell (j:=0) rfl
             have r1:=hr2.cell (j:=1) rfl
             have r2:=hr2.cell (j:=2) rfl
             have HSM:=Lib.hid (zdu (a:=zat) (b:=zat) (hst2.mono (S':=fun _=>True) (fun _ _ _=>trivial)) (StAt.none _ (fun _=>True) none none none))
             rw [show zbv zat zat=true from sameSt_iff.2 rfl] at HSM
             clear hr2 hst2
             go_wp2_with fail
             refine HSM.out.mono ?_
             rintro r Z0 ⟨rfl,hxz0⟩
             go_wp2_with fail
             refine (zce _).mono ?_
             rintro r Z ⟨rfl,hxz⟩
             go_wp2_with fail
             go_ret
             exact⟨rfl,(HX.out.trans hxz0).trans hxz⟩
         | false =>
          have e84:=h84 rfl
          have e85:=h85 rfl
          have hw0:=hbw rfl
          subst hw0
          clear h84 h85 hbw
          simp only [List.length_cons,List.length_nil,Nat.reduceAdd,List.take_succ_cons,List.take_zero,List.filterMap_cons,List.filterMap_nil,List.drop_succ_cons,List.drop_zero,zau,Act.put,List.setIfInBounds_toArray,List.set_cons_succ,List.set_cons_zero,h77,h78,h82,e84,e85,Bool.not_false]
          go_wp
          refine HOF.out.mono ?_
          rintro r W7 ⟨rfl,rfl⟩
          dsimp only
          go_wp
          go_wp2_with fail
          have hse:se.length≤400:=LSA.out.entries
          have hte:te.length≤se.length+1:=HO.out.len
          have HEA:=Lib.hid (fun (pre post:List Entry) (m:Entry) (wr:World) (h:Ext W6 wr) (hl:se=pre++m :: post)=>zb1 HA.out.sa.entries h hl)
          go_loopw [12] (fun i wr=>∃ pre post,se=pre++post∧i=I pre.length∧Ext W6 wr) (fun i _=>se.length - (intOf i).toNat)
          case atStart=>exact⟨[],se,rfl,rfl,Ext.refl _⟩
          case round =>
           obtain⟨pre,post,hl,rfl,hx1⟩:=hrel
           have HX6:=Lib.hid hx1
           have HA:=Lib.hid (HA.out.ext hx1)
           have HT:=Lib.hid (HT.out.ext hx1)
           have HX:=Lib.hid (HX.out.trans hx1)
           have hz0:=Nat.le_trans hz0 hx1.size
           clear hx1
           cases post with
           | cons e post =>
            have hlt:pre.length < se.length:=by rw [hl];simp
            obtain⟨b1,o1,w1,w2,w3,rfl,e0,e1,e2,e3,e4,e5,e6,hEA⟩:=HEA.out pre post e wr HX6.out hl
            obtain⟨Z1,z1,rfl,-,-⟩:=hEA.seen.form
            obtain⟨Z2,z2,rfl,-,-⟩:=hEA.counts.form
            obtain⟨Z3,z3,rfl,-,-⟩:=hEA.items.form
            have hEM:e ∈ se:=by rw [hl];simp
            obtain⟨E,hE,hEk⟩:=HO.out.each e hEM
            simp only at hE
            have HE:=Lib.hid hE
            have HEK:=Lib.hid hEk
            have HL:=Lib.hid hl
            have HEE:=Lib.hid hEA
            have HKE:=Lib.hid (zhq hE)
            clear hE hEk hl hEA hEM
            have c1:=HA.out.ra.cell (j:=1) rfl
            go_wp2_with fail
            refine zgg [some fun v=>v=stV (.slice C1 ta.length q1) (.slice C2 te.length q2) (.slice C3 tp.length q3),some fun v=>v = .pointer (some ⟨w.heap.size,1,none⟩),some fun v=>v = .slice (some ⟨b1,o1,none⟩) se.length n2,some fun v=>v=I pre.length,some fun v=>v = .pointer (some ⟨b1,o1+pre.length * 7,none⟩),some fun v=>v = .pointer (some ⟨b1,o1+pre.length * 7,none⟩),some fun v=>v=St e.key,none,none,none,some fun v=>v = .bool true,none,none] (BoxK wr.heap.size 37 zvy (CEnt E) tupE agE 7 8 9 11 12) rfl (by kernel_rfl) ?hK ?h0 ?hstep ?hend
            case hK=>exact fun st w w' h he=>h.ext CEnt.keep he
            case h0=>exact BoxK.start _
            case hstep =>
             simp only [List.length_cons,List.length_nil,Nat.reduceAdd,List.take_succ_cons,List.take_zero,zgd,zh7,and_true]
             refine ⟨?_,?_,?_,?_,?_,?_,?_,?_,?_,?_,?_,?_,?_⟩
             ·intro x W st he hK f
              have h0:x 10 = .pointer (some ⟨g,0,none⟩):=f.1
              clear hK
              have k0:=(HT.out.ext he).row.cell (j:=0) rfl
              have k1:=(HT.out.ext he).row.cell (j:=1) rfl
              have k2:=(HT.out.ext he).row.cell (j:=2) rfl
              go_wp
              exact zaa rfl (Ext.refl _)
             ·intro x W st he hK f
              have h0:x 4 = .pointer (some ⟨w.heap.size,0,none⟩):=f.1
              clear hK
              go_wp
              exact zaa rfl (Ext.refl _)
             ·intro x W st he hK f
              have h0:x 99 = .pointer (some ⟨w.heap.size,1,none⟩):=f.1
              clear hK
              have c1:=(HA.out.ext he).ra.cell (j:=1) rfl
              go_wp
              exact zaa rfl (Ext.refl _)
             ·intro x W st he hK f
              have h0:x 12=I pre.length:=f.1
              clear hK
              go_wp
              exact zaa rfl (Ext.refl _)
             ·intro x W st he hK f
              have h0:x 100 = .slice (some ⟨b1,o1,none⟩) se.length n2:=f.1
              have h1:x 101=I pre.length:=f.2.1
              clear hK
              go_wp
              exact zaa rfl (Ext.refl _)
             ·intro x W st he hK f
              have h0:x 102 = .pointer (some ⟨b1,o1+pre.length * 7,none⟩):=f.1
              clear hK
              go_wp
              exact zaa rfl (Ext.refl _)
             ·intro x W st he hK f
              have h0:x 103 = .pointer (some ⟨b1,o1+pre.length * 7,none⟩):=f.1
              clear hK
              have d0:=he.cell e0
              go_wp
              exact zaa rfl (Ext.refl _)
             ·intro x W st he hK hn f
              have h0:x 98=stV (.slice C1 ta.length q1) (.slice C2 te.length q2) (.slice C3 tp.length q3):=f.1
              have h1:x 104=St e.key:=f.2.1
              have HC:=Lib.hid (zma e.key (HT.out.st.ext he) (fun m hm=>(LST.out.each m hm).small (by decide)))
              dsimp only at HC
              rw [HE.out] at HC
              simp only [Option.getD_some,Option.isSome_some] at HC
              have HK:=Lib.hid hK
              clear hK
              go_wp
              refine HC.out.mono ?_
              rintro r W2 ⟨u1,u2,u3,rfl,hn2,hx2⟩
              obtain⟨B1,m1,rfl,-,-⟩:=hn2.seen.form
              obtain⟨B2,m2,rfl,-,-⟩:=hn2.counts.form
              obtain⟨B3,m3,rfl,-,-⟩:=hn2.items.form
              have HN:=Lib.hid hn2.at
              clear hn2
              dsimp only
              go_wp
              exact zdl ⟨HK.out.call (xs:=entL E (.slice B1 E.seen.length m1) (.slice B2 E.counts.length m2) (.slice B3 E.items.length m3)) (by decide) hn hx2 he.size ⟨B1,m1,B2,m2,B3,m3,rfl,HN.out.mono fun b hb h=>⟨h,hb⟩⟩,he.trans hx2⟩
             ·intro x W st he hK hn f
              have h0:st 7=some (x 105):=f.1
              have HK:=Lib.hid hK
              clear hK
              go_wp
              exact zdl ⟨HK.out.move (by decide) h0,he⟩
             ·intro x W st he hK hn f
              have h0:st 8=some (x 97):=f.1
              obtain⟨xs,S,hv,⟨B1,m1,B2,m2,B3,m3,rfl,-⟩,hK2⟩:=hK.part (by decide) h0
              have HK:=Lib.hid hK2
              clear hK hK2
              go_wp
              exact zdl ⟨HK.out,he⟩
             ·intro x W st he hK f
              have h0:st 8=some (x 97):=f.1
              obtain⟨xs,S,hv,⟨B1,m1,B2,m2,B3,m3,rfl,-⟩,hK2⟩:=hK.part (by decide) h0
              have HK:=Lib.hid hK2
              clear hK hK2
              go_wp
              exact zaa rfl (Ext.refl _)
             ·intro x W st he hK hn f
              have HK:=Lib.hid hK
              clear hK
              go_wp
              exact zdl ⟨HK.out.alloc CEnt.keep (by decide) hn he.size,he.alloc _⟩
             ·intro x W st he hK hn f
              have h0:st 11=some (x 13):=f.1
              have h1:st 9=some (x 106):=f.2.1
              obtain⟨xs,S,g2,hv,hp,hg2,hr,⟨B1,m1,B2,m2,B3,m3,rfl,-⟩,hfin⟩:=hK.store CEnt.keep (by decide) h1 h0 hn
              have r0:=hr.cell (j:=0) rfl
              have r1:=hr.cell (j:=1) rfl
              have r2:=hr.cell (j:=2) rfl
              have r3:=hr.cell (j:=3) rfl
              have r4:=hr.cell (j:=4) rfl
              have r5:=hr.cell (j:=5) rfl
              have r6:=hr.cell (j:=6) rfl
              have y0:=hr.frozen 0
              have y1:=hr.frozen 1
              have y2:=hr.frozen 2
              have y3:=hr.frozen 3
              have y4:=hr.frozen 4
              have y5:=hr.frozen 5
              have y6:=hr.frozen 6
              have hfi:=hfin (put7 W g2 E (.slice B1 E.seen.length m1) (.slice B2 E.counts.length m2) (.slice B3 E.items.length m3)) (.bool true) (zip (e0:=zad) hr) (Nat.le_of_eq (zhr _ _ _ _ _ _).symm) (fun y hy=>zdi _ _ _ _ _ _ y hy)
              have hxe:=za8 he hg2 E (.slice B1 E.seen.length m1) (.slice B2 E.counts.length m2) (.slice B3 E.items.length m3)
              have HK:=Lib.hid hfi
              have HXE:=Lib.hid hxe
              clear hK hfin hfi hxe hr h0 h1
              go_wp
              exact zdl (v:=.bool true) ⟨HK.out,HXE.out⟩
            case hend =>
             intro x W8 st hx1 hK hn f
             have h13:st 11=some (x 13):=f.2.2.2.2.2.2.2.2.2.2.2.1
             have h107:x 107 = .bool true:=f.2.2.2.2.2.2.2.2.2.2.1
             obtain⟨xs,S,g2,hp,-,hrow,⟨B1,m1,B2,m2,B3,m3,rfl,hEat⟩,-⟩:=hK.done h13 (hn 12 (show 12 < 13 by decide) rfl)
             have HRW:=Lib.hid hrow
             have HEN:=Lib.hid hEat
             have HX8:=Lib.hid hx1
             have d0:=hx1.cell e0
             have d1:=hx1.cell e1
             have d2:=hx1.cell e2
             have d3:=hx1.cell e3
             have d4:=hx1.cell e4
             have d5:=hx1.cell e5
             have d6:=hx1.cell e6
             have HA:=Lib.hid (HA.out.ext hx1)
             have HT:=Lib.hid (HT.out.ext hx1)
             have HX:=Lib.hid (HX.out.trans hx1)
             have hz0:=Nat.le_trans hz0 hx1.size
             clear hx1
             clear hK hn f hrow hEat h13
             clear e0 e1 e2 e3 e4 e5 e6
             simp only [List.length_cons,List.length_nil,Nat.reduceAdd,List.take_succ_cons,List.take_zero,List.filterMap_cons,List.filterMap_nil,List.drop_succ_cons,List.drop_zero,zau,Act.put,List.setIfInBounds_toArray,List.set_cons_succ,List.set_cons_zero,h107,hp]
             go_wp
             go_wp2_with fail
             by_cases hkk:E.key=k
             ·skip
              refine zaz [fun v _=>v = .bool true,fun v _=>v = .bool false,fun v _=>v = .bool false,fun v _=>v = .pointer (some ⟨g2,0,none⟩),fun v _=>v=St k,fun v _=>v = .pointer (some ⟨w.heap.size+1,1,none⟩),fun v _=>v=St k,fun v _=>v = .bool false,fun v _=>v = .bool false,fun _ _=>True,fun _ _=>True,fun _ _=>True,fun _ _=>True,fun _ _=>True,fun _ _=>True] rfl (by kernel_rfl) ?hR ?hstep ?hend
              case hR =>
               simp only [List.mem_cons,List.not_mem_nil,or_false,forall_eq_or_imp,forall_eq]
               exact⟨fun v _ _ h _=>h,fun v _ _ h _=>h,fun v _ _ h _=>h,fun v _ _ h _=>h,fun v _ _ h _=>h,fun v _ _ h _=>h,fun v _ _ h _=>h,fun v _ _ h _=>h,fun v _ _ h _=>h,fun _ _ _ _ _=>trivial,fun _ _ _ _ _=>trivial,fun _ _ _ _ _=>trivial,fun _ _ _ _ _=>trivial,fun _ _ _ _ _=>trivial,fun _ _ _ _ _=>trivial⟩
              case hstep =>
               simp only [List.length_cons,List.length_nil,Nat.reduceAdd,List.take_succ_cons,List.take_zero,zbn,and_true]
               refine ⟨?_,?_,?_,?_,?_,?_,?_,?_,?_,?_,?_,?_,?_,?_,?_⟩
               ·intro x W he f
                have h0:x 14 = .bool true:=f.1
                go_wp
                exact zaa rfl (Ext.refl _)
               ·intro x W he f
                have h0:x 108 = .bool true:=f.1
                go_wp
                exact zaa rfl (Ext.refl _)
               ·intro x W he f
                have h0:x 109 = .bool false:=f.1
                go_wp
                exact zaa rfl (Ext.refl _)
               ·intro x W he f
                have h0:x 13 = .pointer (some ⟨g2,0,none⟩):=f.1
                have h1:x 110 = .bool false:=f.2.1
                go_wp
                exact zaa rfl (Ext.refl _)
               ·intro x W he f
                have h0:x 111 = .pointer (some ⟨g2,0,none⟩):=f.1
                have h1:x 110 = .bool false:=f.2.1
                have r0:=(HRW.out.ext he).cell (j:=0) rfl
                rw [hkk] at r0
                go_wp
                exact zaa rfl (Ext.refl _)
               ·intro x W he f
                have h0:x 6 = .pointer (some ⟨w.heap.size+1,0,none⟩):=f.1
                have h1:x 110 = .bool false:=f.2.1
                go_wp
                exact zaa rfl (Ext.refl _)
               ·intro x W he f
                have h0:x 113 = .pointer (some ⟨w.heap.size+1,1,none⟩):=f.1
                have h1:x 110 = .bool false:=f.2.1
                have o1:=(HA.out.ext he).ro.cell (j:=1) rfl
                go_wp
                exact zaa rfl (Ext.refl _)
               ·intro x W he f
                have h0:x 112=St k:=f.1
                have h1:x 114=St k:=f.2.1
                have h2:x 110 = .bool false:=f.2.2.1
                go_wp
                exact zaa rfl (Ext.refl _)
               ·intro x W he f
                have h0:x 115 = .bool false:=f.1
                have h1:x 110 = .bool false:=f.2.1
                go_wp
                exact zaa rfl (Ext.refl _)
               ·intro x W he f
                have hg:x 116 = .bool false:=f.2.1
                go_wp
                exact zaa trivial (Ext.refl _)
               ·intro x W he f
                have hg:x 116 = .bool false:=f.2.1
                go_wp
                exact zaa trivial (Ext.refl _)
               ·intro x W he f
                have hg:x 116 = .bool false:=f.2.1
                go_wp
                exact zaa trivial (Ext.refl _)
               ·intro x W he f
                have hg:x 116 = .bool false:=f.2.1
                go_wp
                exact zaa trivial (Ext.refl _)
               ·intro x W he f
                have hg:x 116 = .bool false:=f.2.2.1
                go_wp
                exact zaa trivial (Ext.refl _)
               ·intro x W he f
                have hg:x 116 = .bool false:=f.2.1
                go_wp
                exact zaa trivial (Ext.refl _)
              case hend =>
               intro x W9 hx1 f
               have h110:x 110 = .bool false:=f.2.2.1
               have h116:x 116 = .bool false:=f.2.2.2.2.2.2.2.2.1
               clear f
               have HX9:=Lib.hid ((HX6.out.trans HX8.out).trans hx1)
               clear hx1
               simp only [List.length_cons,List.length_nil,Nat.reduceAdd,List.take_succ_cons,List.take_zero,List.filterMap_cons,List.filterMap_nil,List.drop_succ_cons,List.drop_zero,zau,Act.put,List.setIfInBounds_toArray,List.set_cons_succ,List.set_cons_zero,h110,h116]
               go_wp
               go_wp2_with fail
               go_roundw
               case rel=>exact⟨pre++[e],post,by rw [HL.out];simp,by simp,HX9.out⟩
               case measure=>simp [intOf];omega
             ·skip
              refine zaz [fun v _=>v = .bool true,fun v _=>v = .bool false,fun v _=>v = .bool false,fun v _=>v = .pointer (some ⟨g2,0,none⟩),fun v _=>v=St E.key,fun v _=>v = .pointer (some ⟨w.heap.size+1,1,none⟩),fun v _=>v=St k,fun v _=>v = .bool true,fun v _=>v = .bool true,fun v _=>v=entV E (.slice B1 E.seen.length m1) (.slice B2 E.counts.length m2) (.slice B3 E.items.length m3),fun v _=>v = .pointer (some ⟨w.heap.size,1,none⟩),fun v _=>v = .slice (some ⟨b1,o1,none⟩) se.length n2,fun v _=>v=I pre.length,fun v _=>v = .pointer (some ⟨b1,o1+pre.length * 7,none⟩),fun v _=>v=entV e (.slice Z1 e.seen.length z1) (.slice Z2 e.counts.length z2) (.slice Z3 e.items.length z3)] rfl (by kernel_rfl) ?hR ?hstep ?hend
              case hR =>
               simp only [List.mem_cons,List.not_mem_nil,or_false,forall_eq_or_imp,forall_eq]
               exact⟨fun v _ _ h _=>h,fun v _ _ h _=>h,fun v _ _ h _=>h,fun v _ _ h _=>h,fun v _ _ h _=>h,fun v _ _ h _=>h,fun v _ _ h _=>h,fun v _ _ h _=>h,fun v _ _ h _=>h,fun v _ _ h _=>h,fun v _ _ h _=>h,fun v _ _ h _=>h,fun v _ _ h _=>h,fun v _ _ h _=>h,fun v _ _ h _=>h⟩
              case hstep =>
               simp only [List.length_cons,List.length_nil,Nat.reduceAdd,List.take_succ_cons,List.take_zero,zbn,and_true]
               refine ⟨?_,?_,?_,?_,?_,?_,?_,?_,?_,?_,?_,?_,?_,?_,?_⟩
               ·intro x W he f
                have h0:x 14 = .bool true:=f.1
                go_wp
                exact zaa rfl (Ext.refl _)
               ·intro x W he f
                have h0:x 108 = .bool true:=f.1
                go_wp
                exact zaa rfl (Ext.refl _)
               ·intro x W he f
                have h0:x 109 = .bool false:=f.1
                go_wp
                exact zaa rfl (Ext.refl _)
               ·intro x W he f
                have h0:x 13 = .pointer (some ⟨g2,0,none⟩):=f.1
                have h1:x 110 = .bool false:=f.2.1
                go_wp
                exact zaa rfl (Ext.refl _)
               ·intro x W he f
                have h0:x 111 = .pointer (some ⟨g2,0,none⟩):=f.1
                have h1:x 110 = .bool false:=f.2.1
                have r0:=(HRW.out.ext he).cell (j:=0) rfl
                go_wp
                exact zaa rfl (Ext.refl _)
               ·intro x W he f
                have h0:x 6 = .pointer (some ⟨w.heap.size+1,0,none⟩):=f.1
                have h1:x 110 = .bool false:=f.2.1
                go_wp
                exact zaa rfl (Ext.refl _)
               ·intro x W he f
                have h0:x 113 = .pointer (some ⟨w.heap.size+1,1,none⟩):=f.1
                have h1:x 110 = .bool false:=f.2.1
                have o1:=(HA.out.ext he).ro.cell (j:=1) rfl
                go_wp
                exact zaa rfl (Ext.refl _)
               ·intro x W he f
                have h0:x 112=St E.key:=f.1
                have h1:x 114=St k:=f.2.1
                have h2:x 110 = .bool false:=f.2.2.1
                have hkb:(E.key == k)=false:=by simpa using hkk
                have hkc:(E.key != k)=true:=by simpa using hkk
                go_wp
                exact zaa rfl (Ext.refl _)
               ·intro x W he f
                have h0:x 115 = .bool true:=f.1
                have h1:x 110 = .bool false:=f.2.1
                go_wp
                exact zaa rfl (Ext.refl _)
               ·intro x W he f
                have h0:x 13 = .pointer (some ⟨g2,0,none⟩):=f.1
                have h1:x 116 = .bool true:=f.2.1
                have r0:=(HRW.out.ext he).cell (j:=0) rfl
                have r1:=(HRW.out.ext he).cell (j:=1) rfl
                have r2:=(HRW.out.ext he).cell (j:=2) rfl
                have r3:=(HRW.out.ext he).cell (j:=3) rfl
                have r4:=(HRW.out.ext he).cell (j:=4) rfl
                have r5:=(HRW.out.ext he).cell (j:=5) rfl
                have r6:=(HRW.out.ext he).cell (j:=6) rfl
                go_wp
                exact zaa rfl (Ext.refl _)
               ·intro x W he f
                have h0:x 4 = .pointer (some ⟨w.heap.size,0,none⟩):=f.1
                have h1:x 116 = .bool true:=f.2.1
                go_wp
                exact zaa rfl (Ext.refl _)
               ·intro x W he f
                have h0:x 118 = .pointer (some ⟨w.heap.size,1,none⟩):=f.1
                have h1:x 116 = .bool true:=f.2.1
                have c1:=(HA.out.ext he).ra.cell (j:=1) rfl
                go_wp
                exact zaa rfl (Ext.refl _)
               ·intro x W he f
                have h0:x 12=I pre.length:=f.1
                have h1:x 116 = .bool true:=f.2.1
                go_wp
                exact zaa rfl (Ext.refl _)
               ·intro x W he f
                have h0:x 119 = .slice (some ⟨b1,o1,none⟩) se.length n2:=f.1
                have h1:x 120=I pre.length:=f.2.1
                have h2:x 116 = .bool true:=f.2.2.1
                go_wp
                exact zaa rfl (Ext.refl _)
               ·intro x W he f
                have h0:x 121 = .pointer (some ⟨b1,o1+pre.length * 7,none⟩):=f.1
                have h1:x 116 = .bool true:=f.2.1
                have y0:=he.cell d0
                have y1:=he.cell d1
                have y2:=he.cell d2
                have y3:=he.cell d3
                have y4:=he.cell d4
                have y5:=he.cell d5
                have y6:=he.cell d6
                go_wp
                exact zaa rfl (Ext.refl _)
              case hend =>
               intro x W9 hx1 f
               have h110:x 110 = .bool false:=f.2.2.1
               have h116:x 116 = .bool true:=f.2.2.2.2.2.2.2.2.1
               have h117:x 117=entV E (.slice B1 E.seen.length m1) (.slice B2 E.counts.length m2) (.slice B3 E.items.length m3):=f.2.2.2.2.2.2.2.2.2.1
               have h122:x 122=entV e (.slice Z1 e.seen.length z1) (.slice Z2 e.counts.length z2) (.slice Z3 e.items.length z3):=f.2.2.2.2.2.2.2.2.2.2.2.2.2.2.1
               clear f
               have HC:=Lib.hid (zhy (HEN.out.ext hx1) ((HEE.out.ext (HX6.out.trans HX8.out)).ext hx1))
               rw [show zav E e=true from sameE_iff.2 (HEK.out hkk)] at HC
               have HX9:=Lib.hid ((HX6.out.trans HX8.out).trans hx1)
               clear hx1
               simp only [List.length_cons,List.length_nil,Nat.reduceAdd,List.take_succ_cons,List.take_zero,List.filterMap_cons,List.filterMap_nil,List.drop_succ_cons,List.drop_zero,zau,Act.put,List.setIfInBounds_toArray,List.set_cons_succ,List.set_cons_zero,h110,h116,h117,h122]
               go_wp
               refine HC.out.mono ?_
               rintro r Y ⟨rfl,hx1⟩
               dsimp only
               have HX9:=Lib.hid (HX9.out.trans hx1)
               clear hx1
               go_wp
               go_wp2_with fail
               go_roundw
               case rel=>exact⟨pre++[e],post,by rw [HL.out];simp,by simp,HX9.out⟩
               case measure=>simp [intOf];omega
           | nil =>
            rw [List.append_nil] at hl
            subst hl
            have hge:¬ ((te.length:Int) > (se.length:Int)+1):=by omega
            have hge2:decide ((se.length:Int)+1 < (te.length:Int))=false:=decide_eq_false (by omega)
            have k1:=HT.out.row.cell (j:=1) rfl
            have c1:=HA.out.ra.cell (j:=1) rfl
            clear HEA HX6
            have HRE:=Lib.hid (zmg (s:=⟨sa,se,sp⟩) (p:=p) (n:=num))
            have HRO:=Lib.hid (zoq (s:=⟨sa,se,sp⟩) (p:=p) (n:=num))
            have HU:=Lib.hid (zfp p num hnum HA.out.sa SMA.out)
            have c0:=HA.out.ra.cell (j:=0) rfl
            have c1:=HA.out.ra.cell (j:=1) rfl
            have c2:=HA.out.ra.cell (j:=2) rfl
            go_wp2_with fail
            refine HU.out.mono ?_
            rintro r V ⟨u1,u2,u3,rfl,hS,hx1⟩
            clear HU c0 c1 c2
            have HA:=Lib.hid (HA.out.ext hx1)
            have HT:=Lib.hid (HT.out.ext hx1)
            have HX:=Lib.hid (HX.out.trans hx1)
            have hz0:=Nat.le_trans hz0 hx1.size
            clear hx1
            generalize zbo ⟨sa,se,sp⟩ p num=R2 at *
            obtain⟨⟨va,ve,vp⟩,f0⟩:=R2
            dsimp only at hS HRE HRO ⊢
            obtain⟨D1,y1,rfl,-,-⟩:=hS.all.form
            obtain⟨D2,y2,rfl,-,-⟩:=hS.entries.form
            obtain⟨D3,y3,rfl,-,-⟩:=hS.pruned.form
            have hx1:=(Ext.refl V).alloc (.cells #[.slice D1 va.length y1,.slice D2 ve.length y2,.slice D3 vp.length y3] 30)
            have hr2:=zab V 30 [.slice D1 va.length y1,.slice D2 ve.length y2,.slice D3 vp.length y3]
            have hr2:=zab V 30 [.slice D1 va.length y1,.slice D2 ve.length y2,.slice D3 vp.length y3]
            have hst2:StAt (V.alloc (.cells #[.slice D1 va.length y1,.slice D2 ve.length y2,.slice D3 vp.length y3] 30)) (fun b=>b < V.heap.size) ⟨va,ve,vp⟩ (.slice D1 va.length y1) (.slice D2 ve.length y2) (.slice D3 vp.length y3):=(hS.mono (S':=fun b=>b < V.heap.size) (fun b hb _=>hb)).ext hx1
            have hst3:=Lib.hid hS
            have HAV:=HA
            have HXV:=HX
            clear hS
            have HA:=Lib.hid (HA.out.ext hx1)
            have HT:=Lib.hid (HT.out.ext hx1)
            have HX:=Lib.hid (HX.out.trans hx1)
            have hz0:=Nat.le_trans hz0 hx1.size
            clear hx1
            by_cases hf0:f0=0
            ·subst hf0
             obtain⟨e1,e2⟩:=HRO.out rfl
             have e3:=e1.symm
             have e4:=e2.symm
             subst e3 e4
             clear HRE HRO
             have r0:=hr2.cell (j:=0) rfl
             have r1:=hr2.cell (j:=1) rfl
             have r2:=hr2.cell (j:=2) rfl
             have z0:=hr2.frozen 0
             have z1:=hr2.frozen 1
             have z2:=hr2.frozen 2
             have c0:=HA.out.ra.cell (j:=0) rfl
             have c1:=HA.out.ra.cell (j:=1) rfl
             have c2:=HA.out.ra.cell (j:=2) rfl
             have hr3:=zab V 30 [.slice A1 sa.length n1,.slice D2 se.length y2,.slice D3 sp.length y3]
             have hx3:=(Ext.refl V).alloc (.cells #[.slice A1 sa.length n1,.slice D2 se.length y2,.slice D3 sp.length y3] 30)
             have hq2:=hst3.out.ext hx3
             have hsa3:=HAV.out.sa.ext hx3
             have hra3:=HAV.out.ra.ext hx3
             have HSM:=Lib.hid (zdu (a:=⟨sa,se,sp⟩) (b:=⟨sa,se,sp⟩) ⟨hsa3.all.mono (S':=fun _=>True) (by decide) (fun _ _ _=>trivial),hq2.entries.mono (S':=fun _=>True) (by decide) (fun _ _ _=>trivial),hq2.pruned.mono (S':=fun _=>True) (by decide) (fun _ _ _=>trivial)⟩ hsa3)
             rw [show zbv ⟨sa,se,sp⟩ ⟨sa,se,sp⟩=true from sameSt_iff.2 rfl] at HSM
             have s0:=hr3.cell (j:=0) rfl
             have s1:=hr3.cell (j:=1) rfl
             have s2:=hr3.cell (j:=2) rfl
             have d0:=hra3.cell (j:=0) rfl
             have d1:=hra3.cell (j:=1) rfl
             have d2:=hra3.cell (j:=2) rfl
             have HX3:=Lib.hid (HXV.out.trans hx3)
             clear hr2 hr3 hx3 hst2 hq2 hsa3 hra3
             go_wp2_with fail
             refine HSM.out.mono ?_
             rintro r Z0 ⟨rfl,hxz0⟩
             go_wp2_with fail
             refine (zce _).mono ?_
             rintro r Z ⟨rfl,hxz⟩
             go_wp2_with fail
             go_ret
             exact⟨rfl,(HX3.out.trans hxz0).trans hxz⟩
            ·have hf1:((f0:Int) == 0)=false:=by rw [beq_eq_false_iff_ne];omega
             have e0:=HRE.out hf0
             cases e0
             clear HRE HRO
             have r0:=hr2.cell (j:=0) rfl
             have r1:=hr2.cell (j:=1) rfl
             have r2:=hr2.cell (j:=2) rfl
             have HSM:=Lib.hid (zdu (a:=zat) (b:=zat) (hst2.mono (S':=fun _=>True) (fun _ _ _=>trivial)) (StAt.none _ (fun _=>True) none none none))
             rw [show zbv zat zat=true from sameSt_iff.2 rfl] at HSM
             clear hr2 hst2
             go_wp2_with fail
             refine HSM.out.mono ?_
             rintro r Z0 ⟨rfl,hxz0⟩
             go_wp2_with fail
             refine (zce _).mono ?_
             rintro r Z ⟨rfl,hxz⟩
             go_wp2_with fail
             go_ret
             exact⟨rfl,(HX.out.trans hxz0).trans hxz⟩
       ·have her1:((er:Int) == 0)=false:=by rw [beq_eq_false_iff_ne];omega
        have e0:=HER.out her0
        cases e0
        clear HOL HER HOK
        have HSM:=Lib.hid (zdu (a:=zat) (b:=zat) HT.out.st (StAt.none W5 (fun _=>True) none none none))
        rw [show zbv zat zat=true from sameSt_iff.2 rfl] at HSM
        go_wp2_with fail
        have hww:=HWW.out
        simp only [List.length_nil] at hww
        rw [hww]
        clear hww HWW HGG
        refine HSM.out.mono ?_
        rintro r W6 ⟨rfl,hx1⟩
        clear HSM
        have HA:=Lib.hid (HA.out.ext hx1)
        have HT:=Lib.hid (HT.out.ext hx1)
        have HX:=Lib.hid (HX.out.trans hx1)
        have hz0:=Nat.le_trans hz0 hx1.size
        clear hx1
        have HRE:=Lib.hid (zmg (s:=⟨sa,se,sp⟩) (p:=p) (n:=num))
        have HRO:=Lib.hid (zoq (s:=⟨sa,se,sp⟩) (p:=p) (n:=num))
        have HU:=Lib.hid (zfp p num hnum HA.out.sa SMA.out)
        have c0:=HA.out.ra.cell (j:=0) rfl
        have c1:=HA.out.ra.cell (j:=1) rfl
        have c2:=HA.out.ra.cell (j:=2) rfl
        go_wp2_with fail
        refine HU.out.mono ?_
        rintro r V ⟨u1,u2,u3,rfl,hS,hx1⟩
        clear HU c0 c1 c2
        have HA:=Lib.hid (HA.out.ext hx1)
        have HT:=Lib.hid (HT.out.ext hx1)
        have HX:=Lib.hid (HX.out.trans hx1)
        have hz0:=Nat.le_trans hz0 hx1.size
        clear hx1
        generalize zbo ⟨sa,se,sp⟩ p num=R2 at *
        obtain⟨⟨va,ve,vp⟩,f0⟩:=R2
        dsimp only at hS HRE HRO ⊢
        obtain⟨D1,y1,rfl,-,-⟩:=hS.all.form
        obtain⟨D2,y2,rfl,-,-⟩:=hS.entries.form
        obtain⟨D3,y3,rfl,-,-⟩:=hS.pruned.form
        have hx1:=(Ext.refl V).alloc (.cells #[.slice D1 va.length y1,.slice D2 ve.length y2,.slice D3 vp.length y3] 30)
        have hr2:=zab V 30 [.slice D1 va.length y1,.slice D2 ve.length y2,.slice D3 vp.length y3]
        have hr2:=zab V 30 [.slice D1 va.length y1,.slice D2 ve.length y2,.slice D3 vp.length y3]
        have hst2:StAt (V.alloc (.cells #[.slice D1 va.length y1,.slice D2 ve.length y2,.slice D3 vp.length y3] 30)) (fun b=>b < V.heap.size) ⟨va,ve,vp⟩ (.slice D1 va.length y1) (.slice D2 ve.length y2) (.slice D3 vp.length y3):=(hS.mono (S':=fun b=>b < V.heap.size) (fun b hb _=>hb)).ext hx1
        have hst3:=Lib.hid hS
        have HAV:=HA
        have HXV:=HX
        clear hS
        have HA:=Lib.hid (HA.out.ext hx1)
        have HT:=Lib.hid (HT.out.ext hx1)
        have HX:=Lib.hid (HX.out.trans hx1)
        have hz0:=Nat.le_trans hz0 hx1.size
        clear hx1
        by_cases hf0:f0=0
        ·subst hf0
         obtain⟨e1,e2⟩:=HRO.out rfl
         have e3:=e1.symm
         have e4:=e2.symm
         subst e3 e4
         clear HRE HRO
         have r0:=hr2.cell (j:=0) rfl
         have r1:=hr2.cell (j:=1) rfl
         have r2:=hr2.cell (j:=2) rfl
         have z0:=hr2.frozen 0
         have z1:=hr2.frozen 1
         have z2:=hr2.frozen 2
         have c0:=HA.out.ra.cell (j:=0) rfl
         have c1:=HA.out.ra.cell (j:=1) rfl
         have c2:=HA.out.ra.cell (j:=2) rfl
         have hr3:=zab V 30 [.slice A1 sa.length n1,.slice D2 se.length y2,.slice D3 sp.length y3]
         have hx3:=(Ext.refl V).alloc (.cells #[.slice A1 sa.length n1,.slice D2 se.length y2,.slice D3 sp.length y3] 30)
         have hq2:=hst3.out.ext hx3
         have hsa3:=HAV.out.sa.ext hx3
         have hra3:=HAV.out.ra.ext hx3
         have HSM:=Lib.hid (zdu (a:=⟨sa,se,sp⟩) (b:=⟨sa,se,sp⟩) ⟨hsa3.all.mono (S':=fun _=>True) (by decide) (fun _ _ _=>trivial),hq2.entries.mono (S':=fun _=>True) (by decide) (fun _ _ _=>trivial),hq2.pruned.mono (S':=fun _=>True) (by decide) (fun _ _ _=>trivial)⟩ hsa3)
         rw [show zbv ⟨sa,se,sp⟩ ⟨sa,se,sp⟩=true from sameSt_iff.2 rfl] at HSM
         have s0:=hr3.cell (j:=0) rfl
         have s1:=hr3.cell (j:=1) rfl
         have s2:=hr3.cell (j:=2) rfl
         have d0:=hra3.cell (j:=0) rfl
         have d1:=hra3.cell (j:=1) rfl
         have d2:=hra3.cell (j:=2) rfl
         have HX3:=Lib.hid (HXV.out.trans hx3)
         clear hr2 hr3 hx3 hst2 hq2 hsa3 hra3
         go_wp2_with fail
         refine HSM.out.mono ?_
         rintro r Z0 ⟨rfl,hxz0⟩
         go_wp2_with fail
         refine (zce _).mono ?_
         rintro r Z ⟨rfl,hxz⟩
         go_wp2_with fail
         go_ret
         exact⟨rfl,(HX3.out.trans hxz0).trans hxz⟩
        ·have hf1:((f0:Int) == 0)=false:=by rw [beq_eq_false_iff_ne];omega
         have e0:=HRE.out hf0
         cases e0
         clear HRE HRO
         have r0:=hr2.cell (j:=0) rfl
         have r1:=hr2.cell (j:=1) rfl
         have r2:=hr2.cell (j:=2) rfl
         have HSM:=Lib.hid (zdu (a:=zat) (b:=zat) (hst2.mono (S':=fun _=>True) (fun _ _ _=>trivial)) (StAt.none _ (fun _=>True) none none none))
         rw [show zbv zat zat=true from sameSt_iff.2 rfl] at HSM
         clear hr2 hst2
         go_wp2_with fail
         refine HSM.out.mono ?_
         rintro r Z0 ⟨rfl,hxz0⟩
         go_wp2_with fail
         refine (zce _).mono ?_
         rintro r Z ⟨rfl,hxz⟩
         go_wp2_with fail
         go_ret
         exact⟨rfl,(HX.out.trans hxz0).trans hxz⟩
end
end Go.Proofs.YtdikcgmdmcfpfaaGreat
