/- Laws. -/
import Derived.Test.YtblkikjmocnllaaGreatDoorQz40
import Derived.Test.YtblkikjmocnllaaGreatDoorQz26
import Derived.Test.YtblkikjmocnllaaGreatDoorQz20
import Derived.Test.YtblkikjmocnllaaGreatDoorQz39
set_option linter.unusedVariables false
set_option linter.unusedSimpArgs false
set_option maxRecDepth 100000
set_option maxHeartbeats 40000000
namespace Go.Proofs.YtblkikjmocnllaaGreatDoor
section
theorem findP_path {l:List Mbr} {p:Str} {x:Mbr} (h:findP l p=some x):x.path=p:=by
 unfold findP at h
 simpa using List.find?_some h
theorem findP_mem {l:List Mbr} {p:Str} {x:Mbr} (h:findP l p=some x):x ∈ l:=List.mem_of_find?_eq_some h
theorem findP_append (a b:List Mbr) (p:Str):findP (a++b) p=(findP a p).or (findP b p):=by unfold findP;rw [List.find?_append]
theorem findP_cons (x:Mbr) (l:List Mbr) (p:Str):findP (x :: l) p=if x.path=p then some x else findP l p:=by
 unfold findP
 rw [List.find?_cons]
 by_cases h:x.path=p <;> simp [h]
theorem findP_filter (f:Str->Bool) (l:List Mbr) (p:Str):findP (l.filter fun x=>f x.path) p=if f p then findP l p else none:=by
 induction l with
 | nil=>simp [findP]
 | cons x l ih =>
  rw [List.filter_cons]
  by_cases hx:x.path=p
  ·subst hx
   have hb:(f x.path=true) ∨ ¬ (f x.path=true):=Classical.em _
   have e:findP (x :: l) x.path=some x:=by rw [findP_cons,if_pos rfl]
   split
   ·rename_i h
    rw [e,findP_cons,if_pos rfl]
   ·rename_i h
    rw [ih]
    simp [h]
  ·have e:findP (x :: l) p=findP l p:=by rw [findP_cons,if_neg hx]
   split
   ·rw [findP_cons,if_neg hx,ih,e]
   ·rw [ih,e]
theorem findP_map {f:Mbr->Mbr} (hf:∀ m,(f m).path=m.path) (l:List Mbr) (p:Str):findP (l.map f) p=(findP l p).map f:=by
 induction l with
 | nil=>rfl
 | cons x l ih =>
  rw [List.map_cons,findP_cons,findP_cons,hf]
  split
  ·rfl
  ·exact ih
theorem findP_put (l:List Mbr) (m:Mbr) (p:Str):findP (putM l m) p=if p=m.path then some m else findP l p:=by
 have hd:findP (dropP l m.path) p=if p=m.path then none else findP l p:=by
  unfold dropP
  rw [findP_filter (fun q=>!decide (q=m.path))]
  by_cases h:p=m.path <;> simp [h]
 unfold putM
 generalize posM (dropP l m.path) m.path=i
 have hs:findP (dropP l m.path) p=(findP ((dropP l m.path).take i) p).or (findP ((dropP l m.path).drop i) p):=by rw [<- findP_append,List.take_append_drop]
 rw [findP_append,findP_cons]
 by_cases h:p=m.path
 ·rw [if_pos h]
  rw [hd,if_pos h] at hs
  have h1:findP ((dropP l m.path).take i) p=none:=by
   cases hq:findP ((dropP l m.path).take i) p with
   | none=>rfl
   | some y=>rw [hq] at hs;cases hs
  rw [h1,if_pos h.symm];rfl
 ·rw [if_neg (fun e=>h e.symm),if_neg h,<- hs,hd,if_neg h]
end
section
open Go.RowKit Go.Shelf
def vcB (l:List Mbr) (q:Str):Bool:=if q = [] then false else decide (voidChain l q (chainP q)=4)
theorem vcB_step (l:List Mbr) {q:Str} (hq:q ≠ []):vcB l q=match findP l (parP q) with | some x=>cutsM x q | none=>vcB l (parP q):=by
 have hr:=chainP_rest q
 unfold vcB
 rw [if_neg hq,hr]
 unfold restC
 by_cases h0:parP q = []
 ·rw [if_pos h0,if_pos h0]
  have hd:deepP q < 2:=by
   apply Nat.lt_of_not_le
   intro h2
   obtain⟨t,u,-,-,e,-,hne,-⟩:=par_form h2
   rw [h0] at e
   subst e
   exact hne splitP_nil
  cases findP l (parP q) with
  | none=>rfl
  | some x=>simp only;rw [cutsM_short hd];rfl
 ·rw [if_neg h0,if_neg h0]
  have hv:voidChain l q (parP q :: chainP (parP q))=match atP l (parP q) with | some x=>if cutsM x q then 4 else 0 | none=>voidChain l (parP q) (chainP (parP q)):=rfl
  rw [hv,at_find]
  cases findP l (parP q) with
  | none=>rfl
  | some x =>
   by_cases hcx:cutsM x q=true
   ·simp [hcx]
   ·simp [hcx]
theorem rvoid_any {S:Nat->Prop} {v:Value} {l:List Mbr} {w:World} (hv:Sl mbrT w S v l) (p:Str) (hm:mayP p=true) (hl:p.length < 4611686018427387904) :
  Calls Tryz.prog 93 #[v,St p] w fun e w'=>e=.returned (.bool (vcB l p))/\Ext w w':=by
 obtain⟨K,hK⟩:∃ K,vcB l p=K:=⟨_,rfl⟩
 rw [hK]
 have HK:=Lib.hid hK
 have hv':=hv
 obtain⟨A,c,rfl,-,-⟩:=hv.form
 have HOF:=Lib.hid (fun W (he:Ext w W) q=>refOf_any (hv'.ext (by decide) he) q)
 have HMY:=Lib.hid (fun (q:Str) (h:mayP q=true) (h2:q.length<=p.length) W=>refMay_any h (by omega) W)
 have HPA:=Lib.hid (fun (q:Str) (h:mayP q=true) (h2:q.length<=p.length) W=>refParent_any h (by omega) W)
 have HNU:=Lib.hid (fun (q:Str) (h:mayP q=true) (h2:q.length<=p.length) W=>refNumber_any h (by omega) W)
 have HP:=Lib.hid hm
 clear hv hv' hK hm
 go_enter Tryz.func93,Tryz.ntmps93
 go_wp2_with fail
 go_loopw [5] (fun s wr=>∃ q:Str,s=St q/\Hid (q = [] ∨ mayP q=true)/\q.length<=p.length/\Hid (vcB l q=K)/\Ext w wr) (fun s _=>(match s with | .string b=>b.size | _=>0))
 case atStart=>exact⟨p,rfl,Lib.hid (.inr HP.out),Nat.le_refl _,Lib.hid HK.out,Ext.refl _⟩
 case round =>
  obtain⟨q,rfl,hq,hql,hk,hx⟩:=hrel
  rcases hq.out with rfl | hmq
  ·have HF:=Lib.hid (show false=K from hk.out)
   clear hk hq
   go_wp2_with fail
   go_ret
   exact⟨by rw [<- HF.out];rfl,hx⟩
  ·have hne:=mayP_ne hmq
   have e0:q.isEmpty=false:=by simpa using hne
   have HM:=Lib.hid (HMY.out q hmq hql)
   have HPQ:=Lib.hid (HPA.out q hmq hql)
   have HNQ:=Lib.hid (HNU.out q hmq hql)
   have HST:=Lib.hid ((vcB_step l hne).symm.trans hk.out)
   have HNX:=Lib.hid (mayP_par hmq)
   have hps:=parP_short hne
   have HLS:=Lib.hid (show (parP q).length < q.length from hps)
   have HX:=Lib.hid hx
   clear hk hq hne hmq hps hx
   go_wp2_with fail
   refine (HM.out _).mono ?_
   rintro e w1 ⟨rfl,hx1⟩
   go_wp2_with fail
   refine (HPQ.out _).mono ?_
   rintro e w2 ⟨rfl,hx2⟩
   have HX2:=Lib.hid ((HX.out.trans hx1).trans hx2)
   clear hx1 hx2
   go_wp2_with fail
   refine (HOF.out _ HX2.out _).mono ?_
   rintro e w3 ⟨u1,u2,rfl,hs1,hs2,hx3⟩
   have HX3:=Lib.hid (HX2.out.trans hx3)
   obtain⟨B1,d1,rfl,-,-⟩:=hs1.form
   obtain⟨B2,d2,rfl,-,-⟩:=hs2.form
   clear hs1 hs2 hx3
   rcases hf:findP l (parP q) with _ | x
   ·simp only [Option.getD_none,Option.isSome_none] at *
    have HF:=Lib.hid (show vcB l (parP q)=K by have:=HST.out;rw [hf] at this;exact this)
    generalize parP q=pq at *
    generalize mbr0=x at *
    generalize x.gone.length=g1
    generalize x.words.length=g2
    have HXA:=Lib.hid (HX3.out.trans ((Ext.refl w3).alloc (.cells #[St x.path,U8 x.status,I x.kids,I x.cut,U x.last,.slice B1 g1 d1,St x.plan.keeper,U x.plan.round,St x.plan.live,St x.plan.by_,U x.plan.cap,St x.plan.owner,U x.plan.base,.bool x.plan.done,.slice B2 g2 d2] 48)))
    unfold mbrV
    clear hf HST
    go_wp2_with fail
    refine (HPQ.out _).mono ?_
    rintro e w5 ⟨rfl,hx5⟩
    go_wp2_with fail
    go_roundw
    case rel=>exact⟨pq,rfl,Lib.hid HNX.out,by have:=HLS.out;omega,Lib.hid HF.out,HXA.out.trans hx5⟩
    case measure=>have:=HLS.out;simpa [ByteArray.size] using this
   ·simp only [Option.getD_some,Option.isSome_some] at *
    have HF:=Lib.hid (show cutsM x q=K by have:=HST.out;rw [hf] at this;exact this)
    generalize x.gone.length=g1
    generalize x.words.length=g2
    have hxa:=(Ext.refl w3).alloc (.cells #[St x.path,U8 x.status,I x.kids,I x.cut,U x.last,.slice B1 g1 d1,St x.plan.keeper,U x.plan.round,St x.plan.live,St x.plan.by_,U x.plan.cap,St x.plan.owner,U x.plan.base,.bool x.plan.done,.slice B2 g2 d2] 48)
    have rw0:=rowNew w3 48 [St x.path,U8 x.status,I x.kids,I x.cut,U x.last,.slice B1 g1 d1,St x.plan.keeper,U x.plan.round,St x.plan.live,St x.plan.by_,U x.plan.cap,St x.plan.owner,U x.plan.base,.bool x.plan.done,.slice B2 g2 d2]
    have k1:=rw0.cell (j:=1) rfl
    have k3:=rw0.cell (j:=3) rfl
    have HXA:=Lib.hid (HX3.out.trans hxa)
    generalize parP q=pq at *
    unfold mbrV
    clear hf HST hxa rw0
    go_wp2_with fail
    generalize w3.alloc (.cells #[St x.path,U8 x.status,I x.kids,I x.cut,U x.last,.slice B1 g1 d1,St x.plan.keeper,U x.plan.round,St x.plan.live,St x.plan.by_,U x.plan.cap,St x.plan.owner,U x.plan.base,.bool x.plan.done,.slice B2 g2 d2] 48)=W3 at *
    generalize w3.heap.size=gm at *
    by_cases h4:x.status=4
    case neg =>
     have HG:=Lib.hid (show false=K by rw [<- HF.out];unfold cutsM;rw [decide_eq_false h4];rfl)
     have q1:((x.status:Int) == 4)=false:=by rw [beq_eq_false_iff_ne];omega
     clear h4
     go_quiet (fail)
     go_wp2
     go_ret
     exact⟨by rw [<- HG.out];rfl,HXA.out.drewN _⟩
    have q1:((x.status:Int) == 4)=true:=by rw [beq_iff_eq];omega
    by_cases hc:0 < x.cut
    case neg =>
     have HG:=Lib.hid (show false=K by rw [<- HF.out];unfold cutsM;rw [decide_eq_false hc,Bool.and_false];rfl)
     have q2:decide (x.cut > 0)=false:=decide_eq_false hc
     have q3:¬ x.cut > 0:=hc
     clear h4 hc
     go_quiet (fail)
     go_wp2
     go_ret
     exact⟨by rw [<- HG.out];rfl,HXA.out.drewN _⟩
    have q2:decide (x.cut > 0)=true:=decide_eq_true hc
    have q3:x.cut > 0:=hc
    have HG:=Lib.hid (show decide (x.cut<=(numP q:Int))=K by rw [<- HF.out];unfold cutsM;rw [decide_eq_true h4,decide_eq_true hc];rfl)
    clear h4 hc
    go_region_held3 (fun W=>W.cell? ⟨gm,1,none⟩=some (U8 x.status)/\W.cell? ⟨gm,3,none⟩=some (I x.cut)/\Ext W3 W) (first | exact⟨k1,k3,(Ext.refl _).drew⟩ | exact⟨hb1.cell ‹_/\_/\Ext W3 _›.1,hb1.cell ‹_/\_/\Ext W3 _›.2.1,‹_/\_/\Ext W3 _›.2.2.trans hb1⟩) (first | (go_at_call 81;refine (HNQ.out _).mono ?_;rintro e w6 ⟨rfl,hb1⟩))
    have hX:=(‹_/\_/\Ext W3 _›).2.2
    go_wp2_with fail
    go_ret
    exact⟨by rw [<- HG.out];rfl,HXA.out.trans hX⟩
theorem rplan_any (pk pl pb po path:Str) (pr pc ps:Nat) (pd:Bool) (h1:path.length < 1073741824) (h3:pl.length < 1073741824) (w:World) :
  Calls Tryz.prog 95 #[.agg #[St pk,U pr,St pl,St pb,U pc,St po,U ps,.bool pd],St path] w fun e w'=>(e=.returned (.bool true) ∨ e=.returned (.bool false))/\Ext w w':=by
 have rB:=rowNew w 45 [St pk,U pr,St pl,St pb,U pc,St po,U ps,.bool pd]
 have xB:=(Ext.refl w).alloc (.cells #[St pk,U pr,St pl,St pb,U pc,St po,U ps,.bool pd] 45)
 have HU:=Lib.hid (fun W=>refUnderB_any path pk h1 W)
 have HV:=Lib.hid (fun W=>refUnderB_any path po h1 W)
 have HP:=Lib.hid (fun W=>rpaths_any pl h3 W)
 have HQ1:∀ w,(binOp .eql 45 (.agg #[St pk,U pr,St pl,St pb,U pc,St po,U ps,.bool pd]) (.agg #[.string ⟨#[]⟩,.int .u64 0,.string ⟨#[]⟩,.string ⟨#[]⟩,.int .u64 0,.string ⟨#[]⟩,.int .u64 0,.bool false])).run Tryz.prog w=.ok (.bool (decide ((⟨pk,pr,pl,pb,pc,po,ps,pd⟩:Plan)=plan0))) w:=eql_plan0 ⟨pk,pr,pl,pb,pc,po,ps,pd⟩
 have HQ2:∀ w,(binOp .eql 43 (.agg #[St pb,U pc,St po,U ps]) (.agg #[.string ⟨#[]⟩,.int .u64 0,.string ⟨#[]⟩,.int .u64 0])).run Tryz.prog w=.ok (.bool (decide (pb = []/\pc=0/\po = []/\ps=0))) w:=eql_pruned0 pb po pc ps
 generalize decide ((⟨pk,pr,pl,pb,pc,po,ps,pd⟩:Plan)=plan0)=z1 at HQ1
 generalize decide (pb = []/\pc=0/\po = []/\ps=0)=z2 at HQ2
 generalize decide (pk ∈ chainP path)=bu at HU
 generalize decide (po ∈ chainP path)=bv at HV
 have HR:=Lib.hid (fun W (he:Ext _ W)=>(rB.ext he).p8 rfl)
 have HXB:=Lib.hid xB
 obtain⟨⟨b0,b1,b2,b3⟩,b4,b5,b6,b7⟩:=HR.out _ (Ext.refl _)
 clear rB xB h1 h3
 go_enter Tryz.func95,Tryz.ntmps95
 cases z1 with
 | true =>
  go_wp2_with fail
  go_ret
  exact⟨.inl rfl,HXB.out⟩
 | false =>
 go_wp2_with fail
 refine (HU.out _).mono ?_
 rintro e w1 ⟨rfl,y1⟩
 obtain⟨⟨b0,b1,b2,b3⟩,b4,b5,b6,b7⟩:=HR.out w1 y1
 have HY1:=Lib.hid (HXB.out.trans y1)
 cases bu with
 | false =>
  go_wp2_with fail
  go_ret
  exact⟨.inr rfl,HY1.out⟩
 | true =>
 by_cases hr0:pr < 1
 ·have e1:(pr:Int) < 1:=by omega
  have e1':decide ((pr:Int) < 1)=true:=decide_eq_true e1
  obtain rfl:pr=0:=by omega
  go_wp2_with fail
  go_ret
  exact⟨.inr rfl,HY1.out⟩
 have e1:¬ (pr:Int) < 1:=by omega
 have e1n:¬ pr=0:=by omega
 by_cases hr1:281474976710656 < pr
 ·have e2:(pr:Int) > 281474976710656:=by omega
  go_wp2_with fail
  go_ret
  exact⟨.inr rfl,HY1.out⟩
 have e2:¬ (pr:Int) > 281474976710656:=by omega
 go_wp2_with fail
 any_goals (exfalso;omega)
 refine (HP.out _).mono ?_
 rintro e w2 ⟨hb,y2⟩
 have HY2:=Lib.hid (HY1.out.trans y2)
 obtain⟨⟨b0,b1,b2,b3⟩,b4,b5,b6,b7⟩:=HR.out w2 (y1.trans y2)
 have HY12:=Lib.hid (y1.trans y2)
 rcases hb with rfl | rfl
 case' inr =>
  go_wp2_with fail
  go_ret
  exact⟨.inr rfl,HY2.out⟩
 case' inl =>
 cases z2 with
 | true =>
  cases pd
  all_goals
   go_wp2_with fail
   go_ret
   exact⟨by first | exact .inl rfl | exact .inr rfl,HY2.out⟩
 | false =>
 go_wp2_with fail
 refine (HV.out _).mono ?_
 rintro e w3 ⟨rfl,y3⟩
 have HY3:=Lib.hid (HY2.out.trans y3)
 obtain⟨⟨b0,b1,b2,b3⟩,b4,b5,b6,b7⟩:=HR.out w3 (HY12.out.trans y3)
 cases bv with
 | false =>
  go_wp2_with fail
  go_ret
  exact⟨.inr rfl,HY3.out⟩
 | true =>
 cases hbp:(pb == path) with
 | false =>
  go_wp2_with fail
  go_ret
  exact⟨.inr rfl,HY3.out⟩
 | true =>
 by_cases hc:pc<=281474976710656
 ·have e3:(pc:Int)<=281474976710656:=by omega
  have e4:IntKind.u64.wrap (281474976710656 - (pc:Int))=281474976710656 - (pc:Int):=by simp [IntKind.wrap,IntKind.signed,IntKind.bits];omega
  by_cases e5:(ps:Int)<=281474976710656 - (pc:Int)
  all_goals
   go_wp2_with fail
   go_ret
   exact⟨by first | exact .inl rfl | exact .inr rfl | (simp [e5]),HY3.out⟩
 ·have e3:¬ (pc:Int)<=281474976710656:=by omega
  go_wp2_with fail
  go_ret
  exact⟨.inr rfl,HY3.out⟩
end
end Go.Proofs.YtblkikjmocnllaaGreatDoor
