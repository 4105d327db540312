/- member.spans: the iterator that it gives back: what touches is one. -/
import Derived.Test.YtblkikjmocnllaaGreatDoorQz28
import Derived.Test.YtblkikjmocnllaaGreatDoorQz02
import Derived.Sort.QuietIn
set_option linter.unusedVariables false
set_option linter.unusedSimpArgs false
set_option maxRecDepth 100000
set_option maxHeartbeats 40000000
namespace Go.Proofs.YtblkikjmocnllaaGreatDoor
section
open Go.RowKit Go.Shelf
theorem mrgF_stop {s:Span} {r:List Span} (h:∀ t ∈ r.head?,s.2 < t.1):mrgF s r=s :: mrg r:=by
 cases r with
 | nil=>rfl
 | cons t r=>have:=h t (by simp);rw [mrgF,if_neg (by omega)];rfl
section
attribute [local go_sem] Oper.semAt_some
theorem spans3_in (n l tb n₀:Nat) {S:Nat->Prop} {A:Option Addr} {c:Nat} {d:List Span} {base:Nat} (hd:d.length<=1099511627776) (J Jx:List Span->World->Prop) (hn:1<=n)
  (W:World) (hJ:AbidesFrom W.heap.size J) (hn₀:n₀<=W.heap.size) (htb:S tb) (htn:tb < n₀) (hbl:∀ b,ownBlk (.slice A d.length c) b->S b/\b < n₀)
  (hY:∀ (pre:List Span) (x:Span) (W:World),J pre W->pre.length < (mrg d).length->YieldAt Fence.wide (n - 1) Tryz.prog l #[.agg #[I x.1,I x.2]] W fun e W' =>
   (e=.returned (.bool true)/\J (pre++[x]) W'/\KpS S n₀ W W') ∨ (e=.returned (.bool false)/\Jx (pre++[x]) W'))
  (h1:W.cell? ⟨tb,0,none⟩=some (.slice A d.length c)) (h2:Own W base 76 2 (.slice A d.length c) d.length (d.flatMap spanC)) (h0:J [] W) :
  CallsIn Fence.wide n Tryz.prog 144 #[.func (.yield l) #[] #[],.pointer (some ⟨tb,0,none⟩)] W fun e W'=>(∃ v,e=.returned v) /\
   ((∃ ys,ys=mrg d/\J ys W') ∨ (∃ pre,pre <+: mrg d/\Jx pre W')):=by
 have HJ:=Lib.hid hJ
 have HY:=Lib.hid hY
 have H1:=Lib.hid (And.intro h1 h2)
 have HBL:=Lib.hid hbl
 clear hJ hY h2 hbl
 refine callsIn_of_wp Tryz.func144 rfl trivial ?_ rfl
 simp only [Tryz.ntmps144,List.size_toArray,List.length_cons,List.length_nil,Nat.reduceAdd,Nat.reduceSub,Array.replicate_succ,Array.replicate_zero,List.push_toArray,List.append_toArray,List.nil_append,List.cons_append]
 gi_wp2
 gi_loopw [3] (fun i wr=>∃ pre post done,d=pre++post/\i=I pre.length/\Hid (mrg d=done++mrg post)/\J done wr/\W.heap.size<=wr.heap.size/\wr.cell? ⟨tb,0,none⟩=some (.slice A d.length c)/\Own wr base 76 2 (.slice A d.length c) d.length (d.flatMap spanC)) (fun i _=>d.length - (intOf i).toNat)
 case atStart=>exact⟨[],d,[],rfl,rfl,Lib.hid rfl,h0,Nat.le_refl _,H1.out.1,H1.out.2⟩
 case round =>
  obtain⟨pre,post,done,hl,rfl,hm,hJs,hsz,htc,how⟩:=hrel
  cases post with
  | nil =>
   rw [List.append_nil] at hl
   have hlen:¬ ((pre.length:Nat):Int) < d.length:=by rw [hl];omega
   have HM:=Lib.hid (show done=mrg d by rw [hm.out];simp [mrg])
   have HJS:=Lib.hid hJs
   clear hl hm hJs
   gi_wp2
   go_end0
   exact⟨⟨_,rfl⟩,.inl (by have:=HJS.out;rw [HM.out] at this;exact this)⟩
  | cons s post =>
   have hlt:((pre.length:Nat):Int) < d.length:=by rw [hl];simp;omega
   obtain⟨b,o,rfl,hd0,hd1⟩:=span_at (own_slSpan how) (Ext.refl _) hl
   have HAT:=Lib.hid (fun (q r:List Span) (t:Span) (W2:World) (h:Ext wr W2) (hq:post=q++t :: r)=>(show W2.cell? ⟨b,o+(pre.length+1+q.length) * 2,none⟩=some (I t.1)/\W2.cell? ⟨b,o+(pre.length+1+q.length) * 2+1,none⟩=some (I t.2) from by
    obtain⟨b',o',e,h1,h2⟩:=span_at (own_slSpan how) h (show d=(pre++s :: q)++t :: r by rw [hl,hq];simp)
    injection e with e
    injection e with e1 e2 e3
    subst e1 e2
    rw [show (pre++s :: q).length=pre.length+1+q.length by simp;omega] at h1 h2
    exact⟨h1,h2⟩))
   have hdl:Hid (d.length=pre.length+1+post.length):=Lib.hid (by rw [hl];simp;omega)
   have HJS:=Lib.hid (And.intro hJs (And.intro hsz (And.intro htc how)))
   have HL:=Lib.hid hl
   have htl:=blk_of_cell htc
   have hrow:=rowNew wr 76 [I s.1,I s.2]
   have hxb:=(Ext.refl wr).alloc (.cells #[I s.1,I s.2] 76)
   clear hl hJs how
   gi_wp2
   generalize hW2:wr.alloc (.cells #[I s.1,I s.2] 76)=w2 at *
   generalize hbx:wr.heap.size=bx at *
   have hbx2:Hid (wr.heap.size=bx):=hbx
   clear hW2 hd0 hd1 hbx
   obtain⟨wo,rfl⟩:∃ wo:World,wo=wr:=⟨_,rfl⟩
   gi_loopw [3] (fun i W2=>∃ (s2:Span) (q r:List Span) (kk:Nat),post=q++r/\i=I kk/\Hid (kk=pre.length+1+q.length)/\Hid (mrgF s post=mrgF s2 r)/\RowIs W2 bx 76 [I s2.1,I s2.2] []/\Ext wo W2) (fun i _=>d.length - (intOf i).toNat)
   case atStart=>exact⟨s,[],post,pre.length+1,rfl,by simp,Lib.hid (by simp),Lib.hid rfl,hrow,hxb⟩
   case round =>
    obtain⟨s2,q,r,kk,hq,rfl,hkk,hmm,hrw,hx⟩:=hrel
    obtain⟨W2,rfl⟩:∃ W2:World,W2=wr:=⟨_,rfl⟩
    have tc2:=hx.cell htc
    have b0:=hrw.cell (j:=0) rfl
    have b1:=hrw.cell (j:=1) rfl
    have fb:=hrw.frozen 1
    have hbl2:=hrw.lt
    cases r with
    | nil =>
     have hkd:decide ((kk:Int) < d.length)=false:=by have h1:=hkk.out;have h2:=hdl.out;rw [hq] at h2;simp at h2 ⊢;omega
     have hkd2:¬ ((kk:Int) < d.length):=by simpa using hkd
     have hkn:decide (kk < d.length)=false:=by simpa using hkd
     have hstop:=Lib.hid (show ∀ t ∈ ([]:List Span).head?,s2.2 < t.1 by simp)
     gi_wp2
     gi_quiet (fail)
     have hx5:=hx.drewN nq
     have hrw5:RowIs (W2.drewN nq) bx 76 [I s2.1,I s2.2] []:=hrw
     clear hx hrw b0 b1 fb hbl2 tc2
     generalize W2.drewN nq=W5 at *
     have b0:=hrw5.cell (j:=0) rfl
     have b1:=hrw5.cell (j:=1) rfl
     have hmd:Hid (mrg d=(done++[s2])++mrg []):=Lib.hid (by rw [hm.out,List.append_assoc,show mrg (s :: post)=mrgF s post from rfl,hmm.out,mrgF_stop hstop.out];rfl)
     have hdl2:done.length < (mrg d).length:=by rw [hmd.out];simp <;> omega
     have hJd:=HJ.out done wo W5 none HJS.out.1 (ext_grownBy hx5) (by simp)
     obtain⟨fn,tmps,assign,body,hy,hR⟩:=HY.out done s2 W5 hJd hdl2
     have HR:=Lib.hid hR
     have HX:=Lib.hid hx5
     have HRW:=Lib.hid hrw5
     clear hJd hR hdl2 hstop hx5 hrw5
     gi_wp2
     refine HR.out.mono ?_
     rintro e W3 (⟨rfl,hJ3,hk3⟩ | ⟨rfl,hJx3⟩)
     ·have HJ3:=Lib.hid (And.intro hJ3 hk3)
      have hcell3:W3.cell? ⟨tb,0,none⟩=some (.slice (some ⟨b,o,none⟩) d.length c):=(World.cell?_of_block (a:=⟨tb,0,none⟩) (hk3.2 tb htb htn)).trans (HX.out.cell htc)
      have how3:Own W3 base 76 2 (.slice (some ⟨b,o,none⟩) d.length c) d.length (d.flatMap spanC):=(HJS.out.2.2.2.ext HX.out).keep fun b' hb' _=>hk3.2 b' (HBL.out b' hb').1 (HBL.out b' hb').2
      have HC3:=Lib.hid (And.intro hcell3 how3)
      clear hJ3 hk3 hcell3 how3
      gi_wp2
      go_roundw
      case rel=>exact⟨pre++s :: q,[],done++[s2],by rw [HL.out,hq];simp,by rw [show (pre++s :: q).length=kk by rw [hkk.out];simp;omega],hmd,HJ3.out.1,Nat.le_trans hsz (by have:=HX.out.size;have:=hbx2.out;have:=HJ3.out.2.1;omega),HC3.out.1,HC3.out.2⟩
      case measure=>have:=hkk.out;simp [intOf];omega
     ·have HJX:=Lib.hid hJx3
      clear hJx3
      gi_wp2
      refine bodyPost_ret (results_none rfl _ _ _) rfl ?_
      exact⟨⟨_,rfl⟩,.inr ⟨done++[s2],by rw [hmd.out];exact List.prefix_append _ _,HJX.out⟩⟩
    | cons t r =>
     have hkl:kk < d.length:=by have h1:=hkk.out;have h2:=hdl.out;rw [hq] at h2;simp at h2;omega
     have hkd2:(kk:Int) < d.length:=by omega
     have hkd:decide ((kk:Int) < d.length)=true:=by simpa using hkd2
     have hkn:decide (kk < d.length)=true:=by simpa using hkl
     obtain⟨g1,g2⟩:=HAT.out q r t W2 hx hq
     rw [<- hkk.out] at g1 g2
     by_cases hts:t.1<=s2.2
     ·have e1:decide (t.1<=s2.2)=true:=by simpa using hts
      have hmm2:Hid (mrgF s post=mrgF (s2.1,max s2.2 t.2) r):=Lib.hid (by rw [hmm.out,mrgF,if_pos hts])
      gi_wp2
      gi_quiet (fail)
      have hx5:=hx.drewN nq
      have hrw5:RowIs (W2.drewN nq) bx 76 [I s2.1,I s2.2] []:=hrw
      clear hx hrw b0 b1 fb hbl2 tc2 g1 g2
      generalize W2.drewN nq=W5 at *
      have tc5:=hx5.cell htc
      have b1:=hrw5.cell (j:=1) rfl
      have fb:=hrw5.frozen 1
      have hbl5:=hrw5.lt
      have g2:=(HAT.out q r t W5 hx5 hq).2
      rw [<- hkk.out] at g2
      have HR5:=Lib.hid (And.intro hx5 hrw5)
      clear hx5 hrw5
      gi_wp2
      gi_region
      have hr6:=HR5.out.2.set (j:=1) (by simp) (I (max s2.2 t.2))
      simp only [List.set_cons_succ,List.set_cons_zero] at hr6
      have HR6:=Lib.hid (show RowIs (W5.setCell ⟨bx,1,none⟩ (I (max s2.2 t.2))).drew bx 76 [I s2.1,I (max s2.2 t.2)] []/\Ext wo (W5.setCell ⟨bx,1,none⟩ (I (max s2.2 t.2))).drew from ⟨hr6,(HR5.out.1.set (p:=⟨bx,1,none⟩) (by show wo.heap.size<=bx;have:=hbx2.out;omega) _).drew⟩)
      clear hr6 HR5 tc5 b1 fb g2 hbl5
      generalize (W5.setCell ⟨bx,1,none⟩ (.int .i64 (max s2.2 t.2))).drew=W6 at *
      (try simp only [Exit.inBlock,Exit.then])
      gi_wp2
      go_roundw
      case rel=>exact⟨(s2.1,max s2.2 t.2),q++[t],r,kk+1,by rw [hq];simp,by simp,Lib.hid (by have:=hkk.out;simp;omega),hmm2,HR6.out.1,HR6.out.2⟩
      case measure=>simp [intOf];omega
     ·have e1:decide (t.1<=s2.2)=false:=by simpa using hts
      have hstop:=Lib.hid (show ∀ u ∈ (t :: r).head?,s2.2 < u.1 by simpa using hts)
      gi_wp2
      gi_quiet (fail)
      have hx5:=hx.drewN nq
      have hrw5:RowIs (W2.drewN nq) bx 76 [I s2.1,I s2.2] []:=hrw
      clear hx hrw b0 b1 fb hbl2 tc2 g1 g2
      generalize W2.drewN nq=W5 at *
      have b0:=hrw5.cell (j:=0) rfl
      have b1:=hrw5.cell (j:=1) rfl
      have hmd:Hid (mrg d=(done++[s2])++mrg (t :: r)):=Lib.hid (by rw [hm.out,List.append_assoc,show mrg (s :: post)=mrgF s post from rfl,hmm.out,mrgF_stop hstop.out];rfl)
      have hdl2:done.length < (mrg d).length:=by rw [hmd.out];simp <;> omega
      have hJd:=HJ.out done wo W5 none HJS.out.1 (ext_grownBy hx5) (by simp)
      obtain⟨fn,tmps,assign,body,hy,hR⟩:=HY.out done s2 W5 hJd hdl2
      have HR:=Lib.hid hR
      have HX:=Lib.hid hx5
      have HRW:=Lib.hid hrw5
      clear hJd hR hdl2 hstop hx5 hrw5
      gi_wp2
      refine HR.out.mono ?_
      rintro e W3 (⟨rfl,hJ3,hk3⟩ | ⟨rfl,hJx3⟩)
      ·have HJ3:=Lib.hid (And.intro hJ3 hk3)
       have hcell3:W3.cell? ⟨tb,0,none⟩=some (.slice (some ⟨b,o,none⟩) d.length c):=(World.cell?_of_block (a:=⟨tb,0,none⟩) (hk3.2 tb htb htn)).trans (HX.out.cell htc)
       have how3:Own W3 base 76 2 (.slice (some ⟨b,o,none⟩) d.length c) d.length (d.flatMap spanC):=(HJS.out.2.2.2.ext HX.out).keep fun b' hb' _=>hk3.2 b' (HBL.out b' hb').1 (HBL.out b' hb').2
       have HC3:=Lib.hid (And.intro hcell3 how3)
       clear hJ3 hk3 hcell3 how3
       gi_wp2
       go_roundw
       case rel=>exact⟨pre++s :: q,t :: r,done++[s2],by rw [HL.out,hq];simp,by rw [show (pre++s :: q).length=kk by rw [hkk.out];simp;omega],hmd,HJ3.out.1,Nat.le_trans hsz (by have:=HX.out.size;have:=hbx2.out;have:=HJ3.out.2.1;omega),HC3.out.1,HC3.out.2⟩
       case measure=>have:=hkk.out;simp [intOf];omega
      ·have HJX:=Lib.hid hJx3
       clear hJx3
       gi_wp2
       refine bodyPost_ret (results_none rfl _ _ _) rfl ?_
       exact⟨⟨_,rfl⟩,.inr ⟨done++[s2],by rw [hmd.out];exact List.prefix_append _ _,HJX.out⟩⟩
end
end
end Go.Proofs.YtblkikjmocnllaaGreatDoor
