/- path.numbers: the numbers of a path, one by one, until one is none. -/
import Derived.Test.YtblkikjmocnllaaGreatDoorQz05
import Derived.Test.YtblkikjmocnllaaGreatDoorQz02
set_option linter.unusedVariables false
set_option linter.unusedSimpArgs false
set_option maxRecDepth 100000
set_option maxHeartbeats 40000000
namespace Go.Proofs.YtblkikjmocnllaaGreatDoor
section
open Go.RowKit Go.Shelf
def numsY:List Str->List Nat
 | []=>[]
 | f :: fs=>if numS f=0 then [0] else numS f :: numsY fs
def restY:Option Str->List Nat
 | none=>[]
 | some r=>numsY (splitC 46 r)
theorem numsY_cut (s:Str):numsY (splitC 46 s)=if numS (cutC 46 s).1=0 then [0] else numS (cutC 46 s).1 :: restY (cutC 46 s).2:=by
 rw [splitC_cut,numsY]
 cases (cutC 46 s).2 <;> rfl
theorem cutC_short {c:UInt8} {s q:Str} (h:(cutC c s).2=some q):q.length < s.length:=by
 have:=congrArg List.length (cutC_some h).1
 simp at this
 omega
section
attribute [local go_sem] Oper.semAt_some
theorem numbers1_in (n l B n₀:Nat) {S:Nat->Prop} {p:Str} (hp:p.length < 4611686018427387904) (J Jx:List Nat->World->Prop) (hn:1<=n)
  (W:World) (hJ:∀ s W m,J s W->J s (W.drewN m)) (hn₀:n₀<=W.heap.size)
  (hY:∀ (pre:List Nat) (x:Nat) (W:World),J pre W->pre.length < (numsY (splitC 46 p)).length->YieldAt Fence.wide (n - 1) Tryz.prog l #[I x] W fun e W' =>
   (e=.returned (.bool true)/\J (pre++[x]) W'/\KpS S n₀ W W') ∨ (e=.returned (.bool false)/\Jx (pre++[x]) W'))
  (h1:W.cell? ⟨B,0,none⟩=some (St p)) (h0:J [] W) :
  CallsIn Fence.wide n Tryz.prog 174 #[.func (.yield l) #[] #[],.pointer (some ⟨B,0,none⟩)] W fun e W'=>(∃ v,e=.returned v) /\
   ((∃ ys,ys=numsY (splitC 46 p)/\J ys W') ∨ (∃ pre,pre <+: numsY (splitC 46 p)/\Jx pre W')):=by
 have HN:=Lib.hid number_any
 have HC:=Lib.hid cut_any
 have HJ:=Lib.hid hJ
 have HY:=Lib.hid hY
 refine callsIn_of_wp Tryz.func174 rfl trivial ?_ rfl
 simp only [Tryz.ntmps174,List.size_toArray,List.length_cons,List.length_nil,Nat.reduceAdd,Nat.reduceSub,Array.replicate_succ,Array.replicate_zero,List.push_toArray,List.append_toArray,List.nil_append,List.cons_append]
 gi_wp2
 gi_loopw [3,4] (fun lf mr wr=>∃ left more done,lf=St left/\mr=.bool more/\left.length<=p.length/\(numsY (splitC 46 p)=done++if more then numsY (splitC 46 left) else [])/\J done wr/\W.heap.size<=wr.heap.size)
  (fun lf mr _=>match lf,mr with | .string s,.bool true=>s.size+1 | _,_=>0)
 case atStart=>exact⟨p,true,[],rfl,rfl,Nat.le_refl _,rfl,h0,Nat.le_refl _⟩
 case round =>
  obtain⟨left,more,done,rfl,rfl,hle,hP,hJs,hk⟩:=hrel
  cases more with
  | false =>
   have HP:=Lib.hid hP
   clear hP
   gi_wp2
   go_end0
   exact⟨⟨_,rfl⟩,.inl ⟨_,rfl,by rw [HP.out];simpa using hJs⟩⟩
  | true =>
   rw [if_pos rfl,numsY_cut left] at hP
   have HCL:=Lib.hid (HC.out left 46 (by omega))
   have hsh:=fun q=>cutC_short (c:=46) (s:=left) (q:=q)
   obtain⟨⟨fg,rs⟩,hx⟩:∃ x,cutC 46 left=x:=⟨_,rfl⟩
   rw [hx] at hP HCL hsh
   clear hx
   have HNF:=Lib.hid (HN.out fg)
   generalize numS fg=n1 at *
   have HP:=Lib.hid hP
   have HSH:=Lib.hid hsh
   have HJS:=Lib.hid hJs
   clear hP hsh hJs
   gi_wp2
   refine ⟨trivial,callsIn_wide.2 ((HCL.out _).mono ?_)⟩
   rintro e w1 ⟨rfl,nd,rfl⟩
   gi_wp2
   refine ⟨trivial,callsIn_wide.2 ((HNF.out _).mono ?_)⟩
   rintro e w1 ⟨rfl,rfl⟩
   have hJd:=HJ.out done wr nd HJS.out
   have hlt:done.length < (numsY (splitC 46 p)).length:=by rw [HP.out];split <;> simp
   obtain⟨fn,tmps,assign,body,hy,hR⟩:=HY.out done n1 (wr.drewN nd) hJd hlt
   have HR:=Lib.hid hR
   have hsz:wr.heap.size<=(wr.drewN nd).heap.size:=Nat.le_refl _
   clear hJd hlt hR
   by_cases hz:n1=0
   ·have HP:=Lib.hid (show numsY (splitC 46 p)=done++[n1] by rw [HP.out,if_pos hz,hz])
    have hy0:(Instr.yield l #[I 0]).run Tryz.prog (wr.drewN nd)=.ok (.round l fn tmps assign body) (wr.drewN nd):=by rw [hz] at hy;exact hy
    have hz:(n1:Int)=0:=by omega
    clear hy
    gi_wp2
    refine HR.out.mono ?_
    rintro e W3 (⟨rfl,hJ3,hk3⟩ | ⟨rfl,hJx3⟩)
    ·have HJ3:=Lib.hid hJ3
     clear hJ3
     gi_wp2
     refine bodyPost_ret (results_none rfl _ _ _) rfl ?_
     exact⟨⟨_,rfl⟩,.inl ⟨_,HP.out.symm,HJ3.out⟩⟩
    ·gi_wp2
     refine bodyPost_ret (results_none rfl _ _ _) rfl ?_
     exact⟨⟨_,rfl⟩,.inr ⟨done++[n1],by rw [HP.out];exact List.prefix_refl _,hJx3⟩⟩
   ·have hz':((n1:Int) == 0)=false:=by rw [beq_eq_false_iff_ne];omega
    have HP:=Lib.hid (show numsY (splitC 46 p)=(done++[n1])++restY rs by rw [HP.out,if_neg hz,List.append_assoc];rfl)
    gi_wp2
    refine HR.out.mono ?_
    rintro e W3 (⟨rfl,hJ3,hk3⟩ | ⟨rfl,hJx3⟩)
    ·have HJ3:=Lib.hid hJ3
     have HK3:=Lib.hid hk3
     clear hJ3 hk3
     gi_wp2
     go_roundw
     case rel =>
      refine ⟨rs.getD [],rs.isSome,done++[n1],rfl,rfl,?_,?_,HJ3.out,Nat.le_trans hk (Nat.le_trans hsz HK3.out.1)⟩
      ·cases rs with
       | none=>exact Nat.zero_le _
       | some r=>exact Nat.le_trans (Nat.le_of_lt (HSH.out r rfl)) hle
      ·rw [HP.out]
       cases rs <;> rfl
     case measure =>
      cases rs with
      | none=>simp
      | some r=>have:=HSH.out r rfl;simp [ByteArray.size];omega
    ·gi_wp2
     refine bodyPost_ret (results_none rfl _ _ _) rfl ?_
     exact⟨⟨_,rfl⟩,.inr ⟨done++[n1],by rw [HP.out];exact List.prefix_append _ _,hJx3⟩⟩
end
end
end Go.Proofs.YtblkikjmocnllaaGreatDoor
