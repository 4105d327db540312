/- Contracts of the functions that the statement goes through, and plain laws of them. -/
import Derived.Test.YtdikcgmdmcfpfaaGreatOw02
import Derived.Test.YtdikcgmdmcfpfaaGreatOw08
import Derived.StillTail
import Derived.StillTailTactics
set_option linter.unusedVariables false
set_option linter.unusedSimpArgs false
set_option linter.unusedSectionVars false
set_option maxRecDepth 100000
set_option maxHeartbeats 4000000
namespace Go.Proofs.YtdikcgmdmcfpfaaGreat
section
open Go.RowKit
theorem ztq (A B:List Mark) (m:Mark) (h0:m.1 ≠ []) (hz:ofM (A++B) m.1=0) (s:Str):ofM (A++m :: B) s=if s=m.1 then m.2 else ofM (A++B) s:=by
 have e:ofM (A++m :: B) s=max (ofM (A++B) s) (ofM [m] s):=by
  rw [show A++m :: B=A++[m]++B by simp,zig,zig,zig];omega
 rw [e,show m=(m.1,m.2) from rfl,zl3]
 by_cases hs:s=m.1
 ·subst hs;rw [hz];simp [h0]
 ·simp [hs]
theorem zre {A B:List Mark} {m:Mark} (hg:GoodM (A++B)) (h0:m.1 ≠ []) (h1:1≤m.2) (hz:ofM (A++B) m.1=0) (hA:∀ x ∈ A,ltS m.1 x.1=false) (hB:∀ b r,B=b :: r→ltS m.1 b.1=true):GoodM (A++m :: B):=by
 have hne:∀ x ∈ A++B,x.1 ≠ m.1:=fun x hx e=>by
  have h:=zfd hx (hg.2 x hx).1
  rw [e,hz] at h
  have:=(hg.2 x hx).2
  omega
 obtain⟨hsA,hsB,hAB⟩:=List.pairwise_append.1 hg.1
 refine ⟨List.pairwise_append.2 ⟨hsA,List.pairwise_cons.2 ⟨fun b hb=>?_,hsB⟩,fun x hx y hy=>?_⟩,fun x hx=>?_⟩
 ·cases B with
  | nil=>cases hb
  | cons y r =>
   have h:=hB y r rfl
   rcases List.mem_cons.1 hb with rfl | hb
   ·exact h
   ·exact zax h ((List.pairwise_cons.1 hsB).1 b hb)
 ·rcases List.mem_cons.1 hy with rfl | hy
  ·rcases zcj x.1 y.1 with h | h | h
   ·exact h
   ·exact absurd h (hne x (List.mem_append_left _ hx))
   ·rw [hA x hx] at h;cases h
  ·exact hAB x hx y hy
 ·rcases List.mem_append.1 hx with hx | hx
  ·exact hg.2 x (List.mem_append_left _ hx)
  ·rcases List.mem_cons.1 hx with rfl | hx
   ·exact⟨h0,h1⟩
   ·exact hg.2 x (List.mem_append_right _ hx)
def CleanOf (l pre L:List Mark):Prop:=GoodM L∧L.length≤pre.length∧∀ s,ofM L s=if ∃ m ∈ pre,m.1=s then ofM l s else 0
theorem zpu (l:List Mark):CleanOf l [] []:=⟨zms,Nat.le_refl _,fun s=>by simp [zh2]⟩
theorem CleanOf.done {l L:List Mark} (h:CleanOf l l L):L=za9 l:=h.1.ext (zcw l) fun s=>by
 rw [h.2.2 s,zdp]
 by_cases e:∃ m ∈ l,m.1=s
 ·rw [if_pos e]
 ·rw [if_neg e]
  exact (zd9 fun m hm hs=>e ⟨m,hm,hs⟩).symm
theorem CleanOf.skip {l pre L:List Mark} {x:Mark} (h:CleanOf l pre L) (hx:ofM l x.1=0 ∨ ofM L x.1 ≠ 0):CleanOf l (pre++[x]) L:=by
 refine ⟨h.1,by have:=h.2.1;simp;omega,fun s=>?_⟩
 rw [h.2.2 s]
 by_cases e:∃ m ∈ pre,m.1=s
 ·obtain⟨m,hm,hs⟩:=e
  rw [if_pos ⟨m,hm,hs⟩,if_pos ⟨m,List.mem_append_left _ hm,hs⟩]
 ·rw [if_neg e]
  by_cases hs:x.1=s
  ·rw [if_pos ⟨x,by simp,hs⟩]
   rcases hx with hx | hx
   ·rw [← hs,hx]
   ·rw [h.2.2,hs,if_neg e] at hx
    exact absurd rfl hx
  ·rw [if_neg]
   rintro⟨m,hm,hms⟩
   rcases List.mem_append.1 hm with hm | hm
   ·exact e ⟨m,hm,hms⟩
   ·simp at hm;subst hm;exact hs hms
theorem CleanOf.put {l pre A B:List Mark} {x:Mark} (h:CleanOf l pre (A++B)) (hx:ofM l x.1 ≠ 0) (hz:ofM (A++B) x.1=0) (hA:∀ y ∈ A,ltS x.1 y.1=false) (hB:∀ b r,B=b :: r→ltS x.1 b.1=true):CleanOf l (pre++[x]) (A++(x.1,ofM l x.1) :: B):=by
 have h0:x.1 ≠ []:=fun e=>hx (by rw [e,ze7])
 refine ⟨zre h.1 h0 (by simp only;omega) hz hA hB,by have:=h.2.1;simp at this ⊢;omega,fun s=>?_⟩
 rw [ztq A B (x.1,ofM l x.1) h0 hz s]
 by_cases hs:s=x.1
 ·rw [if_pos hs,if_pos ⟨x,by simp,hs.symm⟩,hs]
 ·rw [if_neg hs,h.2.2 s]
  by_cases e:∃ m ∈ pre,m.1=s
  ·obtain⟨m,hm,hms⟩:=e
   rw [if_pos ⟨m,hm,hms⟩,if_pos ⟨m,List.mem_append_left _ hm,hms⟩]
  ·rw [if_neg e,if_neg]
   rintro⟨m,hm,hms⟩
   rcases List.mem_append.1 hm with hm | hm
   ·exact e ⟨m,hm,hms⟩
   ·simp at hm;subst hm;exact hs hms.symm
theorem zok {S:Nat→Prop} {v:Value} {l:List Mark} {w:World} (hv:Sl markT w S v l) (hl0:l.length≤1000000) :
  Calls Tryz.prog 66 #[v] w fun e w'=>∃ v',e = .returned v'∧Own w' w.heap.size 25 2 v' (za9 l).length ((za9 l).flatMap zaf)∧Ext w w':=by
 have hv':=hv
 obtain⟨P0,c,rfl,h1,h2⟩:=hv.form
 have HAT:=Lib.hid (fun (pre post:List Mark) (x:Mark) (wr:World) (h:Ext w wr) (hl:l=pre++x :: post)=>zc2 hv' h hl)
 have HOF:=Lib.hid (fun (s:Str) (wr:World) (h:Ext w wr)=>zfa s (hv'.ext (by decide) h))
 clear hv hv'
 go_enter Tryz.func66,Tryz.ntmps66
 go_wp2_with fail
 go_loopw [3,4] (fun o i wr=>∃ pre post L,l=pre++post∧i=I pre.length∧CleanOf l pre L∧Own wr w.heap.size 25 2 o L.length (L.flatMap zaf)∧Ext w wr) (fun _ i _=>l.length - (intOf i).toNat)
 case atStart=>exact⟨[],l,[],rfl,rfl,zpu l,Own.nil _ _ _ _ _,Ext.refl _⟩
 case round =>
  obtain⟨pre,post,L,hl,rfl,hC,hown,hx⟩:=hrel
  cases post with
  | cons x post =>
   obtain⟨b,o,rfl,e0,e1⟩:=HAT.out pre post x wr hx hl
   have hlt:pre.length < l.length:=by rw [hl];simp
   have hLl:=hC.2.1
   have HL:=Lib.hid hl
   have HX:=Lib.hid hx
   have HC:=Lib.hid hC
   have HO:=Lib.hid hown
   have hn3:=hx.size
   have HF1:=Lib.hid (HOF.out x.1 wr hx)
   have HF2:=Lib.hid (zfa x.1 (za6 hown))
   obtain⟨C,cc,rfl,-,-⟩:=hown.form
   clear hl hx hC hown
   go_wp2_with fail
   refine HF1.out.mono ?_
   rintro e w1 ⟨rfl,rfl⟩
   obtain⟨n1,hn1⟩:∃ n,ofM l x.1=n:=⟨_,rfl⟩
   rw [hn1]
   by_cases hz:n1=0
   ·subst hz
    have HN:=Lib.hid hn1
    clear hn1
    go_wp2_with fail
    go_roundw
    case rel=>exact⟨pre++[x],post,L,by rw [HL.out];simp,by simp,HC.out.skip (.inl HN.out),HO.out,HX.out⟩
    case measure=>simp [intOf];omega
   ·have hz':0 < n1:=by omega
    have HN:=Lib.hid hn1
    have HZ:=Lib.hid hz
    clear hn1 hz
    go_wp2_with fail
    refine HF2.out.mono ?_
    rintro e w1 ⟨rfl,rfl⟩
    obtain⟨n2,hn2⟩:∃ n,ofM L x.1=n:=⟨_,rfl⟩
    rw [hn2]
    by_cases hz2:n2=0
    ·subst hz2
     have HN2:=Lib.hid hn2
     clear hn2
     go_wp2_with fail
     obtain⟨Wd,hWd⟩:∃ Wd,wr.drew=Wd:=⟨_,rfl⟩
     have hxd:Ext wr Wd:=by rw [← hWd];exact (Ext.refl wr).drew
     have d0:=hxd.cell e0
     have HF3:=Lib.hid (HOF.out x.1 Wd (HX.out.trans hxd))
     have HP:=Lib.hid (zrd (x.1,n1) (za6 (HO.out.ext hxd)) (by omega))
     have HXD:=Lib.hid (HX.out.trans hxd)
     refine wp_region_still_tail 14 (by kernel_rfl) (by kernel_rfl) ?_
     simp only [List.take_succ_cons,List.take_zero,List.drop_succ_cons,List.drop_zero]
     change wpStill _ _ wr.drew (fun a'=>wpList _ _ _ _ a' wr.drew) _ _
     rw [hWd]
     repeat still_step
     still_call (HF3.out.mono fun e w' h=>⟨h.1,h.2.symm⟩)
     repeat still_step
     refine wpStill_nil ?_
     rw [HN.out]
     go_wp2_with fail
     refine HP.out.mono ?_
     rintro e w4 ⟨v',A,B,rfl,hAB,hA,hB,hown4,hx4⟩
     go_wp2_with fail
     go_roundw
     case rel =>
      subst hAB
      exact⟨pre++[x],post,A++(x.1,n1) :: B,by rw [HL.out];simp,by simp,by have h:=HC.out.put (x:=x) (by rw [HN.out];exact HZ.out) HN2.out hA hB;rw [HN.out] at h;exact h,hown4.lower HXD.out.size,HXD.out.trans hx4⟩
     case measure=>simp [intOf];omega
    ·have hz':((n2:Int) == 0)=false:=by rw [beq_eq_false_iff_ne];omega
     have HN2:=Lib.hid hn2
     have HZ2:=Lib.hid hz2
     clear hn2 hz2
     go_wp2_with fail
     go_roundw
     case rel=>exact⟨pre++[x],post,L,by rw [HL.out];simp,by simp,HC.out.skip (.inr (by rw [HN2.out];exact HZ2.out)),HO.out,HX.out⟩
     case measure=>simp [intOf];omega
  | nil =>
   rw [List.append_nil] at hl
   subst hl
   have he:=hC.done
   obtain⟨C,cc,rfl,-,-⟩:=hown.form
   go_wp2_with fail
   go_ret
   exact⟨_,rfl,he ▸ hown,hx⟩
end
section
open Go.RowKit
theorem zkh {S:Nat→Prop} {v:Value} {l:List Mark} {w:World} (s:Str) (hv:Sl markT w S v l) (hl0:l.length≤1000000) :
  Calls Tryz.prog 23 #[v,St s] w fun e w'=>∃ v',e = .returned v'∧Own w' w.heap.size 25 2 v' (zbl l s).length ((zbl l s).flatMap zaf)∧Ext w w':=by
 have HCL:=Lib.hid (zok hv hl0)
 have htl:=zdd l
 obtain⟨P0,c,rfl,h1,h2⟩:=hv.form
 have HD:=Lib.hid (show zbl l s=(za9 l).filter (fun m=>m.1 != s) from rfl)
 clear hv
 go_enter Tryz.func23,Tryz.ntmps23
 go_wp2_with fail
 refine HCL.out.mono ?_
 rintro e W ⟨v',rfl,hown0,hx0⟩
 generalize za9 l=t at *
 have hsl:=za6 hown0
 obtain⟨P,c',rfl,k1,k2⟩:=hown0.form
 have HAT:=Lib.hid (fun (pre post:List Mark) (x:Mark) (wr:World) (h:Ext W wr) (hl:t=pre++x :: post)=>zc2 hsl h hl)
 have HX0:=Lib.hid hx0
 have hn0:=hx0.size
 clear hown0 hsl hx0 HCL
 go_wp2_with fail
 go_loopw [5,7] (fun o i wr=>∃ pre post,t=pre++post∧i=I pre.length∧Own wr W.heap.size 25 2 o (pre.filter (fun m=>m.1 != s)).length ((pre.filter (fun m=>m.1 != s)).flatMap zaf)∧Ext W wr) (fun _ i _=>t.length - (intOf i).toNat)
 case atStart=>exact⟨[],t,rfl,rfl,Own.nil _ _ _ _ _,Ext.refl _⟩
 case round =>
  obtain⟨pre,post,hl,rfl,hown,hx⟩:=hrel
  cases post with
  | cons x post =>
   obtain⟨b,o,rfl,e0,e1⟩:=HAT.out pre post x wr hx hl
   have hlt:pre.length < t.length:=by rw [hl];simp
   have hpf:=List.length_filter_le (fun m:Mark=>m.1 != s) pre
   have HL:=Lib.hid hl
   have HX:=Lib.hid hx
   have hn3:=hx.size
   generalize hpl:pre.filter (fun m:Mark=>m.1 != s)=pl at *
   have HPL:=Lib.hid hpl
   have HO:=Lib.hid hown
   obtain⟨C,cc,rfl,-,-⟩:=hown.form
   clear hl hx hpl hown
   by_cases hc:x.1=s
   ·have HF:=Lib.hid (show (pre++[x]).filter (fun m:Mark=>m.1 != s)=pl by rw [List.filter_append,HPL.out];simp [hc])
    rw [hc] at e0
    clear hc
    go_wp2_with fail
    go_roundw
    case rel=>exact⟨pre++[x],post,by rw [HL.out];simp,by simp,by rw [HF.out];exact HO.out,HX.out⟩
    case measure=>simp [intOf];omega
   ·have HF:=Lib.hid (show (pre++[x]).filter (fun m:Mark=>m.1 != s)=pl++[x] by rw [List.filter_append,HPL.out];simp [hc])
    have hc':(x.1 == s)=false:=by simpa using hc
    clear hc
    go_wp2_with (at_builtin;refine zai rfl (.tmp 23) (.tmp 28) 26 rfl W.heap.size 25 2 24 (.agg #[St [],U 0]) Tryz.underlying26 zcc rfl (by omega) _ pl.length (pl.flatMap zaf) rfl (HO.out.alloc _) _ 1 1 [St x.1,U x.2] rfl (Src.new rfl (by intro u hu;simp at hu;rcases hu with rfl | rfl <;> rfl)) (by omega) (by omega) (by simp;omega) ?_;intro v2 w2 hown2 hgr2)
    go_roundw
    case rel=>exact⟨pre++[x],post,by rw [HL.out];simp,by simp,by rw [HF.out];simpa [zaf] using hown2,Ext.grewOwn (HX.out.alloc _) hgr2 (HO.out.alloc _) (Nat.le_refl _)⟩
    case measure=>simp [intOf];omega
  | nil =>
   rw [List.append_nil] at hl
   subst hl
   obtain⟨C,cc,rfl,-,-⟩:=hown.form
   go_wp2_with fail
   go_ret
   exact⟨_,rfl,by rw [HD.out];exact hown.lower hn0,HX0.out.trans hx⟩
end
end Go.Proofs.YtdikcgmdmcfpfaaGreat
