/- Contracts of the functions that the statement goes through, and plain laws of them. -/
import Derived.Test.YtdikcgmdmcfpfaaGreatSi02
import Derived.Test.YtdikcgmdmcfpfaaGreatSi08
import Derived.StillTail
import Derived.StillTailTactics
set_option linter.unusedVariables false
set_option linter.unusedSimpArgs false
set_option linter.unusedSectionVars false
set_option maxRecDepth 100000
set_option maxHeartbeats 4000000
namespace Go.Proofs.YtdikcgmdmcfpfaaGreat
section
open Go.RowKit
theorem zrz (A B:List Mark) (m:Mark) (h0:m.1 ≠ []) (hz:ofM (A++B) m.1=0) (s:Str):ofM (A++m :: B) s=if s=m.1 then m.2 else ofM (A++B) s:=by
 have e:ofM (A++m :: B) s=max (ofM (A++B) s) (ofM [m] s):=by
  rw [show A++m :: B=A++[m]++B by simp,zhh,zhh,zhh];omega
 rw [e,show m=(m.1,m.2) from rfl,zn9]
 by_cases hs:s=m.1
 ·subst hs;rw [hz];simp [h0]
 ·simp [hs]
theorem zpl {A B:List Mark} {m:Mark} (hg:GoodM (A++B)) (h0:m.1 ≠ []) (h1:1≤m.2) (hz:ofM (A++B) m.1=0) (hA:∀ x ∈ A,ltS m.1 x.1=false) (hB:∀ b r,B=b :: r→ltS m.1 b.1=true):GoodM (A++m :: B):=by
 have hne:∀ x ∈ A++B,x.1 ≠ m.1:=fun x hx e=>by
  have h:=zer hx (hg.2 x hx).1
  rw [e,hz] at h
  have:=(hg.2 x hx).2
  omega
 obtain⟨hsA,hsB,hAB⟩:=List.pairwise_append.1 hg.1
 refine ⟨List.pairwise_append.2 ⟨hsA,List.pairwise_cons.2 ⟨fun b hb=>?_,hsB⟩,fun x hx y hy=>?_⟩,fun x hx=>?_⟩
 ·cases B with
  | nil=>cases hb
  | cons y r =>
   have h:=hB y r rfl
   rcases List.mem_cons.1 hb with rfl | hb
   ·exact h
   ·exact za0 h ((List.pairwise_cons.1 hsB).1 b hb)
 ·rcases List.mem_cons.1 hy with rfl | hy
  ·rcases zcn x.1 y.1 with h | h | h
   ·exact h
   ·exact absurd h (hne x (List.mem_append_left _ hx))
   ·rw [hA x hx] at h;cases h
  ·exact hAB x hx y hy
 ·rcases List.mem_append.1 hx with hx | hx
  ·exact hg.2 x (List.mem_append_left _ hx)
  ·rcases List.mem_cons.1 hx with rfl | hx
   ·exact⟨h0,h1⟩
   ·exact hg.2 x (List.mem_append_right _ hx)
def CleanOf (l pre L:List Mark):Prop:=GoodM L∧L.length≤pre.length∧∀ s,ofM L s=if ∃ m ∈ pre,m.1=s then ofM l s else 0
theorem znw (l:List Mark):CleanOf l [] []:=⟨zqa,Nat.le_refl _,fun s=>by simp [zim]⟩
theorem CleanOf.done {l L:List Mark} (h:CleanOf l l L):L=za8 l:=h.1.ext (zb8 l) fun s=>by
 rw [h.2.2 s,zc1]
 by_cases e:∃ m ∈ l,m.1=s
 ·rw [if_pos e]
 ·rw [if_neg e]
  exact (zed fun m hm hs=>e ⟨m,hm,hs⟩).symm
theorem CleanOf.skip {l pre L:List Mark} {x:Mark} (h:CleanOf l pre L) (hx:ofM l x.1=0 ∨ ofM L x.1 ≠ 0):CleanOf l (pre++[x]) L:=by
 refine ⟨h.1,by have:=h.2.1;simp;omega,fun s=>?_⟩
 rw [h.2.2 s]
 by_cases e:∃ m ∈ pre,m.1=s
 ·obtain⟨m,hm,hs⟩:=e
  rw [if_pos ⟨m,hm,hs⟩,if_pos ⟨m,List.mem_append_left _ hm,hs⟩]
 ·rw [if_neg e]
  by_cases hs:x.1=s
  ·rw [if_pos ⟨x,by simp,hs⟩]
   rcases hx with hx | hx
   ·rw [← hs,hx]
   ·rw [h.2.2,hs,if_neg e] at hx
    exact absurd rfl hx
  ·rw [if_neg]
   rintro⟨m,hm,hms⟩
   rcases List.mem_append.1 hm with hm | hm
   ·exact e ⟨m,hm,hms⟩
   ·simp at hm;subst hm;exact hs hms
theorem CleanOf.put {l pre A B:List Mark} {x:Mark} (h:CleanOf l pre (A++B)) (hx:ofM l x.1 ≠ 0) (hz:ofM (A++B) x.1=0) (hA:∀ y ∈ A,ltS x.1 y.1=false) (hB:∀ b r,B=b :: r→ltS x.1 b.1=true):CleanOf l (pre++[x]) (A++(x.1,ofM l x.1) :: B):=by
 have h0:x.1 ≠ []:=fun e=>hx (by rw [e,zek])
 refine ⟨zpl h.1 h0 (by simp only;omega) hz hA hB,by have:=h.2.1;simp at this ⊢;omega,fun s=>?_⟩
 rw [zrz A B (x.1,ofM l x.1) h0 hz s]
 by_cases hs:s=x.1
 ·rw [if_pos hs,if_pos ⟨x,by simp,hs.symm⟩,hs]
 ·rw [if_neg hs,h.2.2 s]
  by_cases e:∃ m ∈ pre,m.1=s
  ·obtain⟨m,hm,hms⟩:=e
   rw [if_pos ⟨m,hm,hms⟩,if_pos ⟨m,List.mem_append_left _ hm,hms⟩]
  ·rw [if_neg e,if_neg]
   rintro⟨m,hm,hms⟩
   rcases List.mem_append.1 hm with hm | hm
   ·exact e ⟨m,hm,hms⟩
   ·simp at hm;subst hm;exact hs hms.symm
theorem zmw {S:Nat→Prop} {v:Value} {l:List Mark} {w:World} (hv:Sl markT w S v l) (hl0:l.length≤1000000) :
  Calls Tryz.prog 66 #[v] w fun e w'=>∃ v',e = .returned v'∧Own w' w.heap.size 25 2 v' (za8 l).length ((za8 l).flatMap zag)∧Ext w w':=by
 have hv':=hv
 obtain⟨P0,c,rfl,h1,h2⟩:=hv.form
 have HAT:=Lib.hid (fun (pre post:List Mark) (x:Mark) (wr:World) (h:Ext w wr) (hl:l=pre++x :: post)=>zcc hv' h hl)
 have HOF:=Lib.hid (fun (s:Str) (wr:World) (h:Ext w wr)=>zfi s (hv'.ext (by decide) h))
 clear hv hv'
 go_enter Tryz.func66,Tryz.ntmps66
 go_wp2_with fail
 go_loopw [3,4] (fun o i wr=>∃ pre post L,l=pre++post∧i=I pre.length∧CleanOf l pre L∧Own wr w.heap.size 25 2 o L.length (L.flatMap zag)∧Ext w wr) (fun _ i _=>l.length - (intOf i).toNat)
 case atStart=>exact⟨[],l,[],rfl,rfl,znw l,Own.nil _ _ _ _ _,Ext.refl _⟩
 case round =>
  obtain⟨pre,post,L,hl,rfl,hC,hown,hx⟩:=hrel
  cases post with
  | cons x post =>
   obtain⟨b,o,rfl,e0,e1⟩:=HAT.out pre post x wr hx hl
   have hlt:pre.length < l.length:=by rw [hl];simp
   have hLl:=hC.2.1
   have HL:=Lib.hid hl
   have HX:=Lib.hid hx
   have HC:=Lib.hid hC
   have HO:=Lib.hid hown
   have hn3:=hx.size
   have HF1:=Lib.hid (HOF.out x.1 wr hx)
   have HF2:=Lib.hid (zfi x.1 (za5 hown))
   obtain⟨C,cc,rfl,-,-⟩:=hown.form
   clear hl hx hC hown
   go_wp2_with fail
   refine HF1.out.mono ?_
   rintro e w1 ⟨rfl,rfl⟩
   obtain⟨n1,hn1⟩:∃ n,ofM l x.1=n:=⟨_,rfl⟩
   rw [hn1]
   by_cases hz:n1=0
   ·subst hz
    have HN:=Lib.hid hn1
    clear hn1
    go_wp2_with fail
    go_roundw
    case rel=>exact⟨pre++[x],post,L,by rw [HL.out];simp,by simp,HC.out.skip (.inl HN.out),HO.out,HX.out⟩
    case measure=>simp [intOf];omega
   ·have hz':0 < n1:=by omega
    have HN:=Lib.hid hn1
    have HZ:=Lib.hid hz
    clear hn1 hz
    go_wp2_with fail
    refine HF2.out.mono ?_
    rintro e w1 ⟨rfl,rfl⟩
    obtain⟨n2,hn2⟩:∃ n,ofM L x.1=n:=⟨_,rfl⟩
    rw [hn2]
    by_cases hz2:n2=0
    ·subst hz2
     have HN2:=Lib.hid hn2
     clear hn2
     go_wp2_with fail
     obtain⟨Wd,hWd⟩:∃ Wd,wr.drew=Wd:=⟨_,rfl⟩
     have hxd:Ext wr Wd:=by rw [← hWd];exact (Ext.refl wr).drew
     have d0:=hxd.cell e0
     have HF3:=Lib.hid (HOF.out x.1 Wd (HX.out.trans hxd))
     have HP:=Lib.hid (zpk (x.1,n1) (za5 (HO.out.ext hxd)) (by omega))
     have HXD:=Lib.hid (HX.out.trans hxd)
     refine wp_region_still_tail 14 (by kernel_rfl) (by kernel_rfl) ?_
     simp only [List.take_succ_cons,List.take_zero,List.drop_succ_cons,List.drop_zero]
     change wpStill _ _ wr.drew (fun a'=>wpList _ _ _ _ a' wr.drew) _ _
     rw [hWd]
     repeat still_step
     still_call (HF3.out.mono fun e w' h=>⟨h.1,h.2.symm⟩)
     repeat still_step
     refine wpStill_nil ?_
     rw [HN.out]
     go_wp2_with fail
     refine HP.out.mono ?_
     rintro e w4 ⟨v',A,B,rfl,hAB,hA,hB,hown4,hx4⟩
     go_wp2_with fail
     go_roundw
     case rel =>
      subst hAB
      exact⟨pre++[x],post,A++(x.1,n1) :: B,by rw [HL.out];simp,by simp,by have h:=HC.out.put (x:=x) (by rw [HN.out];exact HZ.out) HN2.out hA hB;rw [HN.out] at h;exact h,hown4.lower HXD.out.size,HXD.out.trans hx4⟩
     case measure=>simp [intOf];omega
    ·have hz':((n2:Int) == 0)=false:=by rw [beq_eq_false_iff_ne];omega
     have HN2:=Lib.hid hn2
     have HZ2:=Lib.hid hz2
     clear hn2 hz2
     go_wp2_with fail
     go_roundw
     case rel=>exact⟨pre++[x],post,L,by rw [HL.out];simp,by simp,HC.out.skip (.inr (by rw [HN2.out];exact HZ2.out)),HO.out,HX.out⟩
     case measure=>simp [intOf];omega
  | nil =>
   rw [List.append_nil] at hl
   subst hl
   have he:=hC.done
   obtain⟨C,cc,rfl,-,-⟩:=hown.form
   go_wp2_with fail
   go_ret
   exact⟨_,rfl,he ▸ hown,hx⟩
end
section
open Go.RowKit
theorem znx {a b:List Mark}:zar a b=true↔∀ m ∈ za8 b,m.2≤ofM a m.1:=by
 rw [coversM_iff]
 constructor
 ·intro h m hm
  have:=h m.1
  rw [← zc1 b,(zb8 b).1.of hm ((zb8 b).2 m hm).1] at this
  exact this
 ·intro h s
  rw [← zc1 b]
  exact ofM_le.2 fun m hm hs _=>hs ▸ h m hm
theorem zfl {S S':Nat→Prop} {va vb:Value} {a b:List Mark} {w:World} (ha:Sl markT w S' va a) (hb:Sl markT w S vb b) (hl0:b.length≤1000000) :
  Calls Tryz.prog 27 #[va,vb] w fun e w'=>e = .returned (.bool (zar a b))∧Ext w w':=by
 have HCL:=Lib.hid (zmw hb hl0)
 have htl:=zc9 b
 have HCV:=Lib.hid (@znx a b)
 have ha':=ha
 obtain⟨P0,c,rfl,h1,h2⟩:=hb.form
 obtain⟨Q0,d,rfl,h3,h4⟩:=ha.form
 have HOF:=Lib.hid (fun (s:Str) (wr:World) (h:Ext w wr)=>zfi s (ha'.ext (by decide) h))
 clear ha ha' hb
 go_enter Tryz.func27,Tryz.ntmps27
 go_wp2_with fail
 refine HCL.out.mono ?_
 rintro e W ⟨v',rfl,hown0,hx0⟩
 generalize za8 b=t at *
 have hsl:=za5 hown0
 obtain⟨P,c',rfl,k1,k2⟩:=hown0.form
 have HAT:=Lib.hid (fun (pre post:List Mark) (x:Mark) (wr:World) (h:Ext W wr) (hl:t=pre++x :: post)=>zcc hsl h hl)
 have HX0:=Lib.hid hx0
 clear hown0 hsl hx0 HCL
 go_wp2_with fail
 go_loopw [6] (fun i wr=>∃ pre post,t=pre++post∧i=I pre.length∧(∀ m ∈ pre,m.2≤ofM a m.1)∧Ext W wr) (fun i _=>t.length - (intOf i).toNat)
 case atStart=>exact⟨[],t,rfl,rfl,by simp,Ext.refl _⟩
 case round =>
  obtain⟨pre,post,hl,rfl,hall,hx⟩:=hrel
  cases post with
  | cons x post =>
   obtain⟨b,o,rfl,e0,e1⟩:=HAT.out pre post x wr hx hl
   have hlt:pre.length < t.length:=by rw [hl];simp
   have HL:=Lib.hid hl
   have HX:=Lib.hid hx
   have HA:=Lib.hid hall
   clear hl hx hall
   go_wp2_with fail
   obtain⟨Wd,hWd⟩:∃ Wd,wr.drew=Wd:=⟨_,rfl⟩
   have hxd:Ext wr Wd:=by rw [← hWd];exact (Ext.refl wr).drew
   have d0:=hxd.cell e0
   have d1:=hxd.cell e1
   have HXD:=Lib.hid (HX.out.trans hxd)
   have HF3:=Lib.hid (HOF.out x.1 Wd (HX0.out.trans (HX.out.trans hxd)))
   refine wp_region_still_tail 12 (by kernel_rfl) (by kernel_rfl) ?_
   simp only [List.take_succ_cons,List.take_zero,List.drop_succ_cons,List.drop_zero]
   change wpStill _ _ wr.drew (fun a'=>wpList _ _ _ _ a' wr.drew) _ _
   rw [hWd]
   repeat still_step
   still_call (HF3.out.mono fun e w' h=>⟨h.1,h.2.symm⟩)
   repeat still_step
   refine wpStill_nil ?_
   obtain⟨n,hn⟩:∃ n,ofM a x.1=n:=⟨_,rfl⟩
   rw [hn]
   have HN:=Lib.hid hn
   clear hn
   by_cases hc:n < x.2
   ·have HC:=Lib.hid hc
    go_wp2_with fail
    go_ret
    refine ⟨?_,HX0.out.trans HXD.out⟩
    have:zar a _=false:=Bool.eq_false_iff.2 fun h=>absurd (HCV.out.1 h x (by rw [HL.out];simp)) (by rw [HN.out];exact Nat.not_le.2 HC.out)
    rw [this]
    rfl
   ·have HC:=Lib.hid (Nat.not_lt.1 hc)
    go_wp2_with fail
    go_roundw
    case rel=>exact⟨pre++[x],post,by rw [HL.out];simp,by simp,by intro m hm;rcases List.mem_append.1 hm with h | h;exact HA.out m h;simp at h;subst h;rw [HN.out];exact HC.out,HXD.out⟩
    case measure=>simp [intOf];omega
  | nil =>
   rw [List.append_nil] at hl
   subst hl
   go_wp2_with fail
   go_ret
   exact⟨by rw [HCV.out.2 hall];rfl,HX0.out.trans hx⟩
end
end Go.Proofs.YtdikcgmdmcfpfaaGreat
