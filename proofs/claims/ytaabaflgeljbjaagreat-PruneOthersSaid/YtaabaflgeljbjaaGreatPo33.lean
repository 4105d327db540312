/- Contracts and plain laws. -/
import Derived.Test.YtaabaflgeljbjaaGreatPo05
import Derived.Test.YtaabaflgeljbjaaGreatPo19
import Derived.StillTail
import Derived.StillTailTactics
set_option linter.unusedVariables false
set_option linter.unusedSimpArgs false
set_option maxRecDepth 100000
set_option maxHeartbeats 40000000
namespace Go.Proofs.YtaabaflgeljbjaaGreat
section
open Go.RowKit
theorem zvk (A B:List Mark) (m:Mark) (h0:m.1 ≠ []) (hz:ofM (A++B) m.1=0) (s:Str):ofM (A++m :: B) s=if s=m.1 then m.2 else ofM (A++B) s:=by
 have e:ofM (A++m :: B) s=max (ofM (A++B) s) (ofM [m] s):=by rw [show A++m :: B=A++[m]++B by simp,zio,zio,zio];omega
 rw [e,show m=(m.1,m.2) from rfl,zrg]
 by_cases hs:s=m.1
 ·subst hs;rw [hz];simp [h0]
 ·simp [hs]
theorem zs9 {A B:List Mark} {m:Mark} (hg:GoodM (A++B)) (h0:m.1 ≠ []) (h1:1<=m.2) (hz:ofM (A++B) m.1=0) (hA:∀ x ∈ A,ltS m.1 x.1=false) (hB:∀ b r,B=b :: r->ltS m.1 b.1=true):GoodM (A++m :: B):=by
 have hne:∀ x ∈ A++B,x.1 ≠ m.1:=fun x hx e=>by have h:=zfn hx (hg.2 x hx).1;rw [e,hz] at h;have:=(hg.2 x hx).2;omega
 obtain⟨hsA,hsB,hAB⟩:=List.pairwise_append.1 hg.1;refine ⟨List.pairwise_append.2 ⟨hsA,List.pairwise_cons.2 ⟨fun b hb=>?_,hsB⟩,fun x hx y hy=>?_⟩,fun x hx=>?_⟩
 ·cases B with
  | nil=>cases hb
  | cons y r =>
   have h:=hB y r rfl;rcases List.mem_cons.1 hb with rfl | hb
   ·exact h
   ·exact zaw h ((List.pairwise_cons.1 hsB).1 b hb)
 ·rcases List.mem_cons.1 hy with rfl | hy
  ·rcases zb4 x.1 y.1 with h | h | h
   ·exact h
   ·exact absurd h (hne x (List.mem_append_left _ hx))
   ·rw [hA x hx] at h;cases h
  ·exact hAB x hx y hy
 ·rcases List.mem_append.1 hx with hx | hx
  ·exact hg.2 x (List.mem_append_left _ hx)
  ·rcases List.mem_cons.1 hx with rfl | hx
   ·exact⟨h0,h1⟩
   ·exact hg.2 x (List.mem_append_right _ hx)
def CleanOf (l pre L:List Mark):Prop:=GoodM L/\L.length<=pre.length/\∀ s,ofM L s=if ∃ m ∈ pre,m.1=s then ofM l s else 0
theorem zqt (l:List Mark):CleanOf l [] []:=⟨zun,Nat.le_refl _,fun s=>by simp [zmg]⟩
theorem CleanOf.done {l L:List Mark} (h:CleanOf l l L):L=za8 l:=h.1.ext (zdr l) fun s=>by
 rw [h.2.2 s,zet]
 by_cases e:∃ m ∈ l,m.1=s
 ·rw [if_pos e]
 ·rw [if_neg e];exact (ze9 fun m hm hs=>e ⟨m,hm,hs⟩).symm
theorem CleanOf.skip {l pre L:List Mark} {x:Mark} (h:CleanOf l pre L) (hx:ofM l x.1=0 ∨ ofM L x.1 ≠ 0):CleanOf l (pre++[x]) L:=by
 refine ⟨h.1,by have:=h.2.1;simp;omega,fun s=>?_⟩;rw [h.2.2 s]
 by_cases e:∃ m ∈ pre,m.1=s
 ·obtain⟨m,hm,hs⟩:=e;rw [if_pos ⟨m,hm,hs⟩,if_pos ⟨m,List.mem_append_left _ hm,hs⟩]
 ·rw [if_neg e]
  by_cases hs:x.1=s
  ·rw [if_pos ⟨x,by simp,hs⟩];rcases hx with hx | hx
   ·rw [<- hs,hx]
   ·rw [h.2.2,hs,if_neg e] at hx;exact absurd rfl hx
  ·rw [if_neg];rintro⟨m,hm,hms⟩;rcases List.mem_append.1 hm with hm | hm
   ·exact e ⟨m,hm,hms⟩
   ·simp at hm;subst hm;exact hs hms
theorem CleanOf.put {l pre A B:List Mark} {x:Mark} (h:CleanOf l pre (A++B)) (hx:ofM l x.1 ≠ 0) (hz:ofM (A++B) x.1=0) (hA:∀ y ∈ A,ltS x.1 y.1=false) (hB:∀ b r,B=b :: r->ltS x.1 b.1=true):CleanOf l (pre++[x]) (A++(x.1,ofM l x.1) :: B):=by
 have h0:x.1 ≠ []:=fun e=>hx (by rw [e,zho])
 refine ⟨zs9 h.1 h0 (by simp only;omega) hz hA hB,by have:=h.2.1;simp at this ⊢;omega,fun s=>?_⟩;rw [zvk A B (x.1,ofM l x.1) h0 hz s]
 by_cases hs:s=x.1
 ·rw [if_pos hs,if_pos ⟨x,by simp,hs.symm⟩,hs]
 ·rw [if_neg hs,h.2.2 s]
  by_cases e:∃ m ∈ pre,m.1=s
  ·obtain⟨m,hm,hms⟩:=e;rw [if_pos ⟨m,hm,hms⟩,if_pos ⟨m,List.mem_append_left _ hm,hms⟩]
  ·rw [if_neg e,if_neg];rintro⟨m,hm,hms⟩;rcases List.mem_append.1 hm with hm | hm
   ·exact e ⟨m,hm,hms⟩
   ·simp at hm;subst hm;exact hs hms.symm
theorem zpb {S:Nat->Prop} {v:Value} {l:List Mark} {w:World} (hv:Sl zap w S v l) (hl0:l.length<=1000000) :
  Calls Tryz.prog 47 #[v] w fun e w'=>∃ v',e=.returned v'/\Own w' w.heap.size 97 2 v' (za8 l).length ((za8 l).flatMap zae)/\Ext w w':=by
 have hv':=hv;obtain⟨P0,c,rfl,h1,h2⟩:=hv.form;have HAT:=zH (fun (pre post:List Mark) (x:Mark) (wr:World) (h:Ext w wr) (hl:l=pre++x :: post)=>zdy hv' h hl);have HOF:=zH (fun (s:Str) (wr:World) (h:Ext w wr)=>znj s (hv'.ext (by decide) h));clear hv hv';go_enter Tryz.func47,Tryz.ntmps47;go_wp2_with fail
 go_loopw [3,4] (fun o i wr=>∃ pre post L,l=pre++post/\i=I pre.length/\CleanOf l pre L/\Own wr w.heap.size 97 2 o L.length (L.flatMap zae)/\Ext w wr) (fun _ i _=>l.length - (intOf i).toNat)
 case atStart=>exact⟨[],l,[],rfl,rfl,zqt l,Own.nil _ _ _ _ _,Ext.refl _⟩
 case round =>
  obtain⟨pre,post,L,hl,rfl,hC,hown,hx⟩:=hrel
  cases post with
  | cons x post =>
   obtain⟨b,o,rfl,e0,e1⟩:=HAT.out pre post x wr hx hl;have hlt:pre.length < l.length:=(by rw [hl];simp);have hLl:=hC.2.1;have HL:=zH hl;have HX:=zH hx;have HC:=zH hC;have HO:=zH hown;have hn3:=hx.size;have HF1:=zH (HOF.out x.1 wr hx);have HF2:=zH (znj x.1 (zay hown));obtain⟨C,cc,rfl,-,-⟩:=hown.form;clear hl hx hC hown;go_wp2_with fail;refine HF1.out.mono ?_;rintro e w1 ⟨rfl,rfl⟩;obtain⟨n1,hn1⟩:∃ n,ofM l x.1=n:=⟨_,rfl⟩
   rw [hn1]
   by_cases hz:n1=0
   ·subst hz;have HN:=zH hn1;clear hn1;go_wp2_with fail;go_roundw
    case rel=>exact⟨pre++[x],post,L,by rw [HL.out];simp,by simp,HC.out.skip (.inl HN.out),HO.out,HX.out⟩
    case measure=>simp [intOf];omega
   ·have hz':0 < n1:=(by omega);have HN:=zH hn1;have HZ:=zH hz;clear hn1 hz;go_wp2_with fail;refine HF2.out.mono ?_;rintro e w1 ⟨rfl,rfl⟩;obtain⟨n2,hn2⟩:∃ n,ofM L x.1=n:=⟨_,rfl⟩
    rw [hn2]
    by_cases hz2:n2=0
    ·subst hz2;have HN2:=zH hn2;clear hn2;go_wp2_with fail;obtain⟨Wd,hWd⟩:∃ Wd,wr.drew=Wd:=⟨_,rfl⟩
     have hxd:Ext wr Wd:=(by rw [<- hWd];exact (Ext.refl wr).drew);have d0:=hxd.cell e0;have HF3:=zH (HOF.out x.1 Wd (HX.out.trans hxd));have HP:=zH (zs8 (x.1,n1) (zay (HO.out.ext hxd)) (by omega));have HXD:=zH (HX.out.trans hxd);refine wp_region_still_tail 14 (by kernel_rfl) (by kernel_rfl) ?_;simp only [List.take_succ_cons,List.take_zero,List.drop_succ_cons,List.drop_zero];change wpStill _ _ wr.drew (fun a'=>wpList _ _ _ _ a' wr.drew) _ _;rw [hWd]
     repeat still_step
     still_call (HF3.out.mono fun e w' h=>⟨h.1,h.2.symm⟩)
     repeat still_step
     refine wpStill_nil ?_;rw [HN.out];go_wp2_with fail;refine HP.out.mono ?_;rintro e w4 ⟨v',A,B,rfl,hAB,hA,hB,hown4,hx4⟩;go_wp2_with fail;go_roundw
     case rel=>subst hAB;exact⟨pre++[x],post,A++(x.1,n1) :: B,by rw [HL.out];simp,by simp,by have h:=HC.out.put (x:=x) (by rw [HN.out];exact HZ.out) HN2.out hA hB;rw [HN.out] at h;exact h,hown4.lower HXD.out.size,HXD.out.trans hx4⟩
     case measure=>simp [intOf];omega
    ·have hz':((n2:Int) == 0)=false:=(by rw [beq_eq_false_iff_ne];omega);have HN2:=zH hn2;have HZ2:=zH hz2;clear hn2 hz2;go_wp2_with fail;go_roundw
     case rel=>exact⟨pre++[x],post,L,by rw [HL.out];simp,by simp,HC.out.skip (.inr (by rw [HN2.out];exact HZ2.out)),HO.out,HX.out⟩
     case measure=>simp [intOf];omega
  | nil=>rw [List.append_nil] at hl;subst hl;have he:=hC.done;obtain⟨C,cc,rfl,-,-⟩:=hown.form;go_wp2_with fail;go_ret;exact⟨_,rfl,he ▸ hown,hx⟩
end
section
open Go.RowKit
theorem zqu {S:Nat->Prop} {v:Value} {l:List Mark} {w:World} (s:Str) (hv:Sl zap w S v l) (hl0:l.length<=1000000) :
  Calls Tryz.prog 16 #[v,St s] w fun e w'=>∃ v',e=.returned v'/\Own w' w.heap.size 97 2 v' (zar l s).length ((zar l s).flatMap zae)/\Ext w w':=by
 have HCL:=zH (zpb hv hl0);have htl:=zd1 l;obtain⟨P0,c,rfl,h1,h2⟩:=hv.form;have HD:=zH (show zar l s=(za8 l).filter (fun m=>m.1 != s) from rfl);clear hv;go_enter Tryz.func16,Tryz.ntmps16;go_wp2_with fail;refine HCL.out.mono ?_;rintro e W ⟨v',rfl,hown0,hx0⟩;generalize za8 l=t at *;have hsl:=zay hown0;obtain⟨P,c',rfl,k1,k2⟩:=hown0.form;have HAT:=zH (fun (pre post:List Mark) (x:Mark) (wr:World) (h:Ext W wr) (hl:t=pre++x :: post)=>zdy hsl h hl);have HX0:=zH hx0;have hn0:=hx0.size;clear hown0 hsl hx0 HCL;go_wp2_with fail
 go_loopw [5,7] (fun o i wr=>∃ pre post,t=pre++post/\i=I pre.length/\Own wr W.heap.size 97 2 o (pre.filter (fun m=>m.1 != s)).length ((pre.filter (fun m=>m.1 != s)).flatMap zae)/\Ext W wr) (fun _ i _=>t.length - (intOf i).toNat)
 case atStart=>exact⟨[],t,rfl,rfl,Own.nil _ _ _ _ _,Ext.refl _⟩
 case round =>
  obtain⟨pre,post,hl,rfl,hown,hx⟩:=hrel
  cases post with
  | cons x post =>
   obtain⟨b,o,rfl,e0,e1⟩:=HAT.out pre post x wr hx hl;have hlt:pre.length < t.length:=(by rw [hl];simp);have hpf:=List.length_filter_le (fun m:Mark=>m.1 != s) pre;have HL:=zH hl;have HX:=zH hx;have hn3:=hx.size;generalize hpl:pre.filter (fun m:Mark=>m.1 != s)=pl at *;have HPL:=zH hpl;have HO:=zH hown;obtain⟨C,cc,rfl,-,-⟩:=hown.form;clear hl hx hpl hown
   by_cases hc:x.1=s
   ·have HF:=zH (show (pre++[x]).filter (fun m:Mark=>m.1 != s)=pl by rw [List.filter_append,HPL.out];simp [hc]);rw [hc] at e0;clear hc;go_wp2_with fail;go_roundw
    case rel=>exact⟨pre++[x],post,by rw [HL.out];simp,by simp,by rw [HF.out];exact HO.out,HX.out⟩
    case measure=>simp [intOf];omega
   ·have HF:=zH (show (pre++[x]).filter (fun m:Mark=>m.1 != s)=pl++[x] by rw [List.filter_append,HPL.out];simp [hc]);have hc':(x.1 == s)=false:=(by simpa using hc);clear hc
    go_wp2_with (at_builtin;refine zag rfl (.tmp 23) (.tmp 28) 22 rfl W.heap.size 97 2 24 (.agg #[St [],U 0]) Tryz.underlying22 zcm rfl (by omega) _ pl.length (pl.flatMap zae) rfl (HO.out.alloc _) _ 1 1 [St x.1,U x.2] rfl (Src.new rfl (by intro u hu;simp at hu;rcases hu with rfl | rfl <;> rfl)) (by omega) (by omega) (by simp;omega) ?_;intro v2 w2 hown2 hgr2)
    go_roundw
    case rel=>exact⟨pre++[x],post,by rw [HL.out];simp,by simp,by rw [HF.out];simpa [zae] using hown2,Ext.grewOwn (HX.out.alloc _) hgr2 (HO.out.alloc _) (Nat.le_refl _)⟩
    case measure=>simp [intOf];omega
  | nil=>rw [List.append_nil] at hl;subst hl;obtain⟨C,cc,rfl,-,-⟩:=hown.form;go_wp2_with fail;go_ret;exact⟨_,rfl,by rw [HD.out];exact hown.lower hn0,HX0.out.trans hx⟩
end
section
open Go.RowKit Go.Shelf
abbrev intT:Shape Int:=flat 1 (fun x:Int=>[I x]) (fun _=>rfl) (fun _ u hu=>by simp at hu;rcases hu with rfl;rfl)
theorem zyv {w wr:World} {S:Nat->Prop} {A:Option Addr} {n c:Nat} {l pre post:List Int} {m:Int} (h:Sl intT w S (.slice A n c) l) (hb:Ext w wr) (hl:l=pre++m :: post) :
  ∃ b o,A=some ⟨b,o,none⟩/\wr.cell? ⟨b,o+pre.length,none⟩=some (I m):=by
 obtain⟨b,o,vs,c',hv,hS,rfl,hc⟩:=h.at_ hl;injection hv with e1 e2 e3
 subst e1;have h0:w.cell? ⟨b,o+pre.length * 1+0,none⟩=some (I m):=hc 0 _ rfl;rw [Nat.mul_one,Nat.add_zero] at h0;exact⟨b,o,rfl,hb.cell h0⟩
theorem zpc (t:Str) (n:Nat):(⟨t.toArray⟩:ByteArray).extract n t.length=⟨(t.drop n).toArray⟩:=by
 apply ByteArray.ext
 apply Array.ext'
 simp [ByteArray.extract,ByteArray.copySlice];exact List.take_of_length_le (by simp)
def zvl:Value->Nat
 | .string b=>b.size
 | _=>0
end
end Go.Proofs.YtaabaflgeljbjaaGreat
