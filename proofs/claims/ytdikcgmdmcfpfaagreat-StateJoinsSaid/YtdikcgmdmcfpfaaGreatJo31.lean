/- Contracts and plain laws. -/
import Derived.Test.YtdikcgmdmcfpfaaGreatJo02
import Derived.Test.YtdikcgmdmcfpfaaGreatJo08
import Derived.StillTail
import Derived.StillTailTactics
set_option linter.unusedVariables false
set_option linter.unusedSimpArgs false
set_option maxRecDepth 100000
set_option maxHeartbeats 40000000
namespace Go.Proofs.YtdikcgmdmcfpfaaGreat
section
open Go.RowKit
theorem zw1 (A B:List Mark) (m:Mark) (h0:m.1 ≠ []) (hz:ofM (A++B) m.1=0) (s:Str):ofM (A++m :: B) s=if s=m.1 then m.2 else ofM (A++B) s:=by
 have e:ofM (A++m :: B) s=max (ofM (A++B) s) (ofM [m] s):=by rw [show A++m :: B=A++[m]++B by simp,zhd,zhd,zhd];omega
 rw [e,show m=(m.1,m.2) from rfl,zs5]
 by_cases hs:s=m.1
 ·subst hs;rw [hz];simp [h0]
 ·simp [hs]
theorem zug {A B:List Mark} {m:Mark} (hg:GoodM (A++B)) (h0:m.1 ≠ []) (h1:1<=m.2) (hz:ofM (A++B) m.1=0) (hA:∀ x ∈ A,ltS m.1 x.1=false) (hB:∀ b r,B=b :: r->ltS m.1 b.1=true):GoodM (A++m :: B):=by
 have hne:∀ x ∈ A++B,x.1 ≠ m.1:=fun x hx e=>by have h:=zf0 hx (hg.2 x hx).1;rw [e,hz] at h;have:=(hg.2 x hx).2;omega
 obtain⟨hsA,hsB,hAB⟩:=List.pairwise_append.1 hg.1;refine ⟨List.pairwise_append.2 ⟨hsA,List.pairwise_cons.2 ⟨fun b hb=>?_,hsB⟩,fun x hx y hy=>?_⟩,fun x hx=>?_⟩
 ·cases B with
  | nil=>cases hb
  | cons y r =>
   have h:=hB y r rfl;rcases List.mem_cons.1 hb with rfl | hb
   ·exact h
   ·exact zap h ((List.pairwise_cons.1 hsB).1 b hb)
 ·rcases List.mem_cons.1 hy with rfl | hy
  ·rcases zb6 x.1 y.1 with h | h | h
   ·exact h
   ·exact absurd h (hne x (List.mem_append_left _ hx))
   ·rw [hA x hx] at h;cases h
  ·exact hAB x hx y hy
 ·rcases List.mem_append.1 hx with hx | hx
  ·exact hg.2 x (List.mem_append_left _ hx)
  ·rcases List.mem_cons.1 hx with rfl | hx
   ·exact⟨h0,h1⟩
   ·exact hg.2 x (List.mem_append_right _ hx)
def CleanOf (l pre L:List Mark):Prop:=GoodM L/\L.length<=pre.length/\∀ s,ofM L s=if ∃ m ∈ pre,m.1=s then ofM l s else 0
theorem zsh (l:List Mark):CleanOf l [] []:=⟨zkj,Nat.le_refl _,fun s=>by simp [zi9]⟩
theorem CleanOf.done {l L:List Mark} (h:CleanOf l l L):L=za0 l:=h.1.ext (zcd l) fun s=>by
 rw [h.2.2 s,zc8]
 by_cases e:∃ m ∈ l,m.1=s
 ·rw [if_pos e]
 ·rw [if_neg e];exact (zew fun m hm hs=>e ⟨m,hm,hs⟩).symm
theorem CleanOf.skip {l pre L:List Mark} {x:Mark} (h:CleanOf l pre L) (hx:ofM l x.1=0 ∨ ofM L x.1 ≠ 0):CleanOf l (pre++[x]) L:=by
 refine ⟨h.1,by have:=h.2.1;simp;omega,fun s=>?_⟩;rw [h.2.2 s]
 by_cases e:∃ m ∈ pre,m.1=s
 ·obtain⟨m,hm,hs⟩:=e;rw [if_pos ⟨m,hm,hs⟩,if_pos ⟨m,List.mem_append_left _ hm,hs⟩]
 ·rw [if_neg e]
  by_cases hs:x.1=s
  ·rw [if_pos ⟨x,by simp,hs⟩];rcases hx with hx | hx
   ·rw [<- hs,hx]
   ·rw [h.2.2,hs,if_neg e] at hx;exact absurd rfl hx
  ·rw [if_neg];rintro⟨m,hm,hms⟩;rcases List.mem_append.1 hm with hm | hm
   ·exact e ⟨m,hm,hms⟩
   ·simp at hm;subst hm;exact hs hms
theorem CleanOf.put {l pre A B:List Mark} {x:Mark} (h:CleanOf l pre (A++B)) (hx:ofM l x.1 ≠ 0) (hz:ofM (A++B) x.1=0) (hA:∀ y ∈ A,ltS x.1 y.1=false) (hB:∀ b r,B=b :: r->ltS x.1 b.1=true):CleanOf l (pre++[x]) (A++(x.1,ofM l x.1) :: B):=by
 have h0:x.1 ≠ []:=fun e=>hx (by rw [e,zfr])
 refine ⟨zug h.1 h0 (by simp only;omega) hz hA hB,by have:=h.2.1;simp at this ⊢;omega,fun s=>?_⟩;rw [zw1 A B (x.1,ofM l x.1) h0 hz s]
 by_cases hs:s=x.1
 ·rw [if_pos hs,if_pos ⟨x,by simp,hs.symm⟩,hs]
 ·rw [if_neg hs,h.2.2 s]
  by_cases e:∃ m ∈ pre,m.1=s
  ·obtain⟨m,hm,hms⟩:=e;rw [if_pos ⟨m,hm,hms⟩,if_pos ⟨m,List.mem_append_left _ hm,hms⟩]
  ·rw [if_neg e,if_neg];rintro⟨m,hm,hms⟩;rcases List.mem_append.1 hm with hm | hm
   ·exact e ⟨m,hm,hms⟩
   ·simp at hm;subst hm;exact hs hms.symm
theorem zgd {S:Nat->Prop} {v:Value} {l:List Mark} {w:World} (hv:Sl markT w S v l) (hl0:l.length<=1000000) :
  Calls Tryz.prog 66 #[v] w fun e w'=>∃ v',e=.returned v'/\Own w' w.heap.size 25 2 v' (za0 l).length ((za0 l).flatMap zag)/\Ext w w':=by
 have hv':=hv;obtain⟨P0,c,rfl,h1,h2⟩:=hv.form;have HAT:=zH (fun (pre post:List Mark) (x:Mark) (wr:World) (h:Ext w wr) (hl:l=pre++x :: post)=>zct hv' h hl);have HOF:=zH (fun (s:Str) (wr:World) (h:Ext w wr)=>zd9 s (hv'.ext (by decide) h));clear hv hv';go_enter Tryz.func66,Tryz.ntmps66;go_wp2_with fail
 go_loopw [3,4] (fun o i wr=>∃ pre post L,l=pre++post/\i=I pre.length/\CleanOf l pre L/\Own wr w.heap.size 25 2 o L.length (L.flatMap zag)/\Ext w wr) (fun _ i _=>l.length - (intOf i).toNat)
 case atStart=>exact⟨[],l,[],rfl,rfl,zsh l,Own.nil _ _ _ _ _,Ext.refl _⟩
 case round =>
  obtain⟨pre,post,L,hl,rfl,hC,hown,hx⟩:=hrel
  cases post with
  | cons x post =>
   obtain⟨b,o,rfl,e0,e1⟩:=HAT.out pre post x wr hx hl;have hlt:pre.length < l.length:=(by rw [hl];simp);have hLl:=hC.2.1;have HL:=zH hl;have HX:=zH hx;have HC:=zH hC;have HO:=zH hown;have hn3:=hx.size;have HF1:=zH (HOF.out x.1 wr hx);have HF2:=zH (zd9 x.1 (zax hown));obtain⟨C,cc,rfl,-,-⟩:=hown.form;clear hl hx hC hown;go_wp2_with fail;refine HF1.out.mono ?_;rintro e w1 ⟨rfl,rfl⟩;obtain⟨n1,hn1⟩:∃ n,ofM l x.1=n:=⟨_,rfl⟩
   rw [hn1]
   by_cases hz:n1=0
   ·subst hz;have HN:=zH hn1;clear hn1;go_wp2_with fail;go_roundw
    case rel=>exact⟨pre++[x],post,L,by rw [HL.out];simp,by simp,HC.out.skip (.inl HN.out),HO.out,HX.out⟩
    case measure=>simp [intOf];omega
   ·have hz':0 < n1:=(by omega);have HN:=zH hn1;have HZ:=zH hz;clear hn1 hz;go_wp2_with fail;refine HF2.out.mono ?_;rintro e w1 ⟨rfl,rfl⟩;obtain⟨n2,hn2⟩:∃ n,ofM L x.1=n:=⟨_,rfl⟩
    rw [hn2]
    by_cases hz2:n2=0
    ·subst hz2;have HN2:=zH hn2;clear hn2;go_wp2_with fail;obtain⟨Wd,hWd⟩:∃ Wd,wr.drew=Wd:=⟨_,rfl⟩
     have hxd:Ext wr Wd:=(by rw [<- hWd];exact (Ext.refl wr).drew);have d0:=hxd.cell e0;have HF3:=zH (HOF.out x.1 Wd (HX.out.trans hxd));have HP:=zH (zuf (x.1,n1) (zax (HO.out.ext hxd)) (by omega));have HXD:=zH (HX.out.trans hxd);refine wp_region_still_tail 14 (by kernel_rfl) (by kernel_rfl) ?_;simp only [List.take_succ_cons,List.take_zero,List.drop_succ_cons,List.drop_zero];change wpStill _ _ wr.drew (fun a'=>wpList _ _ _ _ a' wr.drew) _ _;rw [hWd]
     repeat still_step
     still_call (HF3.out.mono fun e w' h=>⟨h.1,h.2.symm⟩)
     repeat still_step
     refine wpStill_nil ?_;rw [HN.out];go_wp2_with fail;refine HP.out.mono ?_;rintro e w4 ⟨v',A,B,rfl,hAB,hA,hB,hown4,hx4⟩;go_wp2_with fail;go_roundw
     case rel=>subst hAB;exact⟨pre++[x],post,A++(x.1,n1) :: B,by rw [HL.out];simp,by simp,by have h:=HC.out.put (x:=x) (by rw [HN.out];exact HZ.out) HN2.out hA hB;rw [HN.out] at h;exact h,hown4.lower HXD.out.size,HXD.out.trans hx4⟩
     case measure=>simp [intOf];omega
    ·have hz':((n2:Int) == 0)=false:=(by rw [beq_eq_false_iff_ne];omega);have HN2:=zH hn2;have HZ2:=zH hz2;clear hn2 hz2;go_wp2_with fail;go_roundw
     case rel=>exact⟨pre++[x],post,L,by rw [HL.out];simp,by simp,HC.out.skip (.inr (by rw [HN2.out];exact HZ2.out)),HO.out,HX.out⟩
     case measure=>simp [intOf];omega
  | nil=>rw [List.append_nil] at hl;subst hl;have he:=hC.done;obtain⟨C,cc,rfl,-,-⟩:=hown.form;go_wp2_with fail;go_ret;exact⟨_,rfl,he ▸ hown,hx⟩
end
section
open Go.RowKit
theorem zsi {a b:List Mark}:za3 a b=true↔∀ m ∈ za0 b,m.2<=ofM a m.1:=by
 rw [zgu]
 constructor
 ·intro h m hm;have:=h m.1;rw [<- zc8 b,(zcd b).1.of hm ((zcd b).2 m hm).1] at this;exact this
 ·intro h s;rw [<- zc8 b];exact ofM_le.2 fun m hm hs _=>hs ▸ h m hm
theorem zj7 {S S':Nat->Prop} {va vb:Value} {a b:List Mark} {w:World} (ha:Sl markT w S' va a) (hb:Sl markT w S vb b) (hl0:b.length<=1000000) :
  Calls Tryz.prog 27 #[va,vb] w fun e w'=>e=.returned (.bool (za3 a b))/\Ext w w':=by
 have HCL:=zH (zgd hb hl0);have htl:=zd8 b;have HCV:=zH (@zsi a b);have ha':=ha;obtain⟨P0,c,rfl,h1,h2⟩:=hb.form;obtain⟨Q0,d,rfl,h3,h4⟩:=ha.form;have HOF:=zH (fun (s:Str) (wr:World) (h:Ext w wr)=>zd9 s (ha'.ext (by decide) h));clear ha ha' hb;go_enter Tryz.func27,Tryz.ntmps27;go_wp2_with fail;refine HCL.out.mono ?_;rintro e W ⟨v',rfl,hown0,hx0⟩;generalize za0 b=t at *;have hsl:=zax hown0;obtain⟨P,c',rfl,k1,k2⟩:=hown0.form;have HAT:=zH (fun (pre post:List Mark) (x:Mark) (wr:World) (h:Ext W wr) (hl:t=pre++x :: post)=>zct hsl h hl);have HX0:=zH hx0;clear hown0 hsl hx0 HCL;go_wp2_with fail
 go_loopw [6] (fun i wr=>∃ pre post,t=pre++post/\i=I pre.length/\(∀ m ∈ pre,m.2<=ofM a m.1)/\Ext W wr) (fun i _=>t.length - (intOf i).toNat)
 case atStart=>exact⟨[],t,rfl,rfl,by simp,Ext.refl _⟩
 case round =>
  obtain⟨pre,post,hl,rfl,hall,hx⟩:=hrel
  cases post with
  | cons x post =>
   obtain⟨b,o,rfl,e0,e1⟩:=HAT.out pre post x wr hx hl;have hlt:pre.length < t.length:=(by rw [hl];simp);have HL:=zH hl;have HX:=zH hx;have HA:=zH hall;clear hl hx hall;go_wp2_with fail;obtain⟨Wd,hWd⟩:∃ Wd,wr.drew=Wd:=⟨_,rfl⟩
   have hxd:Ext wr Wd:=(by rw [<- hWd];exact (Ext.refl wr).drew);have d0:=hxd.cell e0;have d1:=hxd.cell e1;have HXD:=zH (HX.out.trans hxd);have HF3:=zH (HOF.out x.1 Wd (HX0.out.trans (HX.out.trans hxd)));refine wp_region_still_tail 12 (by kernel_rfl) (by kernel_rfl) ?_;simp only [List.take_succ_cons,List.take_zero,List.drop_succ_cons,List.drop_zero];change wpStill _ _ wr.drew (fun a'=>wpList _ _ _ _ a' wr.drew) _ _;rw [hWd]
   repeat still_step
   still_call (HF3.out.mono fun e w' h=>⟨h.1,h.2.symm⟩)
   repeat still_step
   refine wpStill_nil ?_;obtain⟨n,hn⟩:∃ n,ofM a x.1=n:=⟨_,rfl⟩
   rw [hn];have HN:=zH hn;clear hn
   by_cases hc:n < x.2
   ·have HC:=zH hc;go_wp2_with fail;go_ret;refine ⟨?_,HX0.out.trans HXD.out⟩;have:za3 a _=false:=Bool.eq_false_iff.2 fun h=>absurd (HCV.out.1 h x (by rw [HL.out];simp)) (by rw [HN.out];exact Nat.not_le.2 HC.out)
    rw [this]
    rfl
   ·have HC:=zH (Nat.not_lt.1 hc);go_wp2_with fail;go_roundw
    case rel=>exact⟨pre++[x],post,by rw [HL.out];simp,by simp,by intro m hm;rcases List.mem_append.1 hm with h | h;exact HA.out m h;simp at h;subst h;rw [HN.out];exact HC.out,HXD.out⟩
    case measure=>simp [intOf];omega
  | nil=>rw [List.append_nil] at hl;subst hl;go_wp2_with fail;go_ret;exact⟨by rw [HCV.out.2 hall];rfl,HX0.out.trans hx⟩
end
section
open Go.RowKit Go.Shelf
theorem znt {q:List Mark} {x:Mark} (h:GoodM q) (h1:x.1 ≠ []) (h2:1<=x.2) (h3:∀ r y,q=r++[y]->ltS y.1 x.1=true):GoodM (q++[x]):=by
 refine ⟨List.pairwise_append.2 ⟨h.1,List.pairwise_singleton _ _,fun a ha b hb=>?_⟩,fun m hm=>?_⟩
 ·rw [List.mem_singleton.1 hb];rcases List.eq_nil_or_concat q with rfl | ⟨r,y,rfl⟩
  ·simp at ha
  ·rw [List.concat_eq_append] at *;have:=h3 r y rfl;rcases List.mem_append.1 ha with ha | ha
   ·exact zap ((List.pairwise_append.1 h.1).2.2 a ha y (by simp)) this
   ·rw [List.mem_singleton.1 ha];exact this
 ·rcases List.mem_append.1 hm with hm | hm
  ·exact h.2 m hm
  ·rw [List.mem_singleton.1 hm];exact⟨h1,h2⟩
theorem zkz {S:Nat->Prop} {v:Value} {l:List Mark} {w:World} (hv:Sl markT w S v l) :
  Calls Tryz.prog 69 #[v] w fun e w'=>(∃ m,e=.returned (.bool m)/\(m=true->GoodM l))/\Ext w w':=by
 have hv':=hv;obtain⟨A,c,rfl,h1,h2⟩:=hv.form;have HAT:=zH (fun (pre post:List Mark) (x:Mark) (wr:World) (h:Ext w wr) (hl:l=pre++x :: post)=>zct hv' h hl);clear hv hv'
 by_cases h512:(l.length:Int) > 512
 ·go_enter Tryz.func69,Tryz.ntmps69;go_wp2_with fail;go_ret;exact⟨⟨false,rfl,by simp⟩,Ext.refl _⟩
 go_enter Tryz.func69,Tryz.ntmps69;go_wp2_with fail;clear h512
 go_loopw [3] (fun i wr=>∃ (pre post:List Mark),l=pre++post/\i=I pre.length/\GoodM pre/\Ext w wr) (fun i _=>l.length - (intOf i).toNat)
 case atStart=>exact⟨[],l,rfl,rfl,zkj,Ext.refl _⟩
 case round =>
  obtain⟨pre,post,hl,rfl,hgd,hx⟩:=hrel
  cases post with
  | cons x post =>
   obtain⟨b,o,rfl,e0,e1⟩:=HAT.out pre post x wr hx hl;have hlt:pre.length < l.length:=(by rw [hl];simp);have HL:=zH hl;have HX:=zH hx;have HG:=zH hgd;clear hgd
   by_cases g1:x.1 = []
   ·have g1b:x.1.isEmpty=true:=(by simp [g1]);clear hl hx g1;rcases List.eq_nil_or_concat pre with rfl | ⟨q,y,rfl⟩
    ·simp only [List.length_nil,Nat.zero_mul,Nat.add_zero] at e0 e1 hlt ⊢;go_wp2_with fail;go_quiet (fail);go_wp2_with fail;go_ret;exact⟨⟨false,rfl,by simp⟩,HX.out.drewN _⟩
    ·simp only [List.length_concat] at e0 e1 hlt ⊢;go_wp2_with fail;go_quiet (fail);go_wp2_with fail;go_ret;exact⟨⟨false,rfl,by simp⟩,HX.out.drewN _⟩
   ·have g1b:x.1.isEmpty=false:=(by simp [g1]);have G1:=zH g1;clear g1
    by_cases g2:(x.2:Int) < 1
    ·clear hl hx;rcases List.eq_nil_or_concat pre with rfl | ⟨q,y,rfl⟩
     ·simp only [List.length_nil,Nat.zero_mul,Nat.add_zero] at e0 e1 hlt ⊢;go_wp2_with fail;go_quiet (fail);go_wp2_with fail;go_ret;exact⟨⟨false,rfl,by simp⟩,HX.out.drewN _⟩
     ·simp only [List.length_concat] at e0 e1 hlt ⊢;go_wp2_with fail;go_quiet (fail);go_wp2_with fail;go_ret;exact⟨⟨false,rfl,by simp⟩,HX.out.drewN _⟩
    ·have g4:decide ((x.2:Int) < 1)=false:=decide_eq_false g2
     by_cases g3:(x.2:Int) > 281474976710656
     ·clear hl hx;rcases List.eq_nil_or_concat pre with rfl | ⟨q,y,rfl⟩
      ·simp only [List.length_nil,Nat.zero_mul,Nat.add_zero] at e0 e1 hlt ⊢;go_wp2_with fail;go_quiet (fail);go_wp2_with fail;go_ret;exact⟨⟨false,rfl,by simp⟩,HX.out.drewN _⟩
      ·simp only [List.length_concat] at e0 e1 hlt ⊢;go_wp2_with fail;go_quiet (fail);go_wp2_with fail;go_ret;exact⟨⟨false,rfl,by simp⟩,HX.out.drewN _⟩
     ·have G2:=zH (show 1<=x.2 by omega);have g5:decide ((281474976710656:Int) < (x.2:Int))=false:=decide_eq_false (by omega);rcases List.eq_nil_or_concat pre with rfl | ⟨q,y,rfl⟩
      ·simp only [List.length_nil,Nat.zero_mul,Nat.add_zero] at e0 e1 hlt ⊢;clear hl hx;go_wp2_with fail;go_quiet (fail);go_wp2_with fail;go_roundw
       case rel=>exact⟨[x],post,by rw [HL.out];simp,by simp <;> omega,znt HG.out G1.out G2.out (by intro r y h;simp at h),HX.out.drewN _⟩
       case measure=>simp [intOf];omega
      ·have hl2:l=q++y :: (x :: post):=(by rw [hl];simp);obtain⟨b',o',e,q0,q1⟩:=HAT.out q (x :: post) y wr hx hl2;cases e;have hlq:q.length < l.length:=(by rw [hl2];simp);simp only [List.length_concat] at e0 e1 hlt ⊢;have k0:(0:Int)<=(q.length:Int):=(by omega);have k1:((q.length:Int)) < (l.length:Int):=(by omega);have k2:((q.length:Int)+1) > 0:=(by omega);have k3:(((q.length+1:Nat):Int)) > 0:=(by omega);have k5:IntKind.i64.wrap (q.length:Int)=q.length:=(by simp [IntKind.wrap,IntKind.signed,IntKind.bits];omega);have k4:IntKind.i64.wrap ((q.length:Int)+1 - 1)=q.length:=(by rw [show (q.length:Int)+1 - 1=q.length by omega];simp [IntKind.wrap,IntKind.signed,IntKind.bits];omega);have k6:((q.length:Int)).toNat=q.length:=(by omega);clear hl hx hl2;rcases zci x.1 y.1 with ⟨p1,p2,p3,p4,p5⟩ | p1 | ⟨p1,p2,p3,p4,p5⟩
       ·skip
        go_wp2_with fail;go_quiet (fail);go_wp2_with fail;go_ret;exact⟨⟨false,rfl,by simp⟩,HX.out.drewN _⟩
       ·rw [p1] at e0 g1b;have p0:Op.bytesLess y.1 y.1=false:=zal _;clear p1;go_wp2_with fail;go_quiet (fail);go_wp2_with fail;go_ret;exact⟨⟨false,rfl,by simp⟩,HX.out.drewN _⟩
       ·have HP:=zH p2;go_wp2_with fail;go_quiet (fail);go_wp2_with fail;go_roundw
        case rel=>exact⟨q++[y]++[x],post,by rw [HL.out];simp,by simp <;> omega,znt (by simpa using HG.out) G1.out G2.out (by intro r z h;obtain⟨-,h⟩:=List.append_inj' h rfl;injection h with h;rw [<- h];exact HP.out),HX.out.drewN _⟩
        case measure=>simp [intOf];omega
  | nil=>rw [List.append_nil] at hl;subst hl;go_wp2_with fail;go_ret;exact⟨⟨true,rfl,fun _=>hgd⟩,hx⟩
end
section
open Go.RowKit Go.Shelf
theorem zlm (s:Str) (i:Nat) (h:i < s.length):∃ c:Nat,c < 256/\((⟨s.toArray⟩:ByteArray)[i]'(by simpa [ByteArray.size] using h)).toNat=c:=⟨_,UInt8.toNat_lt _,rfl⟩
theorem zsn (s:Str) (w:World):Calls Tryz.prog 218 #[St s] w fun e w'=>(∃ (x:Int) (n:Nat),e=.returned (.tuple #[I x,I n])/\n<=s.length)/\Ext w w':=by
 cases s with
 | nil =>
  go_enter Tryz.func218,Tryz.ntmps218;go_wp2_with fail
  (try simp only [Exit.inBlock,Exit.then])
  refine bodyPost_ret (v:=.tuple #[I 0,I 0]) (by simp [results,Tryz.f218,go_sem]) rfl ?_;exact⟨⟨_,0,rfl,Nat.zero_le _⟩,Ext.refl _⟩
 | cons a r =>
  have e1:(a :: r).isEmpty=false:=by simp
  have hl:0 < (a :: r).length:=by simp
  obtain⟨s,hs⟩:∃ s,a :: r=s:=⟨_,rfl⟩
  rw [hs] at e1 hl ⊢;clear hs;obtain⟨c,hc,hi⟩:=zlm s 0 hl;have hcl:(c:Int) < 256:=by omega
  by_cases c1:(c:Int) < 128
  ·go_enter Tryz.func218,Tryz.ntmps218;go_wp2_with fail
   (try simp only [Exit.inBlock,Exit.then])
   refine bodyPost_ret (v:=.tuple #[I c,I 1]) (by simp [results,Tryz.f218,go_sem]) rfl ?_;exact⟨⟨_,1,rfl,hl⟩,Ext.refl _⟩
  ·by_cases c2:(c:Int) ≥ 192
   ·by_cases c3:(c:Int) < 224
    ·have c4:¬ (c:Int) ≥ 224:=by omega
     by_cases hn:(s.length:Int) < 2
     ·go_enter Tryz.func218,Tryz.ntmps218;go_wp2_with fail
      (try simp only [Exit.inBlock,Exit.then])
      refine bodyPost_ret (v:=.tuple #[I 0,I 0]) (by simp [results,Tryz.f218,go_sem]) rfl ?_;exact⟨⟨_,0,rfl,Nat.zero_le _⟩,Ext.refl _⟩
     ·have hn2:2<=s.length:=(by omega);go_enter Tryz.func218,Tryz.ntmps218;go_wp2_with fail;clear hi
      go_loopw [6,8] (fun x i wr=>∃ (z:Int) (k:Nat),x=I z/\i=I k/\1<=k/\k<=2/\wr=w) (fun _ i _=>2 - (intOf i).toNat)
      case atStart=>exact⟨_,1,rfl,rfl,by decide,by decide,rfl⟩
      case round =>
       obtain⟨z,k,rfl,rfl,k1,k2,rfl⟩:=hrel
       by_cases hk:k < 2
       ·obtain⟨d,hd,hi⟩:=zlm s k (by omega);have hdl:(d:Int) < 256:=(by omega);have hkl:(k:Int) < 2:=by omega
        by_cases d1:(d:Int) < 128
        ·go_wp2_with fail
         (try simp only [Exit.inBlock,Exit.then])
         refine bodyPost_ret (v:=.tuple #[I 0,I 0]) (by simp [results,Tryz.f218,go_sem]) rfl ?_;exact⟨⟨_,0,rfl,Nat.zero_le _⟩,Ext.refl _⟩
        ·by_cases d2:(d:Int) ≥ 192
         ·go_wp2_with fail
          (try simp only [Exit.inBlock,Exit.then])
          refine bodyPost_ret (v:=.tuple #[I 0,I 0]) (by simp [results,Tryz.f218,go_sem]) rfl ?_;exact⟨⟨_,0,rfl,Nat.zero_le _⟩,Ext.refl _⟩
         ·go_wp2_with fail;go_roundw
          case rel=>exact⟨_,k+1,rfl,by simp <;> omega,by omega,by omega,trivial⟩
          case measure=>simp [intOf];omega
       ·obtain rfl:k=2:=by omega
        by_cases z1:z < 128
        ·skip
         go_wp2_with fail
         (try simp only [Exit.inBlock,Exit.then])
         refine bodyPost_ret (v:=.tuple #[I 0,I 0]) (by simp [results,Tryz.f218,go_sem]) rfl ?_;exact⟨⟨_,0,rfl,Nat.zero_le _⟩,Ext.refl _⟩
        ·by_cases z2:z > 1114111
         ·skip
          go_wp2_with fail
          (try simp only [Exit.inBlock,Exit.then])
          refine bodyPost_ret (v:=.tuple #[I 0,I 0]) (by simp [results,Tryz.f218,go_sem]) rfl ?_;exact⟨⟨_,0,rfl,Nat.zero_le _⟩,Ext.refl _⟩
         ·by_cases z3:z ≥ 55296
          ·by_cases z4:z<=57343
           ·skip
            go_wp2_with fail
            (try simp only [Exit.inBlock,Exit.then])
            refine bodyPost_ret (v:=.tuple #[I 0,I 0]) (by simp [results,Tryz.f218,go_sem]) rfl ?_;exact⟨⟨_,0,rfl,Nat.zero_le _⟩,Ext.refl _⟩
           ·skip
            go_wp2_with fail
            (try simp only [Exit.inBlock,Exit.then])
            refine bodyPost_ret (v:=.tuple #[I z,I 2]) (by simp [results,Tryz.f218,go_sem]) rfl ?_;exact⟨⟨_,2,rfl,hn2⟩,Ext.refl _⟩
          ·skip
           go_wp2_with fail
           (try simp only [Exit.inBlock,Exit.then])
           refine bodyPost_ret (v:=.tuple #[I z,I 2]) (by simp [results,Tryz.f218,go_sem]) rfl ?_;exact⟨⟨_,2,rfl,hn2⟩,Ext.refl _⟩
    ·have c4:(c:Int) ≥ 224:=by omega
     by_cases c5:(c:Int) < 240
     ·have c6:¬ (c:Int) ≥ 240:=by omega
      by_cases hn:(s.length:Int) < 3
      ·go_enter Tryz.func218,Tryz.ntmps218;go_wp2_with fail
       (try simp only [Exit.inBlock,Exit.then])
       refine bodyPost_ret (v:=.tuple #[I 0,I 0]) (by simp [results,Tryz.f218,go_sem]) rfl ?_;exact⟨⟨_,0,rfl,Nat.zero_le _⟩,Ext.refl _⟩
      ·have hn2:3<=s.length:=(by omega);go_enter Tryz.func218,Tryz.ntmps218;go_wp2_with fail;clear hi
       go_loopw [6,8] (fun x i wr=>∃ (z:Int) (k:Nat),x=I z/\i=I k/\1<=k/\k<=3/\wr=w) (fun _ i _=>3 - (intOf i).toNat)
       case atStart=>exact⟨_,1,rfl,rfl,by decide,by decide,rfl⟩
       case round =>
        obtain⟨z,k,rfl,rfl,k1,k2,rfl⟩:=hrel
        by_cases hk:k < 3
        ·obtain⟨d,hd,hi⟩:=zlm s k (by omega);have hdl:(d:Int) < 256:=(by omega);have hkl:(k:Int) < 3:=by omega
         by_cases d1:(d:Int) < 128
         ·go_wp2_with fail
          (try simp only [Exit.inBlock,Exit.then])
          refine bodyPost_ret (v:=.tuple #[I 0,I 0]) (by simp [results,Tryz.f218,go_sem]) rfl ?_;exact⟨⟨_,0,rfl,Nat.zero_le _⟩,Ext.refl _⟩
         ·by_cases d2:(d:Int) ≥ 192
          ·go_wp2_with fail
           (try simp only [Exit.inBlock,Exit.then])
           refine bodyPost_ret (v:=.tuple #[I 0,I 0]) (by simp [results,Tryz.f218,go_sem]) rfl ?_;exact⟨⟨_,0,rfl,Nat.zero_le _⟩,Ext.refl _⟩
          ·go_wp2_with fail;go_roundw
           case rel=>exact⟨_,k+1,rfl,by simp <;> omega,by omega,by omega,trivial⟩
           case measure=>simp [intOf];omega
        ·obtain rfl:k=3:=by omega
         by_cases z1:z < 2048
         ·skip
          go_wp2_with fail
          (try simp only [Exit.inBlock,Exit.then])
          refine bodyPost_ret (v:=.tuple #[I 0,I 0]) (by simp [results,Tryz.f218,go_sem]) rfl ?_;exact⟨⟨_,0,rfl,Nat.zero_le _⟩,Ext.refl _⟩
         ·by_cases z2:z > 1114111
          ·skip
           go_wp2_with fail
           (try simp only [Exit.inBlock,Exit.then])
           refine bodyPost_ret (v:=.tuple #[I 0,I 0]) (by simp [results,Tryz.f218,go_sem]) rfl ?_;exact⟨⟨_,0,rfl,Nat.zero_le _⟩,Ext.refl _⟩
          ·by_cases z3:z ≥ 55296
           ·by_cases z4:z<=57343
            ·skip
             go_wp2_with fail
             (try simp only [Exit.inBlock,Exit.then])
             refine bodyPost_ret (v:=.tuple #[I 0,I 0]) (by simp [results,Tryz.f218,go_sem]) rfl ?_;exact⟨⟨_,0,rfl,Nat.zero_le _⟩,Ext.refl _⟩
            ·skip
             go_wp2_with fail
             (try simp only [Exit.inBlock,Exit.then])
             refine bodyPost_ret (v:=.tuple #[I z,I 3]) (by simp [results,Tryz.f218,go_sem]) rfl ?_;exact⟨⟨_,3,rfl,hn2⟩,Ext.refl _⟩
           ·skip
            go_wp2_with fail
            (try simp only [Exit.inBlock,Exit.then])
            refine bodyPost_ret (v:=.tuple #[I z,I 3]) (by simp [results,Tryz.f218,go_sem]) rfl ?_;exact⟨⟨_,3,rfl,hn2⟩,Ext.refl _⟩
     ·have c6:(c:Int) ≥ 240:=by omega
      by_cases c7:(c:Int) < 248
      ·skip
       by_cases hn:(s.length:Int) < 4
       ·go_enter Tryz.func218,Tryz.ntmps218;go_wp2_with fail
        (try simp only [Exit.inBlock,Exit.then])
        refine bodyPost_ret (v:=.tuple #[I 0,I 0]) (by simp [results,Tryz.f218,go_sem]) rfl ?_;exact⟨⟨_,0,rfl,Nat.zero_le _⟩,Ext.refl _⟩
       ·have hn2:4<=s.length:=(by omega);go_enter Tryz.func218,Tryz.ntmps218;go_wp2_with fail;clear hi
        go_loopw [6,8] (fun x i wr=>∃ (z:Int) (k:Nat),x=I z/\i=I k/\1<=k/\k<=4/\wr=w) (fun _ i _=>4 - (intOf i).toNat)
        case atStart=>exact⟨_,1,rfl,rfl,by decide,by decide,rfl⟩
        case round =>
         obtain⟨z,k,rfl,rfl,k1,k2,rfl⟩:=hrel
         by_cases hk:k < 4
         ·obtain⟨d,hd,hi⟩:=zlm s k (by omega);have hdl:(d:Int) < 256:=(by omega);have hkl:(k:Int) < 4:=by omega
          by_cases d1:(d:Int) < 128
          ·go_wp2_with fail
           (try simp only [Exit.inBlock,Exit.then])
           refine bodyPost_ret (v:=.tuple #[I 0,I 0]) (by simp [results,Tryz.f218,go_sem]) rfl ?_;exact⟨⟨_,0,rfl,Nat.zero_le _⟩,Ext.refl _⟩
          ·by_cases d2:(d:Int) ≥ 192
           ·go_wp2_with fail
            (try simp only [Exit.inBlock,Exit.then])
            refine bodyPost_ret (v:=.tuple #[I 0,I 0]) (by simp [results,Tryz.f218,go_sem]) rfl ?_;exact⟨⟨_,0,rfl,Nat.zero_le _⟩,Ext.refl _⟩
           ·go_wp2_with fail;go_roundw
            case rel=>exact⟨_,k+1,rfl,by simp <;> omega,by omega,by omega,trivial⟩
            case measure=>simp [intOf];omega
         ·obtain rfl:k=4:=by omega
          by_cases z1:z < 65536
          ·skip
           go_wp2_with fail
           (try simp only [Exit.inBlock,Exit.then])
           refine bodyPost_ret (v:=.tuple #[I 0,I 0]) (by simp [results,Tryz.f218,go_sem]) rfl ?_;exact⟨⟨_,0,rfl,Nat.zero_le _⟩,Ext.refl _⟩
          ·by_cases z2:z > 1114111
           ·skip
            go_wp2_with fail
            (try simp only [Exit.inBlock,Exit.then])
            refine bodyPost_ret (v:=.tuple #[I 0,I 0]) (by simp [results,Tryz.f218,go_sem]) rfl ?_;exact⟨⟨_,0,rfl,Nat.zero_le _⟩,Ext.refl _⟩
           ·by_cases z3:z ≥ 55296
            ·by_cases z4:z<=57343
             ·skip
              go_wp2_with fail
              (try simp only [Exit.inBlock,Exit.then])
              refine bodyPost_ret (v:=.tuple #[I 0,I 0]) (by simp [results,Tryz.f218,go_sem]) rfl ?_;exact⟨⟨_,0,rfl,Nat.zero_le _⟩,Ext.refl _⟩
             ·skip
              go_wp2_with fail
              (try simp only [Exit.inBlock,Exit.then])
              refine bodyPost_ret (v:=.tuple #[I z,I 4]) (by simp [results,Tryz.f218,go_sem]) rfl ?_;exact⟨⟨_,4,rfl,hn2⟩,Ext.refl _⟩
            ·skip
             go_wp2_with fail
             (try simp only [Exit.inBlock,Exit.then])
             refine bodyPost_ret (v:=.tuple #[I z,I 4]) (by simp [results,Tryz.f218,go_sem]) rfl ?_;exact⟨⟨_,4,rfl,hn2⟩,Ext.refl _⟩
      ·go_enter Tryz.func218,Tryz.ntmps218;go_wp2_with fail
       (try simp only [Exit.inBlock,Exit.then])
       refine bodyPost_ret (v:=.tuple #[I 0,I 0]) (by simp [results,Tryz.f218,go_sem]) rfl ?_;exact⟨⟨_,0,rfl,Nat.zero_le _⟩,Ext.refl _⟩
   ·have c4:¬ (c:Int) ≥ 224:=(by omega);have c6:¬ (c:Int) ≥ 240:=(by omega);go_enter Tryz.func218,Tryz.ntmps218;go_wp2_with fail
    (try simp only [Exit.inBlock,Exit.then])
    refine bodyPost_ret (v:=.tuple #[I 0,I 0]) (by simp [results,Tryz.f218,go_sem]) rfl ?_;exact⟨⟨_,0,rfl,Nat.zero_le _⟩,Ext.refl _⟩
abbrev intT:Shape Int:=flat 1 (fun x:Int=>[I x]) (fun _=>rfl) (fun _ u hu=>by simp at hu;rcases hu with rfl;rfl)
theorem yah {w wr:World} {S:Nat->Prop} {A:Option Addr} {n c:Nat} {l pre post:List Int} {m:Int} (h:Sl intT w S (.slice A n c) l) (hb:Ext w wr) (hl:l=pre++m :: post) :
  ∃ b o,A=some ⟨b,o,none⟩/\wr.cell? ⟨b,o+pre.length,none⟩=some (I m):=by
 obtain⟨b,o,vs,c',hv,hS,rfl,hc⟩:=h.at_ hl;injection hv with e1 e2 e3
 subst e1;have h0:w.cell? ⟨b,o+pre.length * 1+0,none⟩=some (I m):=hc 0 _ rfl;rw [Nat.mul_one,Nat.add_zero] at h0;exact⟨b,o,rfl,hb.cell h0⟩
theorem zy2 (t:Str) (n:Nat):(⟨t.toArray⟩:ByteArray).extract n t.length=⟨(t.drop n).toArray⟩:=by
 apply ByteArray.ext
 apply Array.ext'
 simp [ByteArray.extract,ByteArray.copySlice];exact List.take_of_length_le (by simp)
def zw9:Value->Nat
 | .string b=>b.size
 | _=>0
theorem zrd (s:Str) (w:World) (hs:s.length<=1000000):Calls Tryz.prog 152 #[St s] w fun e w'=>(∃ (v:Value) (z:Bool) (l:List Int),e=.returned (.tuple #[v,.bool z])/\Sl intT w' (fun _=>True) v l/\(s = []->l = []))/\Ext w w':=by
 go_enter Tryz.func152,Tryz.ntmps152;go_wp2_with fail
 go_loopw [0,4] (fun sv o wr=>∃ (t:Str) (l:List Int),sv=St t/\t.length+l.length<=s.length/\Own wr w.heap.size 3 1 o l.length (l.flatMap fun x=>[I x])/\(s = []->l = [])/\Ext w wr) (fun sv _ _=>zw9 sv)
 case atStart=>exact⟨s,[],rfl,by simp,Own.nil _ _ _ _ _,fun _=>rfl,Ext.refl _⟩
 case round =>
  obtain⟨t,l,rfl,hle,hown,he,hx⟩:=hrel;have HO:=zH hown;have HX:=zH hx;have HE:=zH he;have hz:=hx.size;clear hown hx he
  cases ht:t.isEmpty with
  | true =>
   go_wp2_with fail
   (try simp only [Exit.inBlock,Exit.then])
   obtain⟨C,c,rfl,-,-⟩:=HO.out.form;refine bodyPost_ret (v:=.tuple #[.slice C l.length c,.bool true]) (by simp [results,Tryz.f152,go_sem]) rfl ?_;exact⟨⟨_,_,l,rfl,(OwnL.sl (T:=intT) (S:=fun _=>True) (OwnL.flat_iff.2 HO.out) (by decide) (fun _ _ _=>trivial) (fun _ _ _=>trivial)),HE.out⟩,HX.out⟩
  | false =>
   have hne:s ≠ []:=by rintro rfl;cases t <;> simp at ht hle
   go_wp2_with fail;refine (zsn t _).mono ?_;rintro e W ⟨⟨x,n,rfl,hn⟩,hxw⟩;have hn1:(n:Int)<=((⟨t.toArray⟩:ByteArray).size:Int):=(by simp [ByteArray.size];omega);have HO:=zH (HO.out.ext hxw);have HX:=zH (HX.out.trans hxw);have hz:=HX.out.size;rcases Nat.eq_zero_or_pos n with rfl | hp
   ·go_wp2_with fail
    (try simp only [Exit.inBlock,Exit.then])
    refine bodyPost_ret (v:=.tuple #[.slice none 0 0,.bool false]) (by simp [results,Tryz.f152,go_sem]) rfl ?_;exact⟨⟨_,_,[],rfl,(OwnL.sl (T:=intT) (base:=0) (tid:=3) (S:=fun _=>True) (OwnL.nil _ _) (by decide) (fun _ _ _=>trivial) (fun _ _ _=>trivial)),fun _=>rfl⟩,HX.out⟩
   ·have hn0:((n:Int) == 0)=false:=by simp;omega
    go_wp2_with (at_builtin;refine zab rfl (.tmp 16) (.tmp 18) 168 rfl w.heap.size 3 1 8 (I 0) Tryz.underlying168 zxn rfl (by omega) _ (l.length) (l.flatMap fun x=>[I x]) rfl (HO.out.ext ((Ext.refl _).alloc _)) _ 1 1 [I x] rfl (Src.new rfl (by intro u hu;simp at hu;rcases hu with rfl <;> rfl)) (by omega) (by omega) (by simp;omega) ?_;intro v2 w2 hown2 hgr2)
    go_roundw
    case rel=>exact⟨t.drop n,l++[x],congrArg Value.string (zy2 t n),by simp;omega,by simpa using hown2,fun h=>absurd h hne,Ext.grewOwn (HX.out.alloc _) hgr2 (HO.out.ext ((Ext.refl _).alloc _)) (Nat.le_refl _)⟩
    case measure=>simp [zw9,ByteArray.size];omega
theorem zso (s:Str) (w:World) (hs:s.length<=1000000):Calls Tryz.prog 87 #[St s] w fun e w'=>(∃ k:Nat,e=.returned (.int .u8 (k:Int))/\k<=3/\(k ≠ 0->s ≠ []))/\Ext w w':=by
 have HR:=zH (zrd s w hs);go_enter Tryz.func87,Tryz.ntmps87;go_wp2_with fail;refine HR.out.mono ?_;rintro e W ⟨⟨v,z,l,rfl,hsl,he⟩,hx⟩;have hsl':=hsl;obtain⟨A,c,rfl,h1,h2⟩:=hsl.form;have HX:=zH hx;have HE:=zH he;have HAT:=zH (fun (pre post:List Int) (x:Int) (hl:l=pre++x :: post)=>yah hsl' (Ext.refl _) hl);clear hx he hsl hsl' HR
 cases z with
 | false=>go_wp2_with fail;go_ret;exact⟨⟨0,rfl,by decide,fun h=>absurd rfl h⟩,HX.out⟩
 | true =>
  by_cases l1:(l.length:Int) < 1
  ·go_wp2_with fail;go_ret;exact⟨⟨0,rfl,by decide,fun h=>absurd rfl h⟩,HX.out⟩
  ·by_cases l2:(l.length:Int) > 64
   ·go_wp2_with fail;go_ret;exact⟨⟨0,rfl,by decide,fun h=>absurd rfl h⟩,HX.out⟩
   ·have l3:decide ((l.length:Int) < 1)=false:=decide_eq_false l1;have HN:=zH (show l ≠ [] by rintro rfl;simp at l1);go_wp2_with fail
    go_loopw [5] (fun i wr=>∃ (pre post:List Int),l=pre++post/\i=I pre.length/\wr=W) (fun i _=>l.length - (intOf i).toNat)
    case atStart=>exact⟨[],l,rfl,rfl,rfl⟩
    case round =>
     obtain⟨pre,post,hl,rfl,rfl⟩:=hrel
     cases post with
     | cons x post =>
      obtain⟨b,o,rfl,e0⟩:=HAT.out pre post x hl;have hlt:pre.length < l.length:=(by rw [hl];simp);have HL:=zH hl;clear hl
      by_cases x1:x < 32
      ·go_wp2_with fail;go_ret;exact⟨⟨0,rfl,by decide,fun h=>absurd rfl h⟩,HX.out⟩
      ·by_cases x2:x ≥ 127
       ·by_cases x3:x<=159
        ·go_wp2_with fail;go_ret;exact⟨⟨0,rfl,by decide,fun h=>absurd rfl h⟩,HX.out⟩
        ·go_wp2_with fail;go_roundw
         case rel=>exact⟨pre++[x],post,by rw [HL.out];simp,by simp,trivial⟩
         case measure=>simp [intOf];omega
       ·go_wp2_with fail;go_roundw
        case rel=>exact⟨pre++[x],post,by rw [HL.out];simp,by simp,trivial⟩
        case measure=>simp [intOf];omega
     | nil =>
      rw [List.append_nil] at hl;subst hl;obtain⟨x,r,hl0⟩:=List.exists_cons_of_ne_nil HN.out;obtain⟨b,o,rfl,e0⟩:=HAT.out [] r x hl0;simp only [List.length_nil,Nat.add_zero] at e0;have hlt:0 < (x :: r).length:=(by simp);rw [<- hl0] at hlt;clear hl0
      by_cases y1:x=35
      ·subst y1;go_wp2_with fail
       (try simp only [Exit.inBlock,Exit.then])
       refine bodyPost_ret (v:=.int .u8 1) (by simp [results,Tryz.f87,go_sem]) rfl ?_;exact⟨⟨1,rfl,by decide,fun _ h=>HN.out (HE.out h)⟩,HX.out⟩
      ·have y1b:(x == 35)=false:=by simpa using y1
       by_cases y2:x=64
       ·subst y2;go_wp2_with fail
        (try simp only [Exit.inBlock,Exit.then])
        refine bodyPost_ret (v:=.int .u8 2) (by simp [results,Tryz.f87,go_sem]) rfl ?_;exact⟨⟨2,rfl,by decide,fun _ h=>HN.out (HE.out h)⟩,HX.out⟩
       ·have y2b:(x == 64)=false:=by simpa using y2
        by_cases y3:x=61
        ·subst y3;go_wp2_with fail
         (try simp only [Exit.inBlock,Exit.then])
         refine bodyPost_ret (v:=.int .u8 3) (by simp [results,Tryz.f87,go_sem]) rfl ?_;exact⟨⟨3,rfl,by decide,fun _ h=>HN.out (HE.out h)⟩,HX.out⟩
        ·have y3b:(x == 61)=false:=(by simpa using y3);go_wp2_with fail
         (try simp only [Exit.inBlock,Exit.then])
         refine bodyPost_ret (v:=.int .u8 0) (by simp [results,Tryz.f87,go_sem]) rfl ?_;exact⟨⟨0,rfl,by decide,fun h=>absurd rfl h⟩,HX.out⟩
end
end Go.Proofs.YtdikcgmdmcfpfaaGreat
