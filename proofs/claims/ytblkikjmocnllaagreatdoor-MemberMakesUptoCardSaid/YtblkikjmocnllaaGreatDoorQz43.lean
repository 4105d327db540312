/- Laws. -/
import Derived.Test.YtblkikjmocnllaaGreatDoorQz15
import Derived.Test.YtblkikjmocnllaaGreatDoorQz20
import Derived.Test.YtblkikjmocnllaaGreatDoorQz42
import Derived.Test.YtblkikjmocnllaaGreatDoorQz24
import Derived.Test.YtblkikjmocnllaaGreatDoorQz18
import Derived.Test.YtblkikjmocnllaaGreatDoorQz36
import Derived.Test.YtblkikjmocnllaaGreatDoorQz21
set_option linter.unusedVariables false
set_option linter.unusedSimpArgs false
set_option maxRecDepth 100000
set_option maxHeartbeats 40000000
namespace Go.Proofs.YtblkikjmocnllaaGreatDoor
section
open Go.RowKit Go.Shelf
theorem gfold_len:∀ (D out:List Span),(D.foldl gstep out).length<=out.length+D.length
 | [],out=>Nat.le_refl _
 | x :: D,out=>by
  rw [List.foldl_cons]
  have h:=gfold_len D (gstep out x)
  have h2:(gstep out x).length<=out.length+1:=by
   unfold gstep
   split
   ·rename_i s hs
    split
    ·simp;try omega
    ·simp
   ·simp
  simp only [List.length_cons]
  omega
theorem gfold_snoc (D:List Span) (x:Span):(D++[x]).foldl gstep []=gstep (D.foldl gstep []) x:=by rw [List.foldl_append];rfl
structure GoneI (a b D R:List Span):Prop where
 perm:(D++R).Perm (a++b)
 srt:SrtS D
 le:∀ d ∈ D,∀ r ∈ R,d.1<=r.1
theorem GoneI.take {a b D R1 R2:List Span} {x:Span} (h:GoneI a b D (R1++x :: R2)) (hm:∀ y ∈ R1++x :: R2,x.1<=y.1):GoneI a b (D++[x]) (R1++R2) where
 perm:=by
  refine List.Perm.trans ?_ h.perm
  rw [List.append_assoc]
  exact List.Perm.append_left D (show (x :: (R1++R2)).Perm (R1++x :: R2) from List.perm_middle.symm)
 srt:=List.pairwise_append.2 ⟨h.srt,List.pairwise_singleton _ _,fun d hd y hy=>by rw [List.mem_singleton.1 hy];exact h.le d hd x (by simp)⟩
 le d hd r hr:=by
  have hr':r ∈ R1++x :: R2:=by
   rcases List.mem_append.1 hr with h1 | h1
   ·exact List.mem_append.2 (.inl h1)
   ·exact List.mem_append.2 (.inr (List.mem_cons_of_mem _ h1))
  rcases List.mem_append.1 hd with h1 | h1
  ·exact h.le d h1 r hr'
  ·rw [List.mem_singleton.1 h1];exact hm r hr'
theorem GoneI.done {a b D:List Span} (sa:Sep a) (sb:Sep b) (h:GoneI a b D []):D.foldl gstep []=spansM a b :=
 rgone_is sa sb (by have:=h.perm;rwa [List.append_nil] at this) h.srt
theorem Own.srcTake {w:World} {base T n c k:Nat} {g:Nat} {R:List Span} (h:Own w base T 2 (.slice (some ⟨g,0,none⟩) n c) n (R.flatMap spanC)) (hn:n=R.length) (hk:k<=R.length):Src w 2 (some ⟨g,0,none⟩) k ((R.take k).flatMap spanC):=by
 have hl:(R.take k).length=k:=by rw [List.length_take];omega
 refine ⟨by rw [spanC_len,hl],fun u hu=>?_,fun _=>⟨g,0,rfl,fun j u hj=>?_⟩⟩
 ·obtain⟨x,-,hx⟩:=List.mem_flatMap.1 hu
  simp [spanC] at hx
  rcases hx with rfl | rfl <;> rfl
 ·have:(R.flatMap spanC)[j]? = some u:=by
   conv=>lhs;rw [<- List.take_append_drop k R]
   rw [List.flatMap_append,List.getElem?_append_left (List.getElem?_eq_some_iff.1 hj).1]
   exact hj
  rw [Nat.zero_add]
  exact h.cell (g:=g) rfl this
theorem Own.srcDrop {w:World} {base T n c k:Nat} {g:Nat} {R:List Span} (h:Own w base T 2 (.slice (some ⟨g,0,none⟩) n c) n (R.flatMap spanC)) (hn:n=R.length) (hk:k<=R.length):Src w 2 (some ⟨g,k * 2,none⟩) (n - k) ((R.drop k).flatMap spanC):=by
 have hl:(R.take k).length=k:=by rw [List.length_take];omega
 refine ⟨by rw [spanC_len,List.length_drop,hn],fun u hu=>?_,fun _=>⟨g,k * 2,rfl,fun j u hj=>?_⟩⟩
 ·obtain⟨x,-,hx⟩:=List.mem_flatMap.1 hu
  simp [spanC] at hx
  rcases hx with rfl | rfl <;> rfl
 ·have:(R.flatMap spanC)[k * 2+j]? = some u:=by
   conv=>lhs;rw [<- List.take_append_drop k R]
   rw [List.flatMap_append,List.getElem?_append_right (by rw [spanC_len,hl];omega),spanC_len,hl,Nat.add_sub_cancel_left]
   exact hj
  exact h.cell (g:=g) rfl this
theorem apart_keep {w5 wa w6:World} {u v v':Value} {base T k n d:Nat} {xs:List Value} (hO:Own w5 base T k u n xs) (hge:∀ b,ownBlk u b->d<=b) (hv:∀ b,ownBlk v b->b < d) (he:Ext w5 wa) (hg:Grew wa w6 v v'):Own w6 base T k u n xs/\∀ b,ownBlk u b->¬ ownBlk v' b :=
 ⟨(hO.ext he).keep fun b hb hlt=>hg.same b hlt (fun ho=>by have:=hge b hb;have:=hv b ho;omega),fun b hb ho=>(hg.blk b ho).elim (fun h=>by have:=hge b hb;have:=hv b h;omega) (fun h=>by have:=(hO.base_le hb).2;have:=he.size;omega)⟩
theorem Src.to {w:World} {k m:Nat} {A A':Option Addr} {news:List Value} (h:Src w k A m news) (ha:0 < m->A'=A):Src w k A' m news :=
 ⟨h.1,h.2.1,fun hm=>by rw [ha hm];exact h.2.2 hm⟩
theorem Own.setTo {W:World} {base T g cap n:Nat} {Q:List Span} {s:Span} {b':Int} (hn:n=Q.length) (h:Own W base T 2 (.slice (some ⟨g,0,none⟩) (n+1) cap) (n+1) ((Q++[s]).flatMap spanC)) :
  Own (W.setCell ⟨g,n * 2+1,none⟩ (I b')) base T 2 (.slice (some ⟨g,0,none⟩) (n+1) cap) (n+1) ((Q++[(s.1,b')]).flatMap spanC):=by
 obtain⟨g',cap',tail,e,hg,hrow,hc,hm,hl⟩:=h.row (by omega)
 cases e
 have e0:(Q++[s]).flatMap spanC=Q.flatMap spanC++[I s.1,I s.2]:=by rw [List.flatMap_append];rfl
 have e2:(Q++[(s.1,b')]).flatMap spanC=Q.flatMap spanC++[I s.1,I b']:=by rw [List.flatMap_append];rfl
 have hq:(Q.flatMap spanC).length=n * 2:=by rw [spanC_len,hn]
 have h1:=hrow.set (j:=n * 2+1) (by rw [e0,List.length_append,hq];simp) (I b')
 have e1:((Q++[s]).flatMap spanC).set (n * 2+1) (I b')=(Q++[(s.1,b')]).flatMap spanC:=by
  rw [e0,e2,<- hq,List.set_append_right _ _ (by omega),Nat.add_sub_cancel_left]
  rfl
 rw [e1] at h1
 have hlen:((Q++[(s.1,b')]).flatMap spanC).length=(n+1) * 2:=by rw [spanC_len];simp [hn]
 exact h1.own hg hc hm (by rw [List.length_append,hlen];rw [List.length_append,spanC_len] at hl;simp at hl;rw [hn];omega) (List.take_of_length_le (by rw [hlen];exact Nat.le_refl _)) hlen
theorem refGone_any {S S':Nat->Prop} {va vb:Value} {a b:List Span} {w:World} (ha:Sl spanT w S va a) (hb:Sl spanT w S' vb b) (sa:Sep a) (sb:Sep b) (hla:a.length<=1000000) (hlb:b.length<=1000000) :
  Calls Tryz.prog 112 #[va,vb] w fun e w'=>∃ v',e=.returned v'/\Own w' w.heap.size 76 2 v' (spansM a b).length ((spansM a b).flatMap spanC)/\Ext w w':=by
 obtain⟨A,ca,rfl,-,-⟩:=ha.form
 obtain⟨B,cb,rfl,-,-⟩:=hb.form
 obtain⟨K,hK⟩:∃ K,spansM a b=K:=⟨_,rfl⟩
 have HDN:=Lib.hid (fun D (h:GoneI a b D [])=>show D.foldl gstep []=K by rw [<- hK];exact h.done sa sb)
 have HSA:=Lib.hid (fun W (he:Ext w W)=>(src_span ha).ext he)
 have HSB:=Lib.hid (fun W (he:Ext w W)=>(src_span hb).ext he)
 have HI0:=Lib.hid (show GoneI a b [] (a++b) from ⟨by rw [List.nil_append],List.Pairwise.nil,fun d hd=>by cases hd⟩)
 rw [hK]
 obtain⟨N,hN⟩:∃ N,a.length+b.length=N:=⟨_,rfl⟩
 clear ha hb hK sa sb
 go_enter Tryz.func112,Tryz.ntmps112
 go_wp2_with (at_builtin;first
  | (refine wpList_append_Own rfl (.tmp 11) (.tmp 12) 41 rfl w.heap.size 76 2 16 (spanV (0,0)) Tryz.underlying41 info_span rfl (by omega) (.slice (some ⟨w.heap.size,0,none⟩) 0 0) 0 [] rfl (Own.nil _ _ _ _ _) A a.length ca (a.flatMap spanC) rfl (HSA.out _ ((Ext.refl w).alloc _)) (by omega) (by omega) (by simp) ?_;intro v1 w1 hown1 hgr1;have hx1:=((Ext.refl w).alloc _).grew hgr1 (fun b hb=>absurd hb no_ownBlk);have hn1:=hx1.size)
  |(refine wpList_append_Own rfl (.tmp 13) (.tmp 14) 41 rfl w.heap.size 76 2 16 (spanV (0,0)) Tryz.underlying41 info_span rfl (by omega) v1 (0+a.length) ([]++a.flatMap spanC) rfl hown1 B b.length cb (b.flatMap spanC) rfl (HSB.out _ hx1) (by omega) (by omega) hn1 ?_;intro v2 w2 hown2 hgr2;have hx2:=hx1.grewOwn hgr2 hown1 (Nat.le_refl _)))
 have HO:=Lib.hid (show Own w2 w.heap.size 76 2 v2 (a++b).length ((a++b).flatMap spanC) by have:=hown2;rw [Nat.zero_add,List.nil_append] at this;rw [List.length_append,List.flatMap_append];exact this)
 have HX:=Lib.hid hx2
 have hnl:(a++b).length<=2000000:=by rw [List.length_append];omega
 clear hown1 hgr1 hown2 hgr2 hx1 hx2 hn1 HSA HSB
 go_loopw [5,6,7,8,9,10] (fun rv ov _ _ _ _ wr=>∃ R D,Own wr w.heap.size 76 2 rv R.length (R.flatMap spanC)/\Own wr w.heap.size 76 2 ov (D.foldl gstep []).length ((D.foldl gstep []).flatMap spanC)/\(∀ b,ownBlk rv b->¬ ownBlk ov b)/\D.length+R.length=N/\Hid (GoneI a b D R)/\Ext w wr) (fun rv _ _ _ _ _ _=>match rv with | .slice _ n _=>n | _=>0)
 case atStart=>exact⟨a++b,[],HO.out,Own.nil _ _ _ _ _,fun b _ ⟨g,n,c,e,_,_⟩=>(by cases e),by simp [hN],HI0,HX.out⟩
 case round =>
  obtain⟨R,D,hR,hD,hap,hlen,hi,hx⟩:=hrel
  have hdl:=gfold_len D []
  simp only [List.length_nil,Nat.zero_add] at hdl
  obtain⟨O,hO⟩:∃ O,D.foldl gstep []=O:=⟨_,rfl⟩
  rw [hO] at hD hdl
  have HOE:=Lib.hid hO
  have HXR:=Lib.hid hx
  have HI:=Lib.hid hi.out
  clear hO hi
  cases R with
  | nil =>
   obtain⟨C,cc,rfl,-,-⟩:=hR.form
   obtain⟨E,ec,rfl,-,-⟩:=hD.form
   have HF:=Lib.hid (show O=K by rw [<- HOE.out];exact HDN.out D HI.out)
   have HDD:=Lib.hid hD
   clear hR hD hap hx HI
   go_wp2_with fail
   go_ret
   exact⟨_,rfl,by rw [<- HF.out];exact HDD.out,HXR.out⟩
  | cons r0 R0 =>
   obtain⟨R,hRR⟩:∃ R,r0 :: R0=R:=⟨_,rfl⟩
   have hRl:0 < R.length:=by rw [<- hRR];simp
   have hR0:R[0]? = some r0:=by rw [<- hRR];rfl
   rw [hRR] at hR HI hlen
   clear hRR R0
   obtain⟨g,cc,cur,rfl,hbg,hgl,-,hnc,hcm,-,-⟩:=hR.pos hRl
   clear cur
   obtain⟨E,ec,rfl,-,-⟩:=hD.form
   have hRpos:(R.length:Int) > 0:=by omega
   have HRO:=Lib.hid hR
   have HDO:=Lib.hid hD
   have HAP:=Lib.hid hap
   have HCELL:=Lib.hid (fun W (he:Ext wr W) (j:Nat) (y:Span) (hj:R[j]? = some y)=>show W.cell? ⟨g,j * 2,none⟩=some (I y.1)/\W.cell? ⟨g,j * 2+1,none⟩=some (I y.2) by
    have hjl:=(List.getElem?_eq_some_iff.1 hj).1
    have hs:R=R.take j++y :: R.drop (j+1):=by rw [<- (List.getElem?_eq_some_iff.1 hj).2,List.getElem_cons_drop,List.take_append_drop]
    have hl:(R.take j).length=j:=by rw [List.length_take];omega
    have h:=spanC_at (R.take j) (R.drop (j+1)) y
    rw [<- hs,hl] at h
    exact⟨he.cell (hR.cell rfl h.1),he.cell (hR.cell rfl h.2)⟩)
   clear hR hD hap hx
   go_wp2_with fail
   obtain⟨wo,rfl⟩:∃ wo:World,wo=wr:=⟨_,rfl⟩
   go_loopw [7,8] (fun kv iv wr=>∃ (kk ii:Nat) (x:Span),kv=I kk/\iv=I ii/\R[kk]? = some x/\kk < ii/\ii<=R.length/\Hid (∀ (j:Nat) y,j < ii->R[j]? = some y->x.1<=y.1)/\Ext wo wr) (fun _ i _=>R.length - (intOf i).toNat)
   case atStart=>exact⟨0,1,r0,rfl,rfl,hR0,by omega,by omega,Lib.hid (fun j y hj hy=>by
    obtain rfl:j=0:=by omega
    rw [hR0] at hy
    cases hy
    exact Int.le_refl _),Ext.refl _⟩
   case round =>
    obtain⟨kk,ii,x,rfl,rfl,hkx,hki,hil,hmin,hxW⟩:=hrel
    have HXW:=Lib.hid hxW
    by_cases hiR:ii < R.length
    case pos =>
     obtain⟨y,hy⟩:∃ y,R[ii]? = some y:=⟨_,List.getElem?_eq_getElem hiR⟩
     obtain⟨c0,-⟩:=HCELL.out _ hxW kk x hkx
     obtain⟨c1,-⟩:=HCELL.out _ hxW ii y hy
     have q1:(ii:Int) < R.length:=by omega
     have q2:(kk:Int) < R.length:=by omega
     have HY:=Lib.hid (And.intro hkx hy)
     have HMN:=Lib.hid hmin.out
     clear hkx hy hmin hxW
     by_cases hlt:y.1 < x.1
     case pos =>
      have e1:decide (y.1 < x.1)=true:=decide_eq_true hlt
      go_wp2_with fail
      go_quiet (fail)
      go_wp2_with fail
      go_roundw
      case rel=>exact⟨ii,ii+1,y,rfl,by simp,HY.out.2,by omega,by omega,Lib.hid (fun j z hj hz=>by
       by_cases hji:j=ii
       ·subst hji
        rw [HY.out.2] at hz
        cases hz
        exact Int.le_refl _
       ·have:=HMN.out j z (by omega) hz
        omega),HXW.out.drewN _⟩
      case measure=>simp [intOf];omega
     case neg =>
      have e1:decide (y.1 < x.1)=false:=decide_eq_false hlt
      go_wp2_with fail
      go_quiet (fail)
      go_wp2_with fail
      go_roundw
      case rel=>exact⟨kk,ii+1,x,rfl,by simp,HY.out.1,by omega,by omega,Lib.hid (fun j z hj hz=>by
       by_cases hji:j=ii
       ·subst hji
        rw [HY.out.2] at hz
        cases hz
        omega
       ·exact HMN.out j z (by omega) hz),HXW.out.drewN _⟩
      case measure=>simp [intOf];omega
    case neg =>
     have hii:ii=R.length:=by omega
     have HMN:=Lib.hid (show ∀ y ∈ R,x.1<=y.1 from fun y hy=>by
      obtain⟨j,hj⟩:=List.getElem?_of_mem hy
      exact hmin.out j y (by have:=(List.getElem?_eq_some_iff.1 hj).1;omega) hj)
     have q1:¬ (ii:Int) < R.length:=by omega
     have hkl:kk < R.length:=by omega
     have q2:(kk:Int) < R.length:=by omega
     obtain⟨c0,c1⟩:=HCELL.out _ hxW kk x hkx
     have HKX:=Lib.hid hkx
     clear hkx hmin hii
     obtain⟨R1,R2,hRR⟩:∃ R1 R2,R=R1++x :: R2/\R1.length=kk:=⟨R.take kk,R.drop (kk+1),by rw [<- (List.getElem?_eq_some_iff.1 HKX.out).2,List.getElem_cons_drop,List.take_append_drop],by rw [List.length_take];omega⟩
     have HRR:=Lib.hid hRR
     have HTK:=Lib.hid (show R.take kk++R.drop (kk+1)=R1++R2 by rw [hRR.1,<- hRR.2];simp)
     have HNX:=Lib.hid (show GoneI a b (D++[x]) (R1++R2) from by
      have h:=HI.out
      have h2:=HMN.out
      rw [hRR.1] at h h2
      exact h.take h2)
     have hR12:(R1++R2).length+1=R.length:=by rw [hRR.1];simp;omega
     obtain⟨L,hLL⟩:∃ L,R1++R2=L:=⟨_,rfl⟩
     rw [hLL] at HTK HNX hR12
     clear hRR hLL
     have hx2:=hxW.alloc (.cells #[I x.1,I x.2] 76)
     have rx:=rowNew wr 76 [I x.1,I x.2]
     obtain⟨W2,hW2⟩:∃ W2,wr.alloc (.cells #[I x.1,I x.2] 76)=W2:=⟨_,rfl⟩
     obtain⟨gx,hgx⟩:∃ gx,wr.heap.size=gx:=⟨_,rfl⟩
     rw [hW2] at hx2
     have rx:RowIs W2 gx 76 [I x.1,I x.2] []:=by rw [<- hW2,<- hgx];exact rx
     have HX2:=Lib.hid hx2
     have HRX:=Lib.hid rx
     have HW2:=Lib.hid (And.intro hW2 hgx)
     have HD2:=Lib.hid hx2.size
     clear hx2 rx hW2 hgx hxW
     go_wp2_with fail
     try rw [HW2.out.1]
     try rw [HW2.out.2]
     clear c0 c1
     have k5:(kk:Int)+1<=R.length:=by omega
     have k6:(kk:Int)<=cc:=by omega
     have k7:IntKind.i64.wrap ((kk:Int)+1)=(kk:Int)+1:=wrap_small _ (by omega) (by omega)
     refine wp_region_facts ((fun v _=>∃ q,v=.slice (some ⟨q,0,none⟩) 0 0) :: (fun v _=>v=.slice (some ⟨g,0,none⟩) R.length cc) :: (fun v _=>v=I kk) :: (fun v _=>v=.slice (some ⟨g,0,none⟩) kk cc) :: (fun v V=>Own V W2.heap.size 76 2 v kk ((R.take kk).flatMap spanC)) :: (fun v _=>v=.slice (some ⟨g,0,none⟩) R.length cc) :: (fun v _=>v=I kk) :: (fun v _=>v=I ((kk:Int)+1)) :: (fun v _=>∃ A',v=.slice A' (R.length - (kk+1)) (cc - (kk+1))/\(kk+1 < R.length->A'=some ⟨g,(kk+1) * 2,none⟩)) :: []) rfl (by kernel_rfl) ?hR ?hstep ?hend
     case hR =>
      simp only [List.mem_cons,List.not_mem_nil,or_false,forall_eq_or_imp,forall_eq]
      exact⟨fun v _ _ h _=>h,fun v _ _ h _=>h,fun v _ _ h _=>h,fun v _ _ h _=>h,fun v _ _ h he=>h.ext he,fun v _ _ h _=>h,fun v _ _ h _=>h,fun v _ _ h _=>h,fun v _ _ h _=>h⟩
     case hstep =>
      simp only [List.length_cons,List.length_nil,Nat.reduceAdd,List.take_succ_cons,List.take_zero,stepsAll,and_true]
      refine ⟨?_,?_,?_,?_,?_,?_,?_,?_,?_⟩
      ·intro z V he f
       clear f
       go_wp
       exact stepQ_ok ⟨_,rfl⟩ ((Ext.refl _).alloc _)
      ·intro z V he f
       have h0:z 5=.slice (some ⟨g,0,none⟩) R.length cc:=f.1
       clear f
       go_wp
       exact stepQ_ok rfl (Ext.refl _)
      ·intro z V he f
       have h0:z 7=I kk:=f.1
       clear f
       go_wp
       exact stepQ_ok rfl (Ext.refl _)
      ·intro z V he f
       have h0:z 42=.slice (some ⟨g,0,none⟩) R.length cc:=f.1
       have h1:z 43=I kk:=f.2.1
       clear f
       go_wp
       exact stepQ_ok (by simp) (Ext.refl _)
      ·intro z V he f
       obtain⟨q,h0⟩:∃ q,z 41=.slice (some ⟨q,0,none⟩) 0 0:=f.1
       have h1:z 44=.slice (some ⟨g,0,none⟩) kk cc:=f.2.1
       clear f
       have hsz:=he.size
       have HSR:=(HRO.out.ext (HX2.out.trans he)).srcTake rfl (k:=kk) (by omega)
       go_wp2_with (at_builtin;refine wpList_append_Own rfl (.tmp 41) (.tmp 44) 41 rfl W2.heap.size 76 2 16 (spanV (0,0)) Tryz.underlying41 info_span rfl (by omega) (.slice (some ⟨q,0,none⟩) 0 0) 0 [] (by simp [go_sem,h0]) (Own.nil _ _ _ _ _) (some ⟨g,0,none⟩) kk cc ((R.take kk).flatMap spanC) (by simp [go_sem,h1]) HSR (by omega) (by omega) hsz ?_;intro v5 w5 hown5 hgr5)
       exact stepQ_ok (by simpa using hown5) ((Ext.refl V).grew hgr5 (fun b hb=>absurd hb no_ownBlk))
      ·intro z V he f
       have h0:z 5=.slice (some ⟨g,0,none⟩) R.length cc:=f.1
       clear f
       go_wp
       exact stepQ_ok rfl (Ext.refl _)
      ·intro z V he f
       have h0:z 7=I kk:=f.1
       clear f
       go_wp
       exact stepQ_ok rfl (Ext.refl _)
      ·intro z V he f
       have h0:z 47=I kk:=f.1
       clear f
       go_wp
       exact stepQ_ok rfl (Ext.refl _)
      ·intro z V he f
       have h0:z 46=.slice (some ⟨g,0,none⟩) R.length cc:=f.1
       have h1:z 48=I ((kk:Int)+1):=f.2.1
       clear f
       by_cases hcc:cc=kk+1
       ·go_wp
        exact stepQ_ok ⟨some ⟨g,0,none⟩,by simp [hcc],fun h=>by omega⟩ (Ext.refl _)
       ·go_wp
        exact stepQ_ok ⟨some ⟨g,(kk+1) * 2,none⟩,by simp [hcc],fun h=>rfl⟩ (Ext.refl _)
     case hend =>
     intro z V he f
     simp only [List.take_succ_cons,List.take_zero,List.drop_succ_cons,List.drop_zero,List.filterMap_cons,List.filterMap_nil,List.length_cons,List.length_nil,Nat.reduceAdd] at f ⊢
     have h45:Own V W2.heap.size 76 2 (z 45) kk ((R.take kk).flatMap spanC):=f.2.2.2.2.1
     obtain⟨A9,h49,hA9⟩:∃ A',z 49=.slice A' (R.length - (kk+1)) (cc - (kk+1))/\(kk+1 < R.length->A'=some ⟨g,(kk+1) * 2,none⟩):=f.2.2.2.2.2.2.2.2.1
     obtain⟨v45,hv45⟩:∃ u,z 45=u:=⟨_,rfl⟩
     rw [hv45] at h45
     clear f
     simp only [putAll]
     go_simp
     have hsz:=he.size
     have HSR:=((HRO.out.ext (HX2.out.trans he)).srcDrop rfl (k:=kk+1) (by omega)).to (A':=A9) (fun h=>hA9 (by omega))
     have HVE:=Lib.hid he
     go_wp2_with (at_builtin;refine wpList_append_Own rfl (.tmp 45) (.tmp 49) 41 rfl W2.heap.size 76 2 16 (spanV (0,0)) Tryz.underlying41 info_span rfl (by omega) v45 kk ((R.take kk).flatMap spanC) (by simp [go_sem,hv45]) h45 A9 (R.length - (kk+1)) (cc - (kk+1)) ((R.drop (kk+1)).flatMap spanC) (by simp [go_sem,h49]) HSR (by omega) (by omega) hsz ?_;intro v5 w5 hown5 hgr5)
     have hx5:=he.grewOwn hgr5 h45 (Nat.le_refl _)
     have HX5:=Lib.hid hx5
     have HXW5:=Lib.hid (HX2.out.trans hx5)
     have hl5:kk+(R.length - (kk+1))=L.length:=by omega
     have HO5:=Lib.hid (show Own w5 w.heap.size 76 2 v5 L.length (L.flatMap spanC) by
      have h:=hown5
      rw [hl5,<- List.flatMap_append,HTK.out] at h
      exact h.lower (by have:=HXR.out.size;have:=HD2.out;omega))
     have HB5:=Lib.hid (fun b (hb:ownBlk v5 b)=>show W2.heap.size<=b from (hown5.base_le hb).1)
     have HBO:=Lib.hid (fun b (hb:ownBlk (.slice E O.length ec) b)=>show b < W2.heap.size by have:=(HDO.out.base_le hb).2;have:=HD2.out;omega)
     obtain⟨C5,c5,hv5,-,-⟩:=HO5.out.form
     subst hv5
     have hDl:(D++[x]).length+L.length=N:=by simp only [List.length_append,List.length_cons,List.length_nil] at hR12 ⊢;omega
     have hszo:=HXW5.out.size
     obtain⟨x0,x1⟩:w5.cell? ⟨gx,0,none⟩=some (I x.1)/\w5.cell? ⟨gx,1,none⟩=some (I x.2):=⟨(HRX.out.ext hx5).cell (j:=0) rfl,(HRX.out.ext hx5).cell (j:=1) rfl⟩
     clear hown5 hgr5 h45 hx5 hl5 h49 hA9 HSR he hv45
     have hOl:O.length<=2000000:=by omega
     rcases List.eq_nil_or_concat O with rfl | ⟨Q,s,hQ⟩
     case inl =>
      have HNS:=Lib.hid (show (D++[x]).foldl gstep [] = [x] by rw [gfold_snoc,HOE.out];rfl)
      have e1:¬ (0:Int) > 0:=by omega
      go_wp2_with fail
      go_quiet (fail)
      go_wp2_with (at_builtin;refine wpList_append_Own rfl (.tmp 80) (.tmp 82) 41 rfl w.heap.size 76 2 16 (spanV (0,0)) Tryz.underlying41 info_span rfl (by omega) _ 0 [] rfl (HDO.out.ext ((HXW5.out.drewN _).alloc _)) _ 1 1 [I x.1,I x.2] rfl (Src.new rfl (by intro u hu;simp at hu;rcases hu with rfl | rfl <;> rfl)) (by omega) (by omega) (by simp;have:=HXR.out.size;omega) ?_;intro v6 w6 hown6 hgr6)
      go_roundw
      case rel =>
       have hx6:=Ext.grewOwn (((HXR.out.trans HXW5.out).drewN _).alloc _) hgr6 (HDO.out.ext ((HXW5.out.drewN _).alloc _)) (Nat.le_refl _)
       obtain⟨q1,q2⟩:=apart_keep HO5.out HB5.out HBO.out (((Ext.refl _).drewN _).alloc _) hgr6
       exact⟨L,D++[x],q1,by rw [HNS.out];simpa [spanC] using hown6,q2,hDl,Lib.hid HNX.out,hx6⟩
      case measure=>show L.length < R.length;omega
     case inr =>
      rw [List.concat_eq_append] at hQ
      subst hQ
      obtain⟨N0,hN0⟩:∃ N0,(Q++[s]).length=N0:=⟨_,rfl⟩
      obtain⟨M0,hM0⟩:∃ M0,Q.length=M0:=⟨_,rfl⟩
      have hNM:N0=M0+1:=by rw [<- hN0,<- hM0];simp
      have hca:=spanC_at Q [] s
      rw [hM0] at hca
      obtain⟨ge,ce,cur,hEE,hbe,hge,-,-,-,-,-⟩:=HDO.out.pos (by simp)
      rw [hN0] at HDO HBO hEE hOl ⊢
      injection hEE with hE1 hE2 hE3
      subst hE1
      subst hE3
      have s1:w5.cell? ⟨ge,M0 * 2+1,none⟩=some (I s.2):=HXW5.out.cell (HDO.out.cell rfl hca.2)
      have z1:w5.frozen? ⟨ge,M0 * 2+1,none⟩=false:=(HXW5.out.frozen hge).trans (by
       obtain⟨g',cap',tail,e',-,hrow,-⟩:=HDO.out.row (by omega)
       cases e'
       exact hrow.frozen _)
      have HBE:=Lib.hid hbe
      have HGE:=Lib.hid hge
      have k0:(0:Int)<=M0:=by omega
      have k1:(M0:Int) < N0:=by omega
      have k2:(N0:Int) > 0:=by omega
      have k3:0 < N0:=by omega
      have k3d:decide ((N0:Int) > 0)=true:=decide_eq_true k2
      have k4:IntKind.i64.wrap ((N0:Int) - 1)=M0:=by rw [show (N0:Int) - 1=M0 by omega];exact wrap_small _ (by omega) (by omega)
      have k8:((M0:Int)).toNat=M0:=by omega
      have HNM:=Lib.hid (And.intro hNM (And.intro hN0 hM0))
      clear hNM hN0 hM0 hca hE2 hbe hge cur
      by_cases hle:x.1<=s.2
      case neg =>
       have e2:decide (x.1<=s.2)=false:=decide_eq_false hle
       have HNS:=Lib.hid (show (D++[x]).foldl gstep []=Q++[s]++[x] by rw [gfold_snoc,HOE.out];unfold gstep;simp [hle])
       go_wp2_with fail
       go_quiet (fail)
       go_wp2_with (at_builtin;refine wpList_append_Own rfl (.tmp 80) (.tmp 82) 41 rfl w.heap.size 76 2 16 (spanV (0,0)) Tryz.underlying41 info_span rfl (by omega) _ N0 ((Q++[s]).flatMap spanC) rfl (HDO.out.ext ((HXW5.out.drewN _).alloc _)) _ 1 1 [I x.1,I x.2] rfl (Src.new rfl (by intro u hu;simp at hu;rcases hu with rfl | rfl <;> rfl)) (by omega) (by omega) (by simp;have:=HXR.out.size;omega) ?_;intro v6 w6 hown6 hgr6)
       go_roundw
       case rel =>
        have hx6:=Ext.grewOwn (((HXR.out.trans HXW5.out).drewN _).alloc _) hgr6 (HDO.out.ext ((HXW5.out.drewN _).alloc _)) (Nat.le_refl _)
        obtain⟨q1,q2⟩:=apart_keep HO5.out HB5.out HBO.out (((Ext.refl _).drewN _).alloc _) hgr6
        exact⟨L,D++[x],q1,by rw [HNS.out];have e:(Q++[s]++[x]).length=N0+1:=(by rw [List.length_append,HNM.out.2.1];rfl);rw [e];simpa [spanC] using hown6,q2,hDl,Lib.hid HNX.out,hx6⟩
       case measure=>show L.length < R.length;omega
      case pos =>
       have e2:decide (x.1<=s.2)=true:=decide_eq_true hle
       have HNS:=Lib.hid (show (D++[x]).foldl gstep []=Q++[(s.1,max s.2 x.2)] by rw [gfold_snoc,HOE.out];unfold gstep;simp [hle])
       go_wp2_with fail
       go_quiet (fail)
       go_wp2_with fail
       obtain⟨W6,hW6⟩:∃ W6,(w5.drewN nq).drew=W6:=⟨_,rfl⟩
       have hx6:Ext w5 W6:=hW6 ▸ ((Ext.refl _).drewN _).drew
       have s1':=hx6.cell s1
       have x1':=hx6.cell x1
       have z1':=(hx6.frozen (blk_of_cell s1)).trans z1
       have HW6:=Lib.hid hW6
       have HX6:=Lib.hid hx6
       clear hW6 hx6 s1 x1 z1 x0
       refine wp_region_still_tail 12 (by kernel_rfl) (by kernel_rfl) ?_
       simp only [List.take_succ_cons,List.take_zero,List.drop_succ_cons,List.drop_zero]
       change wpStill _ _ (w5.drewN nq).drew (fun a'=>wpList _ _ _ _ a' (w5.drewN nq).drew) _ _
       rw [HW6.out]
       generalize hA:Act.mk _ _=A0;repeat (refine wpStill_step (fun K2 hK2=>?_);subst hA;go_simp;generalize hA:Act.mk _ _=A0;refine hK2 A0 ?_;clear hK2 K2)
       refine wpStill_nil ?_
       subst hA
       go_wp2_with fail
       go_roundw
       case rel =>
        obtain⟨e1,e3,e4⟩:=HNM.out
        have ho6:=HDO.out.ext (HXW5.out.trans HX6.out)
        rw [e1] at ho6 ⊢
        have ho7:=Own.setTo e4.symm ho6 (b':=max s.2 x.2)
        have hq:(Q++[(s.1,max s.2 x.2)]).length=M0+1:=by rw [<- e4];simp
        refine ⟨L,D++[x],(HO5.out.ext HX6.out).keep fun b hb _=>Below.heap_setCell _ _ _ b ?_,by rw [HNS.out,hq];exact ho7,fun b hb ho=>?_,hDl,Lib.hid HNX.out,((HXR.out.trans HXW5.out).trans HX6.out).set (p:=⟨ge,M0 * 2+1,none⟩) HBE.out _⟩
        ·show b ≠ ge
         have h1:=HB5.out b hb
         have h2:=HGE.out
         have h3:=HD2.out
         omega
        ·have h1:=HB5.out b hb
         have h2:=HBO.out b (by rw [e1];exact ho)
         omega
       case measure=>show L.length < R.length;omega
theorem maxU8 (a b:Nat):(Value.int .u8 (max (a:Int) b))=U8 (max a b):=by
 rw [show (max (a:Int) b)=((max a b:Nat):Int) by omega]
theorem maxU (a b:Nat):(Value.int .u64 (max (a:Int) b))=U (max a b):=by
 rw [show (max (a:Int) b)=((max a b:Nat):Int) by omega]
theorem rpwF_len (w:Word):∀ (l:List Word) (d:Bool),(rpwF w d l).length<=l.length+(if d then 0 else 1)
 | [],d=>by cases d <;> simp [rpwF]
 | x :: l,d=>by
  rw [rpwF]
  have h1:=rpwF_len w l true
  have h2:=rpwF_len w l d
  simp only [if_true] at h1
  split
  ·simp only [List.length_cons];omega
  ·split
   ·rename_i h;cases d <;> simp_all
   ·simp only [List.length_cons];omega
theorem rpw_len (w:Word) (l:List Word):(rpw l w).length<=l.length+1:=by unfold rpw;simpa using rpwF_len w l false
theorem rpw_low {P:Word->Prop} {w:Word} (hw:P w) (hs:∀ x,P x->P (saidM x w)) {l:List Word} (hl:∀ x ∈ l,P x):∀ y ∈ rpw l w,P y:=by
 have aux:∀ (l:List Word) (d:Bool),(∀ x ∈ l,P x)->∀ y ∈ rpwF w d l,P y:=by
  intro l
  induction l with
  | nil =>
   intro d _ y hy
   cases d
   ·rw [rpwF] at hy
    rw [List.mem_singleton.1 hy]
    exact hw
   ·cases hy
  | cons x l ih =>
   intro d hl y hy
   have hx:=hl x (by simp)
   have hr:=fun z hz=>hl z (List.mem_cons_of_mem x hz)
   rw [rpwF] at hy
   split at hy
   ·rcases List.mem_cons.1 hy with rfl | hy
    ·exact hs x hx
    ·exact ih _ hr y hy
   ·split at hy
    ·rcases List.mem_cons.1 hy with rfl | hy
     ·exact hw
     ·rcases List.mem_cons.1 hy with rfl | hy
      ·exact hx
      ·exact ih _ hr y hy
    ·rcases List.mem_cons.1 hy with rfl | hy
     ·exact hx
     ·exact ih _ hr y hy
 exact aux l false hl
theorem refJoined_any {S S':Nat->Prop} {x y:Mbr} {v1 v2 u1 u2:Value} {w:World} (hx1:Sl spanT w S v1 x.gone) (hx2:Sl wordT w S v2 x.words) (hy1:Sl spanT w S' u1 y.gone) (hy2:Sl wordT w S' u2 y.words)
  (nx:NiceM x) (ny:NiceM y) (hgx:x.gone.length<=1000000) (hgy:y.gone.length<=1000000) (hwx:x.words.length<=400000) (hwy:y.words.length<=400000) (hkx:x.plan.keeper.length < 1073741824) (hky:y.plan.keeper.length < 1073741824)
  (hlx:∀ s ∈ x.words,s.of.length < 1073741824/\s.keeper.length < 1073741824) (hly:∀ s ∈ y.words,s.of.length < 1073741824/\s.keeper.length < 1073741824) :
  Calls Tryz.prog 45 #[mbrV x v1 v2,mbrV y u1 u2] w fun e w'=>∃ g ws,e=.returned (mbrV (joinedM x y) g ws)/\Sl spanT w' (fun _=>True) g (joinedM x y).gone/\Sl wordT w' (fun _=>True) ws (joinedM x y).words/\Ext w w':=by
 obtain⟨A1,a1,rfl,-,-⟩:=hx1.form
 obtain⟨A2,a2,rfl,-,-⟩:=hx2.form
 obtain⟨B1,b1,rfl,-,-⟩:=hy1.form
 obtain⟨B2,b2,rfl,-,-⟩:=hy2.form
 have rA:=((rowNew w 48 [St x.path,U8 x.status,I x.kids,I x.cut,U x.last,.slice A1 x.gone.length a1,St x.plan.keeper,U x.plan.round,St x.plan.live,St x.plan.by_,U x.plan.cap,St x.plan.owner,U x.plan.base,.bool x.plan.done,.slice A2 x.words.length a2]).alloc (.cells #[St y.path,U8 y.status,I y.kids,I y.cut,U y.last,.slice B1 y.gone.length b1,St y.plan.keeper,U y.plan.round,St y.plan.live,St y.plan.by_,U y.plan.cap,St y.plan.owner,U y.plan.base,.bool y.plan.done,.slice B2 y.words.length b2] 48)).alloc (.cells #[St [],.int .u8 0,.int .i64 0,.int .i64 0,.int .u64 0,.slice none 0 0,St [],.int .u64 0,St [],St [],.int .u64 0,St [],.int .u64 0,.bool false,.slice none 0 0] 48)
 have rB:=(rowNew (w.alloc (.cells #[St x.path,U8 x.status,I x.kids,I x.cut,U x.last,.slice A1 x.gone.length a1,St x.plan.keeper,U x.plan.round,St x.plan.live,St x.plan.by_,U x.plan.cap,St x.plan.owner,U x.plan.base,.bool x.plan.done,.slice A2 x.words.length a2] 48)) 48 [St y.path,U8 y.status,I y.kids,I y.cut,U y.last,.slice B1 y.gone.length b1,St y.plan.keeper,U y.plan.round,St y.plan.live,St y.plan.by_,U y.plan.cap,St y.plan.owner,U y.plan.base,.bool y.plan.done,.slice B2 y.words.length b2]).alloc (.cells #[St [],.int .u8 0,.int .i64 0,.int .i64 0,.int .u64 0,.slice none 0 0,St [],.int .u64 0,St [],St [],.int .u64 0,St [],.int .u64 0,.bool false,.slice none 0 0] 48)
 have rZ:=rowNew ((w.alloc (.cells #[St x.path,U8 x.status,I x.kids,I x.cut,U x.last,.slice A1 x.gone.length a1,St x.plan.keeper,U x.plan.round,St x.plan.live,St x.plan.by_,U x.plan.cap,St x.plan.owner,U x.plan.base,.bool x.plan.done,.slice A2 x.words.length a2] 48)).alloc (.cells #[St y.path,U8 y.status,I y.kids,I y.cut,U y.last,.slice B1 y.gone.length b1,St y.plan.keeper,U y.plan.round,St y.plan.live,St y.plan.by_,U y.plan.cap,St y.plan.owner,U y.plan.base,.bool y.plan.done,.slice B2 y.words.length b2] 48)) 48 [St [],.int .u8 0,.int .i64 0,.int .i64 0,.int .u64 0,.slice none 0 0,St [],.int .u64 0,St [],St [],.int .u64 0,St [],.int .u64 0,.bool false,.slice none 0 0]
 have xW:=(((Ext.refl w).alloc (.cells #[St x.path,U8 x.status,I x.kids,I x.cut,U x.last,.slice A1 x.gone.length a1,St x.plan.keeper,U x.plan.round,St x.plan.live,St x.plan.by_,U x.plan.cap,St x.plan.owner,U x.plan.base,.bool x.plan.done,.slice A2 x.words.length a2] 48)).alloc (.cells #[St y.path,U8 y.status,I y.kids,I y.cut,U y.last,.slice B1 y.gone.length b1,St y.plan.keeper,U y.plan.round,St y.plan.live,St y.plan.by_,U y.plan.cap,St y.plan.owner,U y.plan.base,.bool y.plan.done,.slice B2 y.words.length b2] 48)).alloc (.cells #[St [],.int .u8 0,.int .i64 0,.int .i64 0,.int .u64 0,.slice none 0 0,St [],.int .u64 0,St [],St [],.int .u64 0,St [],.int .u64 0,.bool false,.slice none 0 0] 48)
 simp only [World.size_alloc] at rB rZ
 obtain⟨W0,hW0⟩:∃ W0,(((w.alloc (.cells #[St x.path,U8 x.status,I x.kids,I x.cut,U x.last,.slice A1 x.gone.length a1,St x.plan.keeper,U x.plan.round,St x.plan.live,St x.plan.by_,U x.plan.cap,St x.plan.owner,U x.plan.base,.bool x.plan.done,.slice A2 x.words.length a2] 48)).alloc (.cells #[St y.path,U8 y.status,I y.kids,I y.cut,U y.last,.slice B1 y.gone.length b1,St y.plan.keeper,U y.plan.round,St y.plan.live,St y.plan.by_,U y.plan.cap,St y.plan.owner,U y.plan.base,.bool y.plan.done,.slice B2 y.words.length b2] 48)).alloc (.cells #[St [],.int .u8 0,.int .i64 0,.int .i64 0,.int .u64 0,.slice none 0 0,St [],.int .u64 0,St [],St [],.int .u64 0,St [],.int .u64 0,.bool false,.slice none 0 0] 48))=W0:=⟨_,rfl⟩
 have hs0:W0.heap.size=w.heap.size+1+1+1:=by rw [<- hW0];simp
 rw [hW0] at rA rB rZ xW
 have HW0:=Lib.hid hW0
 have HRA:=Lib.hid rA
 have HRB:=Lib.hid rB
 have HRZ:=Lib.hid rZ
 have HXW:=Lib.hid xW
 have HS0:=Lib.hid hs0
 obtain⟨p,hp⟩:∃ p,laterM x.plan y.plan=p:=⟨_,rfl⟩
 have HP:=Lib.hid hp
 have HLA:=Lib.hid (fun V=>show Calls Tryz.prog 113 #[.agg #[St x.plan.keeper,U x.plan.round,St x.plan.live,St x.plan.by_,U x.plan.cap,St x.plan.owner,U x.plan.base,.bool x.plan.done],.agg #[St y.plan.keeper,U y.plan.round,St y.plan.live,St y.plan.by_,U y.plan.cap,St y.plan.owner,U y.plan.base,.bool y.plan.done]] V (fun e w'=>e=.returned (.agg #[St p.keeper,U p.round,St p.live,St p.by_,U p.cap,St p.owner,U p.base,.bool p.done])/\Ext V w') from by
  have h:=rlater_any x.plan y.plan hkx hky V
  rw [hp] at h
  exact h)
 have HCU:=Lib.hid (fun V=>(rcut_any x.cut y.cut nx.cut ny.cut V).mono (R':=fun e w'=>e=.returned (I (lesserM x.cut y.cut))/\Ext V w') (by rintro e w' ⟨rfl,rfl⟩;exact⟨rfl,Ext.refl _⟩))
 have HGO:=Lib.hid (fun V (he:Ext W0 V)=>refGone_any (hx1.ext (by decide) (xW.trans he)) (hy1.ext (by decide) (xW.trans he)) nx.gone ny.gone hgx hgy)
 have HSX:=Lib.hid (hx2.ext (by decide) xW)
 have HSY:=Lib.hid (hy2.ext (by decide) xW)
 have HWX:=Lib.hid hlx
 have HWY:=Lib.hid hly
 have HKW:=Lib.hid (show y.words.foldl rpw (x.words.foldl rpw [])=(joinedM x y).words from wjoin_is nx.words ny.words)
 have HGN:=Lib.hid (show (joinedM x y).gone=spansM x.gone y.gone from rfl)
 clear rA rB rZ xW hW0 hp hx1 hx2 hy1 hy2 nx ny hkx hky hlx hly hs0
 obtain⟨K1,hK1⟩:∃ K1,x.words.foldl rpw []=K1:=⟨_,rfl⟩
 obtain⟨K2,hK2⟩:∃ K2,y.words.foldl rpw K1=K2:=⟨_,rfl⟩
 have HK1:=Lib.hid hK1
 have HK2:=Lib.hid hK2
 clear hK1 hK2
 unfold mbrV
 go_enter Tryz.func45,Tryz.ntmps45
 go_wp2_with fail
 rw [HW0.out]
 clear HW0
 refine wp_region_facts ((fun v _=>v=.pointer (some ⟨w.heap.size,0,none⟩)) :: (fun v _=>v=St x.path) :: (fun v _=>v=.pointer (some ⟨w.heap.size,1,none⟩)) :: (fun v _=>v=U8 x.status) :: (fun v _=>v=.pointer (some ⟨w.heap.size+1,1,none⟩)) :: (fun v _=>v=U8 y.status) :: (fun v _=>v=U8 (max x.status y.status)) :: (fun v _=>v=.pointer (some ⟨w.heap.size,2,none⟩)) :: (fun v _=>v=I x.kids) :: (fun v _=>v=.pointer (some ⟨w.heap.size+1,2,none⟩)) :: (fun v _=>v=I y.kids) :: (fun v _=>v=I (max x.kids y.kids)) :: (fun v _=>v=.pointer (some ⟨w.heap.size,3,none⟩)) :: (fun v _=>v=I x.cut) :: (fun v _=>v=.pointer (some ⟨w.heap.size+1,3,none⟩)) :: (fun v _=>v=I y.cut) :: (fun v _=>v=I (lesserM x.cut y.cut)) :: (fun v _=>v=.pointer (some ⟨w.heap.size,4,none⟩)) :: (fun v _=>v=U x.last) :: (fun v _=>v=.pointer (some ⟨w.heap.size+1,4,none⟩)) :: (fun v _=>v=U y.last) :: (fun v _=>v=U (max x.last y.last)) :: (fun v _=>v=.pointer (some ⟨w.heap.size,5,none⟩)) :: (fun v _=>v=.slice A1 x.gone.length a1) :: (fun v _=>v=.pointer (some ⟨w.heap.size+1,5,none⟩)) :: (fun v _=>v=.slice B1 y.gone.length b1) :: (fun v W=>∃ G gc,v=.slice G (spansM x.gone y.gone).length gc/\Own W W0.heap.size 76 2 (.slice G (spansM x.gone y.gone).length gc) (spansM x.gone y.gone).length ((spansM x.gone y.gone).flatMap spanC)) :: (fun v _=>v=.pointer (some ⟨w.heap.size,6,none⟩)) :: (fun v _=>v=.agg #[St x.plan.keeper,U x.plan.round,St x.plan.live,St x.plan.by_,U x.plan.cap,St x.plan.owner,U x.plan.base,.bool x.plan.done]) :: (fun v _=>v=.pointer (some ⟨w.heap.size+1,6,none⟩)) :: (fun v _=>v=.agg #[St y.plan.keeper,U y.plan.round,St y.plan.live,St y.plan.by_,U y.plan.cap,St y.plan.owner,U y.plan.base,.bool y.plan.done]) :: (fun v _=>v=.agg #[St p.keeper,U p.round,St p.live,St p.by_,U p.cap,St p.owner,U p.base,.bool p.done]) :: (fun v W=>∃ G gc,v=.agg #[St x.path,U8 (max x.status y.status),I (max x.kids y.kids),I (lesserM x.cut y.cut),U (max x.last y.last),.slice G (spansM x.gone y.gone).length gc,St p.keeper,U p.round,St p.live,St p.by_,U p.cap,St p.owner,U p.base,.bool p.done,.slice none 0 0]/\Own W W0.heap.size 76 2 (.slice G (spansM x.gone y.gone).length gc) (spansM x.gone y.gone).length ((spansM x.gone y.gone).flatMap spanC)) :: (fun v W=>∃ g,v=.pointer (some ⟨g,0,none⟩)/\W0.heap.size<=g/\RowIs W g 48 [St [],.int .u8 0,.int .i64 0,.int .i64 0,.int .u64 0,.slice none 0 0,St [],.int .u64 0,St [],St [],.int .u64 0,St [],.int .u64 0,.bool false,.slice none 0 0] []) :: []) rfl (by kernel_rfl) ?hR ?hstep ?hend
 case hR =>
  simp only [List.mem_cons,List.not_mem_nil,or_false,forall_eq_or_imp,forall_eq]
  exact⟨fun v _ _ h _=>h,fun v _ _ h _=>h,fun v _ _ h _=>h,fun v _ _ h _=>h,fun v _ _ h _=>h,fun v _ _ h _=>h,fun v _ _ h _=>h,fun v _ _ h _=>h,fun v _ _ h _=>h,fun v _ _ h _=>h,fun v _ _ h _=>h,fun v _ _ h _=>h,fun v _ _ h _=>h,fun v _ _ h _=>h,fun v _ _ h _=>h,fun v _ _ h _=>h,fun v _ _ h _=>h,fun v _ _ h _=>h,fun v _ _ h _=>h,fun v _ _ h _=>h,fun v _ _ h _=>h,fun v _ _ h _=>h,fun v _ _ h _=>h,fun v _ _ h _=>h,fun v _ _ h _=>h,fun v _ _ h _=>h,fun v _ _ h he=>by obtain⟨G,gc,h1,h2⟩:=h;exact⟨G,gc,h1,h2.ext he⟩,fun v _ _ h _=>h,fun v _ _ h _=>h,fun v _ _ h _=>h,fun v _ _ h _=>h,fun v _ _ h _=>h,fun v _ _ h he=>by obtain⟨G,gc,h1,h2⟩:=h;exact⟨G,gc,h1,h2.ext he⟩,fun v _ _ h he=>by obtain⟨g,h1,h2,h3⟩:=h;exact⟨g,h1,h2,h3.ext he⟩⟩
 case hstep =>
  simp only [List.length_cons,List.length_nil,Nat.reduceAdd,List.take_succ_cons,List.take_zero,stepsAll,and_true]
  refine ⟨?_,?_,?_,?_,?_,?_,?_,?_,?_,?_,?_,?_,?_,?_,?_,?_,?_,?_,?_,?_,?_,?_,?_,?_,?_,?_,?_,?_,?_,?_,?_,?_,?_,?_⟩
  ·intro z V he f
   have h0:z 2=.pointer (some ⟨w.heap.size,0,none⟩):=f.1
   clear f
   go_wp
   exact stepQ_ok rfl (Ext.refl _)
  ·intro z V he f
   have h0:z 8=.pointer (some ⟨w.heap.size,0,none⟩):=f.1
   clear f
   have c:=(HRA.out.ext he).cell (j:=0) rfl
   go_wp
   exact stepQ_ok rfl (Ext.refl _)
  ·intro z V he f
   have h0:z 2=.pointer (some ⟨w.heap.size,0,none⟩):=f.1
   clear f
   go_wp
   exact stepQ_ok rfl (Ext.refl _)
  ·intro z V he f
   have h0:z 10=.pointer (some ⟨w.heap.size,1,none⟩):=f.1
   clear f
   have c:=(HRA.out.ext he).cell (j:=1) rfl
   go_wp
   exact stepQ_ok rfl (Ext.refl _)
  ·intro z V he f
   have h0:z 3=.pointer (some ⟨w.heap.size+1,0,none⟩):=f.1
   clear f
   go_wp
   exact stepQ_ok rfl (Ext.refl _)
  ·intro z V he f
   have h0:z 12=.pointer (some ⟨w.heap.size+1,1,none⟩):=f.1
   clear f
   have c:=(HRB.out.ext he).cell (j:=1) rfl
   go_wp
   exact stepQ_ok rfl (Ext.refl _)
  ·intro z V he f
   have h0:z 11=U8 x.status:=f.1
   have h1:z 13=U8 y.status:=f.2.1
   clear f
   go_wp
   exact stepQ_ok (maxU8 _ _) (Ext.refl _)
  ·intro z V he f
   have h0:z 2=.pointer (some ⟨w.heap.size,0,none⟩):=f.1
   clear f
   go_wp
   exact stepQ_ok rfl (Ext.refl _)
  ·intro z V he f
   have h0:z 15=.pointer (some ⟨w.heap.size,2,none⟩):=f.1
   clear f
   have c:=(HRA.out.ext he).cell (j:=2) rfl
   go_wp
   exact stepQ_ok rfl (Ext.refl _)
  ·intro z V he f
   have h0:z 3=.pointer (some ⟨w.heap.size+1,0,none⟩):=f.1
   clear f
   go_wp
   exact stepQ_ok rfl (Ext.refl _)
  ·intro z V he f
   have h0:z 17=.pointer (some ⟨w.heap.size+1,2,none⟩):=f.1
   clear f
   have c:=(HRB.out.ext he).cell (j:=2) rfl
   go_wp
   exact stepQ_ok rfl (Ext.refl _)
  ·intro z V he f
   have h0:z 16=I x.kids:=f.1
   have h1:z 18=I y.kids:=f.2.1
   clear f
   go_wp
   exact stepQ_ok (rfl) (Ext.refl _)
  ·intro z V he f
   have h0:z 2=.pointer (some ⟨w.heap.size,0,none⟩):=f.1
   clear f
   go_wp
   exact stepQ_ok rfl (Ext.refl _)
  ·intro z V he f
   have h0:z 20=.pointer (some ⟨w.heap.size,3,none⟩):=f.1
   clear f
   have c:=(HRA.out.ext he).cell (j:=3) rfl
   go_wp
   exact stepQ_ok rfl (Ext.refl _)
  ·intro z V he f
   have h0:z 3=.pointer (some ⟨w.heap.size+1,0,none⟩):=f.1
   clear f
   go_wp
   exact stepQ_ok rfl (Ext.refl _)
  ·intro z V he f
   have h0:z 22=.pointer (some ⟨w.heap.size+1,3,none⟩):=f.1
   clear f
   have c:=(HRB.out.ext he).cell (j:=3) rfl
   go_wp
   exact stepQ_ok rfl (Ext.refl _)
  ·intro z V he f
   have h0:z 21=I x.cut:=f.1
   have h1:z 23=I y.cut:=f.2.1
   clear f
   go_wp
   refine (HCU.out V).mono ?_;rintro e w6 ⟨rfl,hb1⟩
   dsimp only
   go_wp
   refine stepQ_ok (v:=I (lesserM x.cut y.cut)) ?_ hb1
   rfl
  ·intro z V he f
   have h0:z 2=.pointer (some ⟨w.heap.size,0,none⟩):=f.1
   clear f
   go_wp
   exact stepQ_ok rfl (Ext.refl _)
  ·intro z V he f
   have h0:z 25=.pointer (some ⟨w.heap.size,4,none⟩):=f.1
   clear f
   have c:=(HRA.out.ext he).cell (j:=4) rfl
   go_wp
   exact stepQ_ok rfl (Ext.refl _)
  ·intro z V he f
   have h0:z 3=.pointer (some ⟨w.heap.size+1,0,none⟩):=f.1
   clear f
   go_wp
   exact stepQ_ok rfl (Ext.refl _)
  ·intro z V he f
   have h0:z 27=.pointer (some ⟨w.heap.size+1,4,none⟩):=f.1
   clear f
   have c:=(HRB.out.ext he).cell (j:=4) rfl
   go_wp
   exact stepQ_ok rfl (Ext.refl _)
  ·intro z V he f
   have h0:z 26=U x.last:=f.1
   have h1:z 28=U y.last:=f.2.1
   clear f
   go_wp
   exact stepQ_ok (maxU _ _) (Ext.refl _)
  ·intro z V he f
   have h0:z 2=.pointer (some ⟨w.heap.size,0,none⟩):=f.1
   clear f
   go_wp
   exact stepQ_ok rfl (Ext.refl _)
  ·intro z V he f
   have h0:z 30=.pointer (some ⟨w.heap.size,5,none⟩):=f.1
   clear f
   have c:=(HRA.out.ext he).cell (j:=5) rfl
   go_wp
   exact stepQ_ok rfl (Ext.refl _)
  ·intro z V he f
   have h0:z 3=.pointer (some ⟨w.heap.size+1,0,none⟩):=f.1
   clear f
   go_wp
   exact stepQ_ok rfl (Ext.refl _)
  ·intro z V he f
   have h0:z 32=.pointer (some ⟨w.heap.size+1,5,none⟩):=f.1
   clear f
   have c:=(HRB.out.ext he).cell (j:=5) rfl
   go_wp
   exact stepQ_ok rfl (Ext.refl _)
  ·intro z V he f
   have h0:z 31=.slice A1 x.gone.length a1:=f.1
   have h1:z 33=.slice B1 y.gone.length b1:=f.2.1
   clear f
   have hsz:=he.size
   go_wp
   refine (HGO.out V he).mono ?_
   rintro e w6 ⟨v6,rfl,ho6,hb1⟩
   obtain⟨G,gc,rfl,-,-⟩:=ho6.form
   dsimp only
   go_wp
   exact stepQ_ok ⟨G,gc,rfl,ho6.lower hsz⟩ hb1
  ·intro z V he f
   have h0:z 2=.pointer (some ⟨w.heap.size,0,none⟩):=f.1
   clear f
   go_wp
   exact stepQ_ok rfl (Ext.refl _)
  ·intro z V he f
   have h0:z 35=.pointer (some ⟨w.heap.size,6,none⟩):=f.1
   clear f
   obtain⟨k0,k1,k2,k3,k4,k5,k6,k7,k8,k9,k10,k11,k12,k13,k14⟩:=(HRA.out.ext he).c15
   clear k0 k1 k2 k3 k4 k5 k14
   go_wp
   exact stepQ_ok rfl (Ext.refl _)
  ·intro z V he f
   have h0:z 3=.pointer (some ⟨w.heap.size+1,0,none⟩):=f.1
   clear f
   go_wp
   exact stepQ_ok rfl (Ext.refl _)
  ·intro z V he f
   have h0:z 37=.pointer (some ⟨w.heap.size+1,6,none⟩):=f.1
   clear f
   obtain⟨k0,k1,k2,k3,k4,k5,k6,k7,k8,k9,k10,k11,k12,k13,k14⟩:=(HRB.out.ext he).c15
   clear k0 k1 k2 k3 k4 k5 k14
   go_wp
   exact stepQ_ok rfl (Ext.refl _)
  ·intro z V he f
   have h0:z 36=.agg #[St x.plan.keeper,U x.plan.round,St x.plan.live,St x.plan.by_,U x.plan.cap,St x.plan.owner,U x.plan.base,.bool x.plan.done]:=f.1
   have h1:z 38=.agg #[St y.plan.keeper,U y.plan.round,St y.plan.live,St y.plan.by_,U y.plan.cap,St y.plan.owner,U y.plan.base,.bool y.plan.done]:=f.2.1
   clear f
   go_wp
   refine (HLA.out V).mono ?_;rintro e w6 ⟨rfl,hb1⟩
   dsimp only
   go_wp
   refine stepQ_ok (v:=.agg #[St p.keeper,U p.round,St p.live,St p.by_,U p.cap,St p.owner,U p.base,.bool p.done]) ?_ hb1
   rfl
  ·intro z V he f
   have h0:z 9=St x.path:=f.1
   have h1:z 14=U8 (max x.status y.status):=f.2.1
   have h2:z 19=I (max x.kids y.kids):=f.2.2.1
   have h3:z 24=I (lesserM x.cut y.cut):=f.2.2.2.1
   have h4:z 29=U (max x.last y.last):=f.2.2.2.2.1
   obtain⟨G,gc,h5,ho⟩:∃ G gc,z 34=.slice G (spansM x.gone y.gone).length gc/\Own V W0.heap.size 76 2 (.slice G (spansM x.gone y.gone).length gc) (spansM x.gone y.gone).length ((spansM x.gone y.gone).flatMap spanC):=f.2.2.2.2.2.1
   have h6:z 39=.agg #[St p.keeper,U p.round,St p.live,St p.by_,U p.cap,St p.owner,U p.base,.bool p.done]:=f.2.2.2.2.2.2.1
   clear f
   go_wp
   exact stepQ_ok ⟨G,gc,rfl,ho⟩ (Ext.refl _)
  ·intro z V he f
   have hsz:=he.size
   clear f
   go_wp
   exact stepQ_ok ⟨_,rfl,hsz,rowNew V 48 [St [],.int .u8 0,.int .i64 0,.int .i64 0,.int .u64 0,.slice none 0 0,St [],.int .u64 0,St [],St [],.int .u64 0,St [],.int .u64 0,.bool false,.slice none 0 0]⟩ ((Ext.refl _).alloc _)
 case hend =>
  intro z V he f
  simp only [List.take_succ_cons,List.take_zero,List.drop_succ_cons,List.drop_zero,List.filterMap_cons,List.filterMap_nil,List.length_cons,List.length_nil,Nat.reduceAdd] at f ⊢
  obtain⟨G,gc,h40,how⟩:∃ G gc,z 40=.agg #[St x.path,U8 (max x.status y.status),I (max x.kids y.kids),I (lesserM x.cut y.cut),U (max x.last y.last),.slice G (spansM x.gone y.gone).length gc,St p.keeper,U p.round,St p.live,St p.by_,U p.cap,St p.owner,U p.base,.bool p.done,.slice none 0 0]/\Own V W0.heap.size 76 2 (.slice G (spansM x.gone y.gone).length gc) (spansM x.gone y.gone).length ((spansM x.gone y.gone).flatMap spanC):=f.2.2.2.2.2.2.2.2.2.2.2.2.2.2.2.2.2.2.2.2.2.2.2.2.2.2.2.2.2.2.2.2.1
  obtain⟨g,h5,hg0,hrz⟩:∃ g,z 5=.pointer (some ⟨g,0,none⟩)/\W0.heap.size<=g/\RowIs V g 48 [St [],.int .u8 0,.int .i64 0,.int .i64 0,.int .u64 0,.slice none 0 0,St [],.int .u64 0,St [],St [],.int .u64 0,St [],.int .u64 0,.bool false,.slice none 0 0] []:=f.2.2.2.2.2.2.2.2.2.2.2.2.2.2.2.2.2.2.2.2.2.2.2.2.2.2.2.2.2.2.2.2.2.1
  clear f
  simp only [putAll]
  go_simp
  obtain⟨j0,j1,j2,j3,j4,j5,j6,j7,j8,j9,j10,j11,j12,j13,j14⟩:=hrz.c15
  obtain⟨f0,f1,f2,f3,f4,f5,f6,f7,f8,f9,f10,f11,f12,f13,f14⟩:=hrz.f15
  have r1:=put15_mid (W:=V) (g:=g) [] [] hrz (a0:=St x.path) (a1:=U8 (max x.status y.status)) (a2:=I (max x.kids y.kids)) (a3:=I (lesserM x.cut y.cut)) (a4:=U (max x.last y.last)) (a5:=.slice G (spansM x.gone y.gone).length gc) (a6:=St p.keeper) (a7:=U p.round) (a8:=St p.live) (a9:=St p.by_) (a10:=U p.cap) (a11:=St p.owner) (a12:=U p.base) (a13:=.bool p.done) (a14:=.slice none 0 0)
  have b1':=put15_below (w:=W0) (W:=V) (g:=g) (o:=0) (a0:=St x.path) (a1:=U8 (max x.status y.status)) (a2:=I (max x.kids y.kids)) (a3:=I (lesserM x.cut y.cut)) (a4:=U (max x.last y.last)) (a5:=.slice G (spansM x.gone y.gone).length gc) (a6:=St p.keeper) (a7:=U p.round) (a8:=St p.live) (a9:=St p.by_) (a10:=U p.cap) (a11:=St p.owner) (a12:=U p.base) (a13:=.bool p.done) (a14:=.slice none 0 0) he hg0
  have hhp:∀ b,b ≠ g->(put15 V g 0 (St x.path) (U8 (max x.status y.status)) (I (max x.kids y.kids)) (I (lesserM x.cut y.cut)) (U (max x.last y.last)) (.slice G (spansM x.gone y.gone).length gc) (St p.keeper) (U p.round) (St p.live) (St p.by_) (U p.cap) (St p.owner) (U p.base) (.bool p.done) (.slice none 0 0)).heap[b]? = V.heap[b]?:=fun b hb=>put15_heap hb
  simp only [List.nil_append,List.append_nil,List.length_nil] at r1
  have HAP:=Lib.hid (fun (W:World) (xs:List Value) (h:RowIs W g 48 xs []) (ho:Own W W0.heap.size 76 2 (.slice G (spansM x.gone y.gone).length gc) (spansM x.gone y.gone).length ((spansM x.gone y.gone).flatMap spanC))=>show ¬ ownBlk (.slice G (spansM x.gone y.gone).length gc) g from fun hb=>by
   obtain⟨g',n',c',e',hc',rfl⟩:=hb
   rcases ho.2 with ⟨A',e2,-⟩ | ⟨g2,cap,cur,e2,-,hh,-⟩
   ·rw [e'] at e2
    injection e2 with e3 e4 e5
    omega
   ·rw [e'] at e2
    injection e2 with e3 e4 e5
    injection e3 with e3
    injection e3 with e3 e6
    rw [e3] at h
    unfold RowIs at h
    rw [hh] at h
    injection h with h
    injection h with h1 h2 h3
    exact absurd h2 (by decide))
  have hne:=HAP.out V _ hrz how
  have HI1:=Lib.hid (And.intro r1 (And.intro (how.keep (w':=put15 V g 0 (St x.path) (U8 (max x.status y.status)) (I (max x.kids y.kids)) (I (lesserM x.cut y.cut)) (U (max x.last y.last)) (.slice G (spansM x.gone y.gone).length gc) (St p.keeper) (U p.round) (St p.live) (St p.by_) (U p.cap) (St p.owner) (U p.base) (.bool p.done) (.slice none 0 0)) (fun b hb _=>hhp b (fun e=>hne (e ▸ hb)))) b1'))
  have HG0:=Lib.hid hg0
  have hg1:w.heap.size+1+1+1<=g:=by rw [<- HS0.out];exact hg0
  clear hrz r1 b1' hhp hne how h40 h5 hg0 he
  rw [<- put15z_eq] at HI1
  go_wp2_with fail
  go_loopw [6] (fun kv wr=>∃ pw qw Ws vw,x.words=pw++qw/\kv=I pw.length/\RowIs wr g 48 [St x.path,U8 (max x.status y.status),I (max x.kids y.kids),I (lesserM x.cut y.cut),U (max x.last y.last),.slice G (spansM x.gone y.gone).length gc,St p.keeper,U p.round,St p.live,St p.by_,U p.cap,St p.owner,U p.base,.bool p.done,vw] []/\Own wr W0.heap.size 76 2 (.slice G (spansM x.gone y.gone).length gc) (spansM x.gone y.gone).length ((spansM x.gone y.gone).flatMap spanC)/\Sl wordT wr (fun b=>b ≠ g/\W0.heap.size<=b) vw Ws/\Ws.length<=pw.length/\Hid (∀ s ∈ Ws,s.of.length < 1073741824/\s.keeper.length < 1073741824)/\Hid (qw.foldl rpw Ws=K1)/\Ext W0 wr) (fun k _=>x.words.length - (intOf k).toNat)
  case atStart=>exact⟨[],x.words,[],.slice none 0 0,rfl,rfl,HI1.out.1,HI1.out.2.1,Sl.nil _ _ (by omega),Nat.le_refl _,Lib.hid (by simp),Lib.hid HK1.out,HI1.out.2.2⟩
  case round =>
   obtain⟨pw,qw,Ws,vw,hwl,rfl,hrm,how,hsl,hwn,hlow,hfo,hx⟩:=hrel
   obtain⟨D,dd,rfl,-,-⟩:=hsl.form
   have HRM:=Lib.hid hrm
   have HOW:=Lib.hid how
   have HSL:=Lib.hid hsl
   have HX:=Lib.hid hx
   have HLO:=Lib.hid hlow.out
   cases qw with
   | nil =>
    rw [List.append_nil] at hwl
    have HF:=Lib.hid (show Ws=K1 from hfo.out)
    have hge:¬ (pw.length:Int) < x.words.length:=by rw [hwl];omega
    have c14:=(HRA.out.ext hx).cell (j:=14) rfl
    have hwn2:Ws.length<=400000:=by rw [<- hwl] at hwn;omega
    clear hwl hrm how hsl hlow hfo hx hwn
    go_wp2_with fail
    obtain⟨wo,rfl⟩:∃ wo:World,wo=wr:=⟨_,rfl⟩
    go_loopw [7] (fun kv wr=>∃ pw qw Ws vw,y.words=pw++qw/\kv=I pw.length/\RowIs wr g 48 [St x.path,U8 (max x.status y.status),I (max x.kids y.kids),I (lesserM x.cut y.cut),U (max x.last y.last),.slice G (spansM x.gone y.gone).length gc,St p.keeper,U p.round,St p.live,St p.by_,U p.cap,St p.owner,U p.base,.bool p.done,vw] []/\Own wr W0.heap.size 76 2 (.slice G (spansM x.gone y.gone).length gc) (spansM x.gone y.gone).length ((spansM x.gone y.gone).flatMap spanC)/\Sl wordT wr (fun b=>b ≠ g/\W0.heap.size<=b) vw Ws/\Ws.length<=400000+pw.length/\Hid (∀ s ∈ Ws,s.of.length < 1073741824/\s.keeper.length < 1073741824)/\Hid (qw.foldl rpw Ws=K2)/\Ext W0 wr) (fun k _=>y.words.length - (intOf k).toNat)
    case atStart=>exact⟨[],y.words,Ws,_,rfl,rfl,HRM.out,HOW.out,HSL.out,by simp only [List.length_nil];omega,Lib.hid HLO.out,Lib.hid (by rw [HF.out];exact HK2.out),HX.out⟩
    case round =>
     obtain⟨pw,qw,Ws,vw,hwl,rfl,hrm,how,hsl,hwn,hlow,hfo,hx⟩:=hrel
     obtain⟨D,dd,rfl,-,-⟩:=hsl.form
     have HRM:=Lib.hid hrm
     have HOW:=Lib.hid how
     have HSL:=Lib.hid hsl
     have HX:=Lib.hid hx
     have HLO:=Lib.hid hlow.out
     cases qw with
     | nil =>
      rw [List.append_nil] at hwl
      have HF:=Lib.hid (show Ws=K2 from hfo.out)
      have hge:¬ (pw.length:Int) < y.words.length:=by rw [hwl];omega
      have c14:=(HRB.out.ext hx).cell (j:=14) rfl
      have hwn2:Ws.length<=900000:=by rw [<- hwl] at hwn;omega
      clear hwl hrm how hsl hlow hfo hx hwn
      obtain⟨k0,k1,k2,k3,k4,k5,k6,k7,k8,k9,k10,k11,k12,k13,k14⟩:=HRM.out.c15
      obtain⟨j0,j1,j2,j3,j4,j5,j6,j7,j8,j9,j10,j11,j12,j13,j14⟩:=(HRZ.out.ext HX.out).c15
      obtain⟨f0,f1,f2,f3,f4,f5,f6,f7,f8,f9,f10,f11,f12,f13,f14⟩:=(HRZ.out.ext HX.out).f15
      have rr:=HRZ.out.ext HX.out
      have hxw:=HXW.out.trans HX.out
      go_wp2_with fail
      clear k0 k1 k2 k3 k4 k5 k6 k7 k8 k9 k10 k11 k12 k13 k14 j0 j1 j2 j3 j4 j5 j6 j7 j8 j9 j10 j11 j12 j13 j14 f0 f1 f2 f3 f4 f5 f6 f7 f8 f9 f10 f11 f12 f13 f14 c14
      (try simp only [Exit.inBlock,Exit.then])
      change bodyPost Tryz.prog Tryz.f45 _ Exit.ret _ (put15z wr (w.heap.size+1+1) (St x.path) (U8 (max x.status y.status)) (I (max x.kids y.kids)) (I (lesserM x.cut y.cut)) (U (max x.last y.last)) (.slice G (spansM x.gone y.gone).length gc) (St p.keeper) (U p.round) (St p.live) (St p.by_) (U p.cap) (St p.owner) (U p.base) (.bool p.done) (.slice D Ws.length dd))
      rw [put15z_eq]
      have r:=put15_mid (W:=wr) (g:=w.heap.size+1+1) [] [] rr (a0:=St x.path) (a1:=U8 (max x.status y.status)) (a2:=I (max x.kids y.kids)) (a3:=I (lesserM x.cut y.cut)) (a4:=U (max x.last y.last)) (a5:=.slice G (spansM x.gone y.gone).length gc) (a6:=St p.keeper) (a7:=U p.round) (a8:=St p.live) (a9:=St p.by_) (a10:=U p.cap) (a11:=St p.owner) (a12:=U p.base) (a13:=.bool p.done) (a14:=.slice D Ws.length dd)
      have hb:=put15_below (g:=w.heap.size+1+1) (o:=0) (a0:=St x.path) (a1:=U8 (max x.status y.status)) (a2:=I (max x.kids y.kids)) (a3:=I (lesserM x.cut y.cut)) (a4:=U (max x.last y.last)) (a5:=.slice G (spansM x.gone y.gone).length gc) (a6:=St p.keeper) (a7:=U p.round) (a8:=St p.live) (a9:=St p.by_) (a10:=U p.cap) (a11:=St p.owner) (a12:=U p.base) (a13:=.bool p.done) (a14:=.slice D Ws.length dd) hxw (by omega)
      have hhp:∀ b,b ≠ w.heap.size+1+1->(put15 wr (w.heap.size+1+1) 0 (St x.path) (U8 (max x.status y.status)) (I (max x.kids y.kids)) (I (lesserM x.cut y.cut)) (U (max x.last y.last)) (.slice G (spansM x.gone y.gone).length gc) (St p.keeper) (U p.round) (St p.live) (St p.by_) (U p.cap) (St p.owner) (U p.base) (.bool p.done) (.slice D Ws.length dd)).heap[b]? = wr.heap[b]?:=fun b hb=>put15_heap hb
      simp only [List.nil_append,List.append_nil,List.length_nil] at r
      generalize put15 wr (w.heap.size+1+1) 0 (St x.path) (U8 (max x.status y.status)) (I (max x.kids y.kids)) (I (lesserM x.cut y.cut)) (U (max x.last y.last)) (.slice G (spansM x.gone y.gone).length gc) (St p.keeper) (U p.round) (St p.live) (St p.by_) (U p.cap) (St p.owner) (U p.base) (.bool p.done) (.slice D Ws.length dd)=W5 at *
      obtain⟨k0,k1,k2,k3,k4,k5,k6,k7,k8,k9,k10,k11,k12,k13,k14⟩:=r.c15
      refine bodyPost_ret (v:=mbrV (joinedM x y) (.slice G (spansM x.gone y.gone).length gc) (.slice D Ws.length dd)) (by simp [results,Tryz.f45,go_sem,k0,k1,k2,k3,k4,k5,k6,k7,k8,k9,k10,k11,k12,k13,k14,mbrV,joinedM,HP.out]) rfl ?_
      refine ⟨_,_,rfl,?_,?_,hb⟩
      ·exact (own_slSpan (HOW.out.keep (fun b hb _=>hhp b (by have:=(HOW.out.base_le hb).1;have:=HS0.out;omega)))).mono (by decide) (fun _ _ _=>trivial)
      ·rw [<- HKW.out,HK1.out,HK2.out,<- HF.out]
       exact (HSL.out.keep (by decide) (fun b hb _=>hhp b (by have:=hb.2;have:=HS0.out;omega))).mono (by decide) (fun _ _ _=>trivial)
     | cons z qw =>
      have hdx:Ext wr wr.drew:=(Ext.refl _).drew
      obtain⟨Wd,hWd⟩:∃ Wd,wr.drew=Wd:=⟨_,rfl⟩
      rw [hWd] at hdx
      obtain⟨bw,ow,rfl,z0,z1,z2,z3,z4,z5,z6⟩:=word_at HSY.out (hx.trans hdx) hwl
      have hltw:pw.length < y.words.length:=by rw [hwl];simp
      have hltw2:(pw.length:Int) < y.words.length:=by omega
      have hzl:=HWY.out z (by rw [hwl];simp)
      have HPW:=Lib.hid (show Calls Tryz.prog 114 #[.slice D Ws.length dd,.agg #[St z.of,U z.has,St z.keeper,U z.round,.bool z.agreed,U z.cap,.bool z.pruned]] Wd _ from refPutW_any (q:=z) (hsl.ext (by decide) hdx) (by omega) hlow.out hzl.1 hzl.2)
      have c14:=(HRB.out.ext hx).cell (j:=14) rfl
      have c14d:=(HRB.out.ext (hx.trans hdx)).cell (j:=14) rfl
      have m14d:=(hrm.ext hdx).cell (j:=14) rfl
      have HDX:=Lib.hid hdx
      have HWD:=Lib.hid hWd
      have HXL:=Lib.hid hwl
      have HFO:=Lib.hid hfo.out
      have HZL:=Lib.hid hzl
      clear hrm how hsl hlow hfo hx hdx hWd hwl hzl
      go_wp2_with fail
      refine wp_region_still_tail 7 (by kernel_rfl) (by kernel_rfl) ?_
      simp only [List.take_succ_cons,List.take_zero,List.drop_succ_cons,List.drop_zero]
      change wpStill _ _ (wr).drew (fun a'=>wpList _ _ _ _ a' (wr).drew) _ _
      rw [HWD.out]
      generalize hA:Act.mk _ _=A0;repeat (refine wpStill_step (fun K2 hK2=>?_);subst hA;go_simp;generalize hA:Act.mk _ _=A0;refine hK2 A0 ?_;clear hK2 K2)
      refine wpStill_nil ?_
      subst hA
      clear z0 z1 z2 z3 z4 z5 z6 c14 c14d m14d
      go_wp2_with fail
      refine HPW.out.mono ?_
      rintro e w4 ⟨v4,rfl,h4,hx4⟩
      obtain⟨D4,d4,rfl,-,-⟩:=h4.form
      have hrm4:=HRM.out.ext (HDX.out.trans hx4)
      have m14:=hrm4.cell (j:=14) rfl
      have f14:=hrm4.frozen 14
      have HRM4:=Lib.hid hrm4
      have HH4:=Lib.hid (And.intro h4 hx4)
      clear hrm4 h4 hx4
      go_wp2_with fail
      go_roundw
      case rel =>
       have r14:=HRM4.out.set (j:=14) (by simp) (.slice D4 (rpw Ws z).length d4)
       simp only [List.set_cons_succ,List.set_cons_zero] at r14
       have hgd:g < Wd.heap.size:=(HRM.out.ext HDX.out).lt
       have hne:=HAP.out _ _ HRM4.out (HOW.out.ext (HDX.out.trans HH4.out.2))
       exact⟨pw++[z],qw,rpw Ws z,_,by rw [HXL.out];simp,by simp,r14,(HOW.out.ext (HDX.out.trans HH4.out.2)).keep (fun b hb _=>Below.heap_setCell _ _ _ b (fun e=>hne (by have e':b=g:=e;rw [<- e'];exact hb))),(HH4.out.1.mono (S':=fun b=>b ≠ g/\W0.heap.size<=b) (by decide) (fun b _ h=>by have:=HG0.out;omega)).keep (by decide) (fun b hb _=>Below.heap_setCell _ _ _ b hb.1),by have:=rpw_len z Ws;simp only [List.length_append,List.length_cons,List.length_nil];omega,Lib.hid (fun s hs=>rpw_low (P:=fun s=>s.of.length < 1073741824/\s.keeper.length < 1073741824) HZL.out (fun u hu=>⟨hu.1,by unfold saidM;simp only;split;exact HZL.out.2;exact hu.2⟩) HLO.out s hs),Lib.hid HFO.out,((HX.out.trans HDX.out).trans HH4.out.2).set (p:=⟨g,14,none⟩) HG0.out _⟩
      case measure=>simp [intOf];omega
   | cons z qw =>
    have hdx:Ext wr wr.drew:=(Ext.refl _).drew
    obtain⟨Wd,hWd⟩:∃ Wd,wr.drew=Wd:=⟨_,rfl⟩
    rw [hWd] at hdx
    obtain⟨bw,ow,rfl,z0,z1,z2,z3,z4,z5,z6⟩:=word_at HSX.out (hx.trans hdx) hwl
    have hltw:pw.length < x.words.length:=by rw [hwl];simp
    have hltw2:(pw.length:Int) < x.words.length:=by omega
    have hzl:=HWX.out z (by rw [hwl];simp)
    have HPW:=Lib.hid (show Calls Tryz.prog 114 #[.slice D Ws.length dd,.agg #[St z.of,U z.has,St z.keeper,U z.round,.bool z.agreed,U z.cap,.bool z.pruned]] Wd _ from refPutW_any (q:=z) (hsl.ext (by decide) hdx) (by omega) hlow.out hzl.1 hzl.2)
    have c14:=(HRA.out.ext hx).cell (j:=14) rfl
    have c14d:=(HRA.out.ext (hx.trans hdx)).cell (j:=14) rfl
    have m14d:=(hrm.ext hdx).cell (j:=14) rfl
    have HDX:=Lib.hid hdx
    have HWD:=Lib.hid hWd
    have HXL:=Lib.hid hwl
    have HFO:=Lib.hid hfo.out
    have HZL:=Lib.hid hzl
    clear hrm how hsl hlow hfo hx hdx hWd hwl hzl
    go_wp2_with fail
    refine wp_region_still_tail 7 (by kernel_rfl) (by kernel_rfl) ?_
    simp only [List.take_succ_cons,List.take_zero,List.drop_succ_cons,List.drop_zero]
    change wpStill _ _ (wr).drew (fun a'=>wpList _ _ _ _ a' (wr).drew) _ _
    rw [HWD.out]
    generalize hA:Act.mk _ _=A0;repeat (refine wpStill_step (fun K2 hK2=>?_);subst hA;go_simp;generalize hA:Act.mk _ _=A0;refine hK2 A0 ?_;clear hK2 K2)
    refine wpStill_nil ?_
    subst hA
    clear z0 z1 z2 z3 z4 z5 z6 c14 c14d m14d
    go_wp2_with fail
    refine HPW.out.mono ?_
    rintro e w4 ⟨v4,rfl,h4,hx4⟩
    obtain⟨D4,d4,rfl,-,-⟩:=h4.form
    have hrm4:=HRM.out.ext (HDX.out.trans hx4)
    have m14:=hrm4.cell (j:=14) rfl
    have f14:=hrm4.frozen 14
    have HRM4:=Lib.hid hrm4
    have HH4:=Lib.hid (And.intro h4 hx4)
    clear hrm4 h4 hx4
    go_wp2_with fail
    go_roundw
    case rel =>
     have r14:=HRM4.out.set (j:=14) (by simp) (.slice D4 (rpw Ws z).length d4)
     simp only [List.set_cons_succ,List.set_cons_zero] at r14
     have hgd:g < Wd.heap.size:=(HRM.out.ext HDX.out).lt
     have hne:=HAP.out _ _ HRM4.out (HOW.out.ext (HDX.out.trans HH4.out.2))
     exact⟨pw++[z],qw,rpw Ws z,_,by rw [HXL.out];simp,by simp,r14,(HOW.out.ext (HDX.out.trans HH4.out.2)).keep (fun b hb _=>Below.heap_setCell _ _ _ b (fun e=>hne (by have e':b=g:=e;rw [<- e'];exact hb))),(HH4.out.1.mono (S':=fun b=>b ≠ g/\W0.heap.size<=b) (by decide) (fun b _ h=>by have:=HG0.out;omega)).keep (by decide) (fun b hb _=>Below.heap_setCell _ _ _ b hb.1),by have:=rpw_len z Ws;simp only [List.length_append,List.length_cons,List.length_nil];omega,Lib.hid (fun s hs=>rpw_low (P:=fun s=>s.of.length < 1073741824/\s.keeper.length < 1073741824) HZL.out (fun u hu=>⟨hu.1,by unfold saidM;simp only;split;exact HZL.out.2;exact hu.2⟩) HLO.out s hs),Lib.hid HFO.out,((HX.out.trans HDX.out).trans HH4.out.2).set (p:=⟨g,14,none⟩) HG0.out _⟩
    case measure=>simp [intOf];omega
end
section
structure LowJ (n:Nat) (l:List Mbr):Prop where
 len:l.length<=40 * n
 path:∀ x ∈ l,x.path.length<=8192
 gone:∀ x ∈ l,x.gone.length<=8192 * n
 wlen:∀ x ∈ l,x.words.length<=8192 * n
 keeper:∀ x ∈ l,x.plan.keeper.length<=8192
 live:∀ x ∈ l,x.plan.live.length<=1125899906842624
 owner:∀ x ∈ l,x.plan.owner.length<=8192
 words:∀ x ∈ l,∀ s ∈ x.words,s.of.length<=8192/\s.keeper.length<=8192
theorem low_j {l:List Mbr} (h40:l.length<=40) (hlow:∀ x ∈ l,LowM x) (hg:HugeOk l):LowJ 1 l where
 len:=by omega
 path x hx:=(hlow x hx).path
 gone x hx:=by have:=(hlow x hx).gone;omega
 wlen x hx:=by have:=(hlow x hx).wlen;omega
 keeper x hx:=(hlow x hx).keeper
 live x hx:=hg.live x hx
 owner x hx:=(hlow x hx).owner
 words x hx:=(hlow x hx).words
theorem later_one (x y:Plan):laterM x y=x ∨ laterM x y=y:=by
 unfold laterM
 split
 ·exact .inr rfl
 ·exact .inl rfl
theorem LowJ.merge {n m:Nat} {a b:List Mbr} (ha:LowJ n a) (hb:LowJ m b):LowJ (n+m) (mergeL Mbr.path joinedM a b) where
 len:=by have:=mergeL_length (name:=Mbr.path) (both:=joinedM) (a:=a) (b:=b);have:=ha.len;have:=hb.len;omega
 path x hx:=by
  rcases mergeL_mem hx with h | h | ⟨y,hy,z,hz,-,rfl⟩
  ·exact ha.path x h
  ·exact hb.path x h
  ·exact ha.path y hy
 gone x hx:=by
  rcases mergeL_mem hx with h | h | ⟨y,hy,z,hz,-,rfl⟩
  ·have:=ha.gone x h;omega
  ·have:=hb.gone x h;omega
  ·have h1:=spansM_length y.gone z.gone
   have:=ha.gone y hy
   have:=hb.gone z hz
   show (spansM y.gone z.gone).length<=_
   omega
 wlen x hx:=by
  rcases mergeL_mem hx with h | h | ⟨y,hy,z,hz,-,rfl⟩
  ·have:=ha.wlen x h;omega
  ·have:=hb.wlen x h;omega
  ·have h2:=mergeL_length (name:=Word.of) (both:=saidM) (a:=y.words) (b:=z.words)
   have:=ha.wlen y hy
   have:=hb.wlen z hz
   show (mergeL Word.of saidM y.words z.words).length<=_
   omega
 keeper x hx:=by
  rcases mergeL_mem hx with h | h | ⟨y,hy,z,hz,-,rfl⟩
  ·exact ha.keeper x h
  ·exact hb.keeper x h
  ·show (laterM y.plan z.plan).keeper.length<=_
   rcases later_one y.plan z.plan with e | e <;> rw [e]
   ·exact ha.keeper y hy
   ·exact hb.keeper z hz
 live x hx:=by
  rcases mergeL_mem hx with h | h | ⟨y,hy,z,hz,-,rfl⟩
  ·exact ha.live x h
  ·exact hb.live x h
  ·show (laterM y.plan z.plan).live.length<=_
   rcases later_one y.plan z.plan with e | e <;> rw [e]
   ·exact ha.live y hy
   ·exact hb.live z hz
 owner x hx:=by
  rcases mergeL_mem hx with h | h | ⟨y,hy,z,hz,-,rfl⟩
  ·exact ha.owner x h
  ·exact hb.owner x h
  ·show (laterM y.plan z.plan).owner.length<=_
   rcases later_one y.plan z.plan with e | e <;> rw [e]
   ·exact ha.owner y hy
   ·exact hb.owner z hz
 words x hx s hs:=by
  rcases mergeL_mem hx with h | h | ⟨y,hy,z,hz,-,rfl⟩
  ·exact ha.words x h s hs
  ·exact hb.words x h s hs
  ·rcases mergeL_mem (show s ∈ mergeL Word.of saidM y.words z.words from hs) with h | h | ⟨u,hu,v,hv,-,rfl⟩
   ·exact ha.words y hy s h
   ·exact hb.words z hz s h
   ·have h1:=ha.words y hy u hu
    have h2:=hb.words z hz v hv
    refine ⟨h1.1,?_⟩
    show (if firstL (saidL u v) < 0 then v.keeper else u.keeper).length<=_
    split
    ·exact h2.2
    ·exact h1.2
theorem LowJ.ok {n:Nat} {l:List Mbr} (h:LowJ n l) (hn:n<=4):JoinOk l where
 len:=by have:=h.len;omega
 path x hx:=by have:=h.path x hx;omega
 keeper x hx:=by have:=h.keeper x hx;omega
 words x hx z hz:=by have:=h.words x hx z hz;omega
 gone x hx:=by have:=h.gone x hx;omega
 wlen x hx:=by have:=h.wlen x hx;omega
section
variable {a b:List Mbr} (ha:may20 a=true) (hb:may20 b=true)
include ha hb
end
end
section
open Go.RowKit Go.Shelf
theorem rputF_sub (m:Mbr):∀ (l:List Mbr) (d:Bool) (y:Mbr),y ∈ rputF m d l->y=m ∨ y ∈ l
 | [],d,y,h=>by
  rw [rputF] at h
  cases d
  ·exact .inl (List.mem_singleton.1 h)
  ·cases h
 | x :: l,d,y,h=>by
  have ih:=rputF_sub m l
  rw [rputF] at h
  split at h
  ·exact (ih d y h).imp id (List.mem_cons_of_mem _)
  ·split at h
   ·rcases List.mem_cons.1 h with rfl | h
    ·exact .inl rfl
    ·rcases List.mem_cons.1 h with rfl | h
     ·exact .inr (by simp)
     ·exact (ih true y h).imp id (List.mem_cons_of_mem _)
   ·rcases List.mem_cons.1 h with rfl | h
    ·exact .inr (by simp)
    ·exact (ih d y h).imp id (List.mem_cons_of_mem _)
theorem rputF_len (m:Mbr):∀ (l:List Mbr) (d:Bool),(rputF m d l).length<=l.length+(if d then 0 else 1)
 | [],d=>by cases d <;> simp [rputF]
 | x :: l,d=>by
  rw [rputF]
  have h1:=rputF_len m l true
  have h2:=rputF_len m l d
  simp only [if_true] at h1
  split
  ·simp only [List.length_cons];omega
  ·split
   ·rename_i h;cases d <;> simp_all
   ·simp only [List.length_cons];omega
theorem rput_len (l:List Mbr) (m:Mbr):(rput l m).length<=l.length+1:=by unfold rput;simpa using rputF_len m l false
theorem rput_path {l:List Mbr} {m:Mbr} {n:Nat} (hl:∀ x ∈ l,x.path.length < n) (hm:m.path.length < n):∀ x ∈ rput l m,x.path.length < n:=fun x hx=>by
 rcases rputF_sub m l false x hx with rfl | h
 ·exact hm
 ·exact hl x h
theorem refJoin20_any {S S':Nat->Prop} {va vb:Value} {a b:List Mbr} {w:World} (hva:Sl mbrT w S va a) (hvb:Sl mbrT w S' vb b) (ga:GoodL a) (gb:GoodL b) (na:∀ x ∈ a,NiceM x) (nb:∀ x ∈ b,NiceM x) (la:LowJ 1 a) (lb:LowJ 1 b) :
  Calls Tryz.prog 19 #[va,vb] w fun e w'=>∃ v',e=.returned v'/\Sl mbrT w' (fun _=>True) v' (joinL a b)/\Ext w w':=by
 obtain⟨A,ca,rfl,-,-⟩:=hva.form
 obtain⟨B,cb,rfl,-,-⟩:=hvb.form
 have HATA:=Lib.hid (fun (pre post:List Mbr) (x:Mbr) (hl:a=pre++x :: post)=>mbr_at (wr:=w) hva (fun b _ hb=>rfl) hl)
 have HATB:=Lib.hid (fun (pre post:List Mbr) (x:Mbr) (hl:b=pre++x :: post)=>mbr_at (wr:=w) hvb (fun b _ hb=>rfl) hl)
 have HOF:=Lib.hid (fun W (he:Ext w W) q=>refOf_any (hva.ext (by decide) he) q)
 have HKA:=Lib.hid (show a.foldl (fun out y=>rput out y) []=a from rfold_self ga.srt)
 have HKB:=Lib.hid (show b.foldl (fun out y=>rput out (match findP a y.path with | some x=>joinedM x y | none=>y)) a=mergeL Mbr.path joinedM a b from rjoin_is ga.srt gb.srt)
 obtain⟨M,hM⟩:∃ M,mergeL Mbr.path joinedM a b=M:=⟨_,rfl⟩
 obtain⟨K,hK⟩:∃ K,joinL a b=K:=⟨_,rfl⟩
 have HBR:=Lib.hid (fun W v (h:Sl mbrT W (fun _=>True) v M)=>show Calls Tryz.prog 46 #[v] W (fun e w'=>∃ v',e=.returned v'/\Sl mbrT w' (fun _=>True) v' K/\Ext W w') from by
  have lm:=la.merge lb
  rw [<- hM] at h
  have h2:=refBare_any h (ga.merge gb) (by have:=lm.len;omega) (fun x hx=>by have:=lm.path x hx;omega) (fun x hx=>by have:=lm.wlen x hx;omega)
  rw [<- hK]
  exact h2)
 rw [hM] at HKB
 rw [hK]
 have HLA:=Lib.hid la
 have HLB:=Lib.hid lb
 have HNA:=Lib.hid na
 have HNB:=Lib.hid nb
 have hal:a.length<=40:=by have:=la.len;omega
 have hbl:b.length<=40:=by have:=lb.len;omega
 clear hva hvb ga gb na nb la lb hM hK
 go_enter Tryz.func19,Tryz.ntmps19
 go_wp2_with fail
 go_loopw [5,6] (fun ov iv wr=>∃ pre post Q,a=pre++post/\iv=I pre.length/\Sl mbrT wr (fun _=>True) ov Q/\Q.length<=pre.length/\Hid (∀ x ∈ Q,x.path.length < 1073741824)/\Hid (post.foldl (fun out y=>rput out y) Q=a)/\Ext w wr) (fun _ i _=>a.length - (intOf i).toNat)
 case atStart=>exact⟨[],a,[],rfl,rfl,Sl.nil _ _ (by omega),Nat.le_refl _,Lib.hid (by simp),Lib.hid HKA.out,Ext.refl _⟩
 case round =>
  obtain⟨pre,post,Q,hl,rfl,hsl,hq,hpq,hk,hx⟩:=hrel
  obtain⟨C,cc,rfl,-,-⟩:=hsl.form
  have HX:=Lib.hid hx
  have HQ:=Lib.hid hsl
  have HPQ:=Lib.hid hpq.out
  cases post with
  | cons x post =>
   obtain⟨b',o,B1,d1,B2,d2,rfl,-,hs1,hs2,hc⟩:=HATA.out pre post x hl
   have hlt:pre.length < a.length:=by rw [hl];simp
   have hlt2:(pre.length:Int) < a.length:=by omega
   have hxp:x.path.length < 1073741824:=by have:=HLA.out.path x (by rw [hl];simp);omega
   have HPT:=Lib.hid (show Calls Tryz.prog 40 #[.slice C Q.length cc,.agg #[St x.path,U8 x.status,I x.kids,I x.cut,U x.last,.slice B1 x.gone.length d1,St x.plan.keeper,U x.plan.round,St x.plan.live,St x.plan.by_,U x.plan.cap,St x.plan.owner,U x.plan.base,.bool x.plan.done,.slice B2 x.words.length d2]] wr _ from refPutM_any (m:=x) hsl (hs1.ext (by decide) hx) (hs2.ext (by decide) hx) (by omega) hpq.out hxp)
   obtain⟨k0,k1,k2,k3,k4,k5,k6,k7,k8,k9,k10,k11,k12,k13,k14⟩:=mbr_c15 (fun j u hj=>hx.cell (hc j u hj))
   have HL:=Lib.hid hl
   have HF:=Lib.hid hk.out
   have HXP:=Lib.hid hxp
   clear hl hsl hpq hk hx hs1 hs2 hc hxp
   go_wp2_with fail
   clear k0 k1 k2 k3 k4 k5 k6 k7 k8 k9 k10 k11 k12 k13 k14
   refine HPT.out.mono ?_
   rintro e w4 ⟨v4,rfl,h4,hx4⟩
   go_wp2_with fail
   go_roundw
   case rel=>exact⟨pre++[x],post,rput Q x,by rw [HL.out];simp,by simp,h4,by have:=rput_len Q x;simp only [List.length_append,List.length_cons,List.length_nil];omega,Lib.hid (rput_path HPQ.out HXP.out),Lib.hid HF.out,HX.out.trans hx4⟩
   case measure=>simp [intOf];omega
  | nil =>
   rw [List.append_nil] at hl
   have hge:¬ (pre.length:Int) < a.length:=by rw [hl];omega
   have HQA:=Lib.hid (show Q=a from hk.out)
   have hQl:Q.length<=40:=by rw [show Q=a from hk.out];exact hal
   clear hl hsl hpq hk hx
   go_wp2_with fail
   obtain⟨wo,rfl⟩:∃ wo:World,wo=wr:=⟨_,rfl⟩
   go_loopw [5,7,8,9] (fun ov iv _ _ wr=>∃ pre post Q,b=pre++post/\iv=I pre.length/\Sl mbrT wr (fun _=>True) ov Q/\Q.length<=40+pre.length/\Hid (∀ x ∈ Q,x.path.length < 1073741824)/\Hid (post.foldl (fun out y=>rput out (match findP a y.path with | some x=>joinedM x y | none=>y)) Q=M)/\Ext w wr) (fun _ i _ _ _=>b.length - (intOf i).toNat)
   case atStart=>exact⟨[],b,Q,rfl,rfl,HQ.out,hQl,Lib.hid HPQ.out,Lib.hid (by rw [HQA.out];exact HKB.out),HX.out⟩
   case round =>
    obtain⟨pre,post,Q,hl,rfl,hsl,hq,hpq,hk,hx⟩:=hrel
    obtain⟨C,cc,rfl,-,-⟩:=hsl.form
    have HX:=Lib.hid hx
    have HQ:=Lib.hid hsl
    have HPQ:=Lib.hid hpq.out
    cases post with
    | nil =>
     rw [List.append_nil] at hl
     have hge:¬ (pre.length:Int) < b.length:=by rw [hl];omega
     have HBE:=Lib.hid (HBR.out wr _ (show Sl mbrT wr (fun _=>True) (.slice C Q.length cc) M by rw [<- show Q=M from hk.out];exact hsl))
     clear hl hsl hpq hk hx
     go_wp2_with fail
     refine HBE.out.mono ?_
     rintro e w4 ⟨v4,rfl,h4,hx4⟩
     go_wp2_with fail
     go_ret
     exact⟨_,rfl,h4,HX.out.trans hx4⟩
    | cons x post =>
     obtain⟨b',o,B1,d1,B2,d2,rfl,-,hs1,hs2,hc⟩:=HATB.out pre post x hl
     have hlt:pre.length < b.length:=by rw [hl];simp
     have hlt2:(pre.length:Int) < b.length:=by omega
     have hxm:x ∈ b:=by rw [hl];simp
     have hxp:x.path.length < 1073741824:=by have:=HLB.out.path x hxm;omega
     have HC:=Lib.hid (fun W (he:Ext w W)=>mbr_c15 (fun j u hj=>he.cell (hc j u hj)))
     have HS:=Lib.hid (And.intro hs1 hs2)
     have HXM:=Lib.hid hxm
     have k0:=(HC.out _ hx).1
     have HL:=Lib.hid hl
     have HF:=Lib.hid hk.out
     have HXP:=Lib.hid hxp
     have HOX:=Lib.hid (HOF.out _ hx x.path)
     clear hl hsl hpq hk hx hs1 hs2 hc hxp hxm
     go_wp2_with fail
     refine HOX.out.mono ?_
     rintro e w3 ⟨a1,a2,rfl,hs1,hs2,hx3⟩
     obtain⟨E1,e1,rfl,-,-⟩:=hs1.form
     obtain⟨E2,e2,rfl,-,-⟩:=hs2.form
     have HX3:=Lib.hid (HX.out.trans hx3)
     have HQ3:=Lib.hid (HQ.out.ext (by decide) hx3)
     clear k0
     obtain⟨F,hF⟩:∃ F,findP a x.path=F:=⟨_,rfl⟩
     rw [hF] at hs1 hs2 ⊢
     have HFF:=Lib.hid hF
     clear hF hx3
     cases F with
     | none =>
      simp only [Option.getD_none,Option.isSome_none] at *
      have HF2:=Lib.hid (show post.foldl (fun out y=>rput out (match findP a y.path with | some x=>joinedM x y | none=>y)) (rput Q x)=M by have:=HF.out;rw [List.foldl_cons] at this;simp only [HFF.out] at this;exact this)
      clear hs1 hs2
      generalize mbr0=y at *
      generalize y.gone.length=g1
      generalize y.words.length=g2
      obtain⟨W3,hW3⟩:∃ W3,w3.alloc (.cells #[St y.path,U8 y.status,I y.kids,I y.cut,U y.last,.slice E1 g1 e1,St y.plan.keeper,U y.plan.round,St y.plan.live,St y.plan.by_,U y.plan.cap,St y.plan.owner,U y.plan.base,.bool y.plan.done,.slice E2 g2 e2] 48)=W3:=⟨_,rfl⟩
      have hxa:Ext w3 W3:=hW3 ▸ (Ext.refl w3).alloc _
      obtain⟨k0,k1,k2,k3,k4,k5,k6,k7,k8,k9,k10,k11,k12,k13,k14⟩:=HC.out _ (HX3.out.trans hxa)
      have HPT:=Lib.hid (show Calls Tryz.prog 40 #[.slice C Q.length cc,.agg #[St x.path,U8 x.status,I x.kids,I x.cut,U x.last,.slice B1 x.gone.length d1,St x.plan.keeper,U x.plan.round,St x.plan.live,St x.plan.by_,U x.plan.cap,St x.plan.owner,U x.plan.base,.bool x.plan.done,.slice B2 x.words.length d2]] W3 _ from refPutM_any (m:=x) (HQ3.out.ext (by decide) hxa) (HS.out.1.ext (by decide) (HX3.out.trans hxa)) (HS.out.2.ext (by decide) (HX3.out.trans hxa)) (by omega) HPQ.out HXP.out)
      have HXA:=Lib.hid (HX3.out.trans hxa)
      have HW3:=Lib.hid hW3
      clear hxa hW3 HFF HF
      unfold mbrV
      go_upto_region 12 with fail
      rw [HW3.out]
      go_wp2_with fail
      clear k0 k1 k2 k3 k4 k5 k6 k7 k8 k9 k10 k11 k12 k13 k14
      refine HPT.out.mono ?_
      rintro e w4 ⟨v4,rfl,h4,hx4⟩
      go_wp2_with fail
      go_roundw
      case rel=>exact⟨pre++[x],post,rput Q x,by rw [HL.out];simp,by simp,h4,by have:=rput_len Q x;simp only [List.length_append,List.length_cons,List.length_nil];omega,Lib.hid (rput_path HPQ.out HXP.out),Lib.hid HF2.out,HXA.out.trans hx4⟩
      case measure=>simp [intOf];omega
     | some z =>
      simp only [Option.getD_some,Option.isSome_some] at *
      obtain⟨jm,hjm⟩:∃ jm,joinedM z x=jm:=⟨_,rfl⟩
      have HF2:=Lib.hid (show post.foldl (fun out y=>rput out (match findP a y.path with | some x=>joinedM x y | none=>y)) (rput Q jm)=M by have:=HF.out;rw [List.foldl_cons] at this;simp only [HFF.out,hjm] at this;exact this)
      have hza:z ∈ a:=findP_mem HFF.out
      have hzp:z.path=x.path:=findP_path HFF.out
      have hjp:jm.path.length < 1073741824:=by rw [<- hjm,show (joinedM z x).path=z.path from joined_name z x,hzp];exact HXP.out
      obtain⟨W3,hW3⟩:∃ W3,w3.alloc (.cells #[St z.path,U8 z.status,I z.kids,I z.cut,U z.last,.slice E1 z.gone.length e1,St z.plan.keeper,U z.plan.round,St z.plan.live,St z.plan.by_,U z.plan.cap,St z.plan.owner,U z.plan.base,.bool z.plan.done,.slice E2 z.words.length e2] 48)=W3:=⟨_,rfl⟩
      obtain⟨gz,hgz⟩:∃ gz,w3.heap.size=gz:=⟨_,rfl⟩
      have hxa:Ext w3 W3:=hW3 ▸ (Ext.refl w3).alloc _
      have rz:RowIs W3 gz 48 [St z.path,U8 z.status,I z.kids,I z.cut,U z.last,.slice E1 z.gone.length e1,St z.plan.keeper,U z.plan.round,St z.plan.live,St z.plan.by_,U z.plan.cap,St z.plan.owner,U z.plan.base,.bool z.plan.done,.slice E2 z.words.length e2] []:=by rw [<- hW3,<- hgz];exact rowNew w3 48 [St z.path,U8 z.status,I z.kids,I z.cut,U z.last,.slice E1 z.gone.length e1,St z.plan.keeper,U z.plan.round,St z.plan.live,St z.plan.by_,U z.plan.cap,St z.plan.owner,U z.plan.base,.bool z.plan.done,.slice E2 z.words.length e2]
      have hjl:jm.gone.length<=1000000/\jm.words.length<=1000000:=by
       rw [<- hjm]
       have h1:=spansM_length z.gone x.gone
       have h2:=mergeL_length (name:=Word.of) (both:=saidM) (a:=z.words) (b:=x.words)
       have h3:=HLA.out.gone z hza
       have h4:=HLA.out.wlen z hza
       have h5:=HLB.out.gone x HXM.out
       have h6:=HLB.out.wlen x HXM.out
       refine ⟨?_,?_⟩
       ·show (spansM z.gone x.gone).length<=_
        omega
       ·show (mergeL Word.of saidM z.words x.words).length<=_
        omega
      have HJN:=Lib.hid (fun V (he:Ext W3 V)=>show Calls Tryz.prog 45 #[.agg #[St z.path,U8 z.status,I z.kids,I z.cut,U z.last,.slice E1 z.gone.length e1,St z.plan.keeper,U z.plan.round,St z.plan.live,St z.plan.by_,U z.plan.cap,St z.plan.owner,U z.plan.base,.bool z.plan.done,.slice E2 z.words.length e2],.agg #[St x.path,U8 x.status,I x.kids,I x.cut,U x.last,.slice B1 x.gone.length d1,St x.plan.keeper,U x.plan.round,St x.plan.live,St x.plan.by_,U x.plan.cap,St x.plan.owner,U x.plan.base,.bool x.plan.done,.slice B2 x.words.length d2]] V (fun e w'=>∃ g ws,e=.returned (mbrV jm g ws)/\Sl spanT w' (fun _=>True) g jm.gone/\Sl wordT w' (fun _=>True) ws jm.words/\Ext V w') from by
       rw [<- hjm]
       exact refJoined_any (x:=z) (y:=x) (hs1.ext (by decide) (hxa.trans he)) (hs2.ext (by decide) (hxa.trans he)) (HS.out.1.ext (by decide) ((HX3.out.trans hxa).trans he)) (HS.out.2.ext (by decide) ((HX3.out.trans hxa).trans he)) (HNA.out z hza) (HNB.out x HXM.out)
        (by have:=HLA.out.gone z hza;omega) (by have:=HLB.out.gone x HXM.out;omega) (by have:=HLA.out.wlen z hza;omega) (by have:=HLB.out.wlen x HXM.out;omega) (by have:=HLA.out.keeper z hza;omega) (by have:=HLB.out.keeper x HXM.out;omega)
        (fun s hs=>by have:=HLA.out.words z hza s hs;omega) (fun s hs=>by have:=HLB.out.words x HXM.out s hs;omega))
      have HXA:=Lib.hid (HX3.out.trans hxa)
      have HQ4:=Lib.hid (fun V (he:Ext W3 V)=>(HQ3.out.ext (by decide) hxa).ext (by decide) he)
      have HRZ:=Lib.hid rz
      have HW3:=Lib.hid (And.intro hW3 hgz)
      have HJP:=Lib.hid hjp
      clear hs1 hs2 hxa hW3 hgz HFF HF rz hjm hjp hza hzp hjl
      unfold mbrV
      go_upto_region 11 with fail
      rw [HW3.out.1,HW3.out.2]
      refine wp_region_facts ((fun v _=>v=.slice C Q.length cc) :: (fun v _=>v=.agg #[St z.path,U8 z.status,I z.kids,I z.cut,U z.last,.slice E1 z.gone.length e1,St z.plan.keeper,U z.plan.round,St z.plan.live,St z.plan.by_,U z.plan.cap,St z.plan.owner,U z.plan.base,.bool z.plan.done,.slice E2 z.words.length e2]) :: (fun v _=>v=.slice (some ⟨b',o,none⟩) b.length cb) :: (fun v _=>v=I pre.length) :: (fun v _=>v=.pointer (some ⟨b',o+pre.length * 15,none⟩)) :: (fun v _=>v=.agg #[St x.path,U8 x.status,I x.kids,I x.cut,U x.last,.slice B1 x.gone.length d1,St x.plan.keeper,U x.plan.round,St x.plan.live,St x.plan.by_,U x.plan.cap,St x.plan.owner,U x.plan.base,.bool x.plan.done,.slice B2 x.words.length d2]) :: (fun v W=>∃ G1 h1 G2 h2,v=.agg #[St jm.path,U8 jm.status,I jm.kids,I jm.cut,U jm.last,.slice G1 jm.gone.length h1,St jm.plan.keeper,U jm.plan.round,St jm.plan.live,St jm.plan.by_,U jm.plan.cap,St jm.plan.owner,U jm.plan.base,.bool jm.plan.done,.slice G2 jm.words.length h2]/\Sl spanT W (fun _=>True) (.slice G1 jm.gone.length h1) jm.gone/\Sl wordT W (fun _=>True) (.slice G2 jm.words.length h2) jm.words) :: []) rfl (by kernel_rfl) ?hR ?hstep ?hend
      case hR =>
       simp only [List.mem_cons,List.not_mem_nil,or_false,forall_eq_or_imp,forall_eq]
       exact⟨fun v _ _ h _=>h,fun v _ _ h _=>h,fun v _ _ h _=>h,fun v _ _ h _=>h,fun v _ _ h _=>h,fun v _ _ h _=>h,fun v _ _ h he=>by obtain⟨G1,h1,G2,h2,e,s1,s2⟩:=h;exact⟨G1,h1,G2,h2,e,s1.ext (by decide) he,s2.ext (by decide) he⟩⟩
      case hstep =>
       simp only [List.length_cons,List.length_nil,Nat.reduceAdd,List.take_succ_cons,List.take_zero,stepsAll,and_true]
       refine ⟨?_,?_,?_,?_,?_,?_,?_⟩
       ·intro z' V he f
        have q0:z' 5=.slice C Q.length cc:=f.1
        clear f
        go_wp
        exact stepQ_ok rfl (Ext.refl _)
       ·intro z' V he f
        have q0:z' 8=.pointer (some ⟨gz,0,none⟩):=f.1
        clear f
        obtain⟨j0,j1,j2,j3,j4,j5,j6,j7,j8,j9,j10,j11,j12,j13,j14⟩:=(HRZ.out.ext he).c15
        go_wp
        exact stepQ_ok rfl (Ext.refl _)
       ·intro z' V he f
        have q0:z' 1=.slice (some ⟨b',o,none⟩) b.length cb:=f.1
        clear f
        go_wp
        exact stepQ_ok rfl (Ext.refl _)
       ·intro z' V he f
        have q0:z' 7=I pre.length:=f.1
        clear f
        go_wp
        exact stepQ_ok rfl (Ext.refl _)
       ·intro z' V he f
        have q0:z' 41=.slice (some ⟨b',o,none⟩) b.length cb:=f.1
        have q1:z' 42=I pre.length:=f.2.1
        clear f
        go_wp
        exact stepQ_ok rfl (Ext.refl _)
       ·intro z' V he f
        have q0:z' 43=.pointer (some ⟨b',o+pre.length * 15,none⟩):=f.1
        clear f
        obtain⟨k0,k1,k2,k3,k4,k5,k6,k7,k8,k9,k10,k11,k12,k13,k14⟩:=HC.out _ (HXA.out.trans he)
        go_wp
        exact stepQ_ok rfl (Ext.refl _)
       ·intro z' V he f
        have q0:z' 40=.agg #[St z.path,U8 z.status,I z.kids,I z.cut,U z.last,.slice E1 z.gone.length e1,St z.plan.keeper,U z.plan.round,St z.plan.live,St z.plan.by_,U z.plan.cap,St z.plan.owner,U z.plan.base,.bool z.plan.done,.slice E2 z.words.length e2]:=f.1
        have q1:z' 44=.agg #[St x.path,U8 x.status,I x.kids,I x.cut,U x.last,.slice B1 x.gone.length d1,St x.plan.keeper,U x.plan.round,St x.plan.live,St x.plan.by_,U x.plan.cap,St x.plan.owner,U x.plan.base,.bool x.plan.done,.slice B2 x.words.length d2]:=f.2.1
        clear f
        go_wp
        refine (HJN.out V he).mono ?_
        rintro e w6 ⟨G,Wd,rfl,s1,s2,hb1⟩
        obtain⟨G1,h1,rfl,-,-⟩:=s1.form
        obtain⟨G2,h2,rfl,-,-⟩:=s2.form
        unfold mbrV
        dsimp only
        go_wp
        exact stepQ_ok ⟨G1,h1,G2,h2,rfl,s1,s2⟩ hb1
      case hend =>
       intro z' V he f
       simp only [List.take_succ_cons,List.take_zero,List.drop_succ_cons,List.drop_zero,List.filterMap_cons,List.filterMap_nil,List.length_cons,List.length_nil,Nat.reduceAdd] at f ⊢
       have q39:z' 39=.slice C Q.length cc:=f.1
       obtain⟨G1,h1,G2,h2,q45,s1,s2⟩:∃ G1 h1 G2 h2,z' 45=.agg #[St jm.path,U8 jm.status,I jm.kids,I jm.cut,U jm.last,.slice G1 jm.gone.length h1,St jm.plan.keeper,U jm.plan.round,St jm.plan.live,St jm.plan.by_,U jm.plan.cap,St jm.plan.owner,U jm.plan.base,.bool jm.plan.done,.slice G2 jm.words.length h2]/\Sl spanT V (fun _=>True) (.slice G1 jm.gone.length h1) jm.gone/\Sl wordT V (fun _=>True) (.slice G2 jm.words.length h2) jm.words:=f.2.2.2.2.2.2.1
       clear f
       simp only [putAll]
       go_simp
       have HPT:=Lib.hid (show Calls Tryz.prog 40 #[.slice C Q.length cc,.agg #[St jm.path,U8 jm.status,I jm.kids,I jm.cut,U jm.last,.slice G1 jm.gone.length h1,St jm.plan.keeper,U jm.plan.round,St jm.plan.live,St jm.plan.by_,U jm.plan.cap,St jm.plan.owner,U jm.plan.base,.bool jm.plan.done,.slice G2 jm.words.length h2]] V _ from refPutM_any (m:=jm) (HQ4.out V he) s1 s2 (by omega) HPQ.out HJP.out)
       have HXV:=Lib.hid (HXA.out.trans he)
       clear s1 s2 he
       go_wp2_with fail
       refine HPT.out.mono ?_
       rintro e w4 ⟨v4,rfl,h4,hx4⟩
       go_wp2_with fail
       go_roundw
       case rel=>exact⟨pre++[x],post,rput Q jm,by rw [HL.out];simp,by simp,h4,by have:=rput_len Q jm;simp only [List.length_append,List.length_cons,List.length_nil];omega,Lib.hid (rput_path HPQ.out HJP.out),Lib.hid HF2.out,HXV.out.trans hx4⟩
       case measure=>simp [intOf];omega
theorem refUp20_any {S:Nat->Prop} {v:Value} {l:List Mbr} {w:World} (hv:Sl mbrT w S v l) (p:Str) (hl0:l.length<=1000000) (hp:∀ x ∈ l,x.path.length < 1073741824) :
  Calls Tryz.prog 14 #[v,St p] w fun e w'=>∃ v',e=.returned (.tuple #[v',I (rupR l p).2])/\Sl mbrT w' (fun _=>True) v' (rupR l p).1/\Ext w w':=by
 have hv':=hv
 obtain⟨A,c,rfl,-,-⟩:=hv.form
 have HOF:=Lib.hid (refOf_any (hv'.mono (S':=fun b=>b < w.heap.size) (by decide) (fun b hb _=>hb)) p)
 have HV:=Lib.hid hv'
 obtain⟨R,hR⟩:∃ R,rupR l p=R:=⟨_,rfl⟩
 rw [hR]
 have HR:=Lib.hid hR
 have HPP:=Lib.hid hp
 clear hv hv' hR hp
 go_enter Tryz.func14,Tryz.ntmps14
 go_wp2_with fail
 refine HOF.out.mono ?_
 rintro e w3 ⟨b1,b2,rfl,hs1,hs2,hx3⟩
 obtain⟨E1,e1,rfl,-,-⟩:=hs1.form
 obtain⟨E2,e2,rfl,-,-⟩:=hs2.form
 have HX3:=Lib.hid hx3
 obtain⟨F,hF⟩:∃ F,findP l p=F:=⟨_,rfl⟩
 rw [hF] at hs1 hs2 ⊢
 have HFF:=Lib.hid hF
 clear hF hx3
 cases F with
 | none =>
  simp only [Option.getD_none,Option.isSome_none] at *
  have HE:=Lib.hid (show R=([],200) by rw [<- HR.out];unfold rupR;rw [HFF.out])
  clear hs1 hs2
  generalize mbr0=y at *
  generalize y.gone.length=g1
  generalize y.words.length=g2
  have HXA:=Lib.hid (HX3.out.trans ((Ext.refl w3).alloc (.cells #[St y.path,U8 y.status,I y.kids,I y.cut,U y.last,.slice E1 g1 e1,St y.plan.keeper,U y.plan.round,St y.plan.live,St y.plan.by_,U y.plan.cap,St y.plan.owner,U y.plan.base,.bool y.plan.done,.slice E2 g2 e2] 48)))
  unfold mbrV
  go_wp2_with fail
  refine bodyPost_ret (results_tmp2 rfl _ _ _) rfl ?_
  exact⟨_,by rw [HE.out];rfl,by rw [HE.out];exact Sl.nil _ _ (by omega),HXA.out⟩
 | some x =>
  simp only [Option.getD_some,Option.isSome_some] at *
  have hxm:x ∈ l:=findP_mem HFF.out
  have HXP:=Lib.hid (HPP.out x hxm)
  obtain⟨W3,hW3⟩:∃ W3,w3.alloc (.cells #[St x.path,U8 x.status,I x.kids,I x.cut,U x.last,.slice E1 x.gone.length e1,St x.plan.keeper,U x.plan.round,St x.plan.live,St x.plan.by_,U x.plan.cap,St x.plan.owner,U x.plan.base,.bool x.plan.done,.slice E2 x.words.length e2] 48)=W3:=⟨_,rfl⟩
  obtain⟨gz,hgz⟩:∃ gz,w3.heap.size=gz:=⟨_,rfl⟩
  have hxa:Ext w3 W3:=hW3 ▸ (Ext.refl w3).alloc _
  have rz:RowIs W3 gz 48 [St x.path,U8 x.status,I x.kids,I x.cut,U x.last,.slice E1 x.gone.length e1,St x.plan.keeper,U x.plan.round,St x.plan.live,St x.plan.by_,U x.plan.cap,St x.plan.owner,U x.plan.base,.bool x.plan.done,.slice E2 x.words.length e2] []:=by rw [<- hW3,<- hgz];exact rowNew w3 48 [St x.path,U8 x.status,I x.kids,I x.cut,U x.last,.slice E1 x.gone.length e1,St x.plan.keeper,U x.plan.round,St x.plan.live,St x.plan.by_,U x.plan.cap,St x.plan.owner,U x.plan.base,.bool x.plan.done,.slice E2 x.words.length e2]
  have HS:=Lib.hid (And.intro (hs1.ext (by decide) hxa) (hs2.ext (by decide) hxa))
  have HXA:=Lib.hid (HX3.out.trans hxa)
  have HRZ:=Lib.hid rz
  have hgw:w.heap.size<=gz:=by rw [<- hgz];exact HX3.out.size
  have HGW:=Lib.hid hgw
  have HW3:=Lib.hid (And.intro hW3 hgz)
  obtain⟨j0,j1,j2,j3,j4,j5,j6,j7,j8,j9,j10,j11,j12,j13,j14⟩:=rz.c15
  have f1:=rz.frozen 1
  have f4:=rz.frozen 4
  clear hs1 hs2 hxa hW3 hgz rz hgw hxm j0 j2 j3 j5 j6 j7 j8 j9 j10 j11 j12 j13 j14
  unfold mbrV
  go_upto_region 2 with fail
  rw [HW3.out.1,HW3.out.2]
  by_cases h1:2 < x.status
  case pos =>
   have g1:(x.status:Int) > 2:=by omega
   have g2:2 < x.status:=by omega
   have g3:decide ((x.status:Int) > 2)=true:=decide_eq_true (by omega)
   have g4:decide (2 < x.status)=true:=decide_eq_true (by omega)
   have HE:=Lib.hid (show R=([],3) by rw [<- HR.out];unfold rupR;rw [HFF.out];simp only;rw [if_pos (.inl h1)])
   go_wp2_with fail
   refine bodyPost_ret (results_tmp2 rfl _ _ _) rfl ?_
   exact⟨_,by rw [HE.out];rfl,by rw [HE.out];exact Sl.nil _ _ (by omega),HXA.out⟩
  have g1:¬ (x.status:Int) > 2:=by omega
  have g2:¬ 2 < x.status:=by omega
  have g3:decide ((x.status:Int) > 2)=false:=decide_eq_false (by omega)
  have g4:decide (2 < x.status)=false:=decide_eq_false (by omega)
  by_cases h2:x.status < 1
  case pos =>
   have q1:(1:Int) > x.status:=by omega
   have q2:x.status < 1:=by omega
   have q3:decide ((1:Int) > x.status)=true:=decide_eq_true (by omega)
   have q4:decide (x.status < 1)=true:=decide_eq_true (by omega)
   have q5:(x.status:Int) < 1:=by omega
   have q6:x.status=0:=by omega
   have q7:decide ((x.status:Int) < 1)=true:=decide_eq_true q5
   have HE:=Lib.hid (show R=([],3) by rw [<- HR.out];unfold rupR;rw [HFF.out];simp only;rw [if_pos (.inr h2)])
   clear h1 g2 g4
   go_wp2_with fail
   refine bodyPost_ret (results_tmp2 rfl _ _ _) rfl ?_
   exact⟨_,by rw [HE.out];rfl,by rw [HE.out];exact Sl.nil _ _ (by omega),HXA.out⟩
  case neg =>
  have q1:¬ (1:Int) > x.status:=by omega
  have q2:¬ x.status < 1:=by omega
  have q3:decide ((1:Int) > x.status)=false:=decide_eq_false (by omega)
  have q4:decide (x.status < 1)=false:=decide_eq_false (by omega)
  have q5:¬ (x.status:Int) < 1:=by omega
  have q7:decide ((x.status:Int) < 1)=false:=decide_eq_false q5
  have HE:=Lib.hid (show R=(rput l { x with status:=2 },0) by rw [<- HR.out];unfold rupR;rw [HFF.out];simp only;rw [if_neg (by omega)])
  clear h1 h2
  go_upto_region 7 with fail
  have r9:=(HRZ.out.set (j:=1) (by simp) (.int .u8 2))
  have x9:=(HXA.out.set (p:=⟨gz,1,none⟩) HGW.out (.int .u8 2))
  simp only [List.set_cons_succ,List.set_cons_zero] at r9
  have kp9:∀ b,b ≠ gz->(W3.setCell ⟨gz,1,none⟩ (.int .u8 2)).heap[b]? = W3.heap[b]?:=fun b hb=>by
   rw [Below.heap_setCell _ ⟨gz,1,none⟩ _ b hb]
  generalize (W3.setCell ⟨gz,1,none⟩ (.int .u8 2))=W9 at *
  have hsg:∀ b,b < w.heap.size->b ≠ gz:=fun b hb=>by have:=HGW.out;omega
  have HPT:=Lib.hid (show Calls Tryz.prog 40 #[.slice A l.length c,.agg #[St x.path,.int .u8 2,I x.kids,I x.cut,U x.last,.slice E1 x.gone.length e1,St x.plan.keeper,U x.plan.round,St x.plan.live,St x.plan.by_,U x.plan.cap,St x.plan.owner,U x.plan.base,.bool x.plan.done,.slice E2 x.words.length e2]] W9 _ from refPutM_any (m:={ x with status:=2 }) (HV.out.ext (by decide) x9) (HS.out.1.keep (by decide) (fun b hb _=>kp9 b (hsg b hb))) (HS.out.2.keep (by decide) (fun b hb _=>kp9 b (hsg b hb))) hl0 HPP.out HXP.out)
  have HX9:=Lib.hid x9
  obtain⟨k0,k1,k2,k3,k4,k5,k6,k7,k8,k9,k10,k11,k12,k13,k14⟩:=r9.c15
  clear j1 j4 f1 f4 x9 r9 kp9 hsg
  go_wp2_with fail
  refine HPT.out.mono ?_
  rintro e w5 ⟨v5,rfl,h5,hx5⟩
  go_wp2_with fail
  refine bodyPost_ret (results_tmp2 rfl _ _ _) rfl ?_
  exact⟨_,by rw [HE.out];rfl,by rw [HE.out];exact h5,HX9.out.trans hx5⟩
theorem refLeave20_any {S:Nat->Prop} {v:Value} {l:List Mbr} {w:World} (hv:Sl mbrT w S v l) (p:Str) (n:Nat) (hl0:l.length<=1000000) (hp:∀ x ∈ l,x.path.length < 1073741824) :
  Calls Tryz.prog 16 #[v,St p,U n] w fun e w'=>∃ v',e=.returned (.tuple #[v',I (rleaveR l p n).2])/\Sl mbrT w' (fun _=>True) v' (rleaveR l p n).1/\Ext w w':=by
 have hv':=hv
 obtain⟨A,c,rfl,-,-⟩:=hv.form
 have HOF:=Lib.hid (refOf_any (hv'.mono (S':=fun b=>b < w.heap.size) (by decide) (fun b hb _=>hb)) p)
 have HV:=Lib.hid hv'
 obtain⟨R,hR⟩:∃ R,rleaveR l p n=R:=⟨_,rfl⟩
 rw [hR]
 have HR:=Lib.hid hR
 have HPP:=Lib.hid hp
 clear hv hv' hR hp
 go_enter Tryz.func16,Tryz.ntmps16
 go_wp2_with fail
 refine HOF.out.mono ?_
 rintro e w3 ⟨b1,b2,rfl,hs1,hs2,hx3⟩
 obtain⟨E1,e1,rfl,-,-⟩:=hs1.form
 obtain⟨E2,e2,rfl,-,-⟩:=hs2.form
 have HX3:=Lib.hid hx3
 obtain⟨F,hF⟩:∃ F,findP l p=F:=⟨_,rfl⟩
 rw [hF] at hs1 hs2 ⊢
 have HFF:=Lib.hid hF
 clear hF hx3
 cases F with
 | none =>
  simp only [Option.getD_none,Option.isSome_none] at *
  have HE:=Lib.hid (show R=([],200) by rw [<- HR.out];unfold rleaveR;rw [HFF.out])
  clear hs1 hs2
  generalize mbr0=y at *
  generalize y.gone.length=g1
  generalize y.words.length=g2
  have HXA:=Lib.hid (HX3.out.trans ((Ext.refl w3).alloc (.cells #[St y.path,U8 y.status,I y.kids,I y.cut,U y.last,.slice E1 g1 e1,St y.plan.keeper,U y.plan.round,St y.plan.live,St y.plan.by_,U y.plan.cap,St y.plan.owner,U y.plan.base,.bool y.plan.done,.slice E2 g2 e2] 48)))
  unfold mbrV
  go_wp2_with fail
  refine bodyPost_ret (results_tmp2 rfl _ _ _) rfl ?_
  exact⟨_,by rw [HE.out];rfl,by rw [HE.out];exact Sl.nil _ _ (by omega),HXA.out⟩
 | some x =>
  simp only [Option.getD_some,Option.isSome_some] at *
  have hxm:x ∈ l:=findP_mem HFF.out
  have HXP:=Lib.hid (HPP.out x hxm)
  obtain⟨W3,hW3⟩:∃ W3,w3.alloc (.cells #[St x.path,U8 x.status,I x.kids,I x.cut,U x.last,.slice E1 x.gone.length e1,St x.plan.keeper,U x.plan.round,St x.plan.live,St x.plan.by_,U x.plan.cap,St x.plan.owner,U x.plan.base,.bool x.plan.done,.slice E2 x.words.length e2] 48)=W3:=⟨_,rfl⟩
  obtain⟨gz,hgz⟩:∃ gz,w3.heap.size=gz:=⟨_,rfl⟩
  have hxa:Ext w3 W3:=hW3 ▸ (Ext.refl w3).alloc _
  have rz:RowIs W3 gz 48 [St x.path,U8 x.status,I x.kids,I x.cut,U x.last,.slice E1 x.gone.length e1,St x.plan.keeper,U x.plan.round,St x.plan.live,St x.plan.by_,U x.plan.cap,St x.plan.owner,U x.plan.base,.bool x.plan.done,.slice E2 x.words.length e2] []:=by rw [<- hW3,<- hgz];exact rowNew w3 48 [St x.path,U8 x.status,I x.kids,I x.cut,U x.last,.slice E1 x.gone.length e1,St x.plan.keeper,U x.plan.round,St x.plan.live,St x.plan.by_,U x.plan.cap,St x.plan.owner,U x.plan.base,.bool x.plan.done,.slice E2 x.words.length e2]
  have HS:=Lib.hid (And.intro (hs1.ext (by decide) hxa) (hs2.ext (by decide) hxa))
  have HXA:=Lib.hid (HX3.out.trans hxa)
  have HRZ:=Lib.hid rz
  have hgw:w.heap.size<=gz:=by rw [<- hgz];exact HX3.out.size
  have HGW:=Lib.hid hgw
  have HW3:=Lib.hid (And.intro hW3 hgz)
  obtain⟨j0,j1,j2,j3,j4,j5,j6,j7,j8,j9,j10,j11,j12,j13,j14⟩:=rz.c15
  have f1:=rz.frozen 1
  have f4:=rz.frozen 4
  clear hs1 hs2 hxa hW3 hgz rz hgw hxm j0 j2 j3 j5 j6 j7 j8 j9 j10 j11 j12 j13 j14
  unfold mbrV
  go_upto_region 2 with fail
  rw [HW3.out.1,HW3.out.2]
  by_cases h1:p = [49]
  case pos =>
   have q0:(p == [49])=true:=by simpa using h1
   have HE:=Lib.hid (show R=([],2) by rw [<- HR.out];unfold rleaveR;rw [HFF.out];simp only;rw [if_pos (.inl h1)])
   clear h1
   go_wp2_with fail
   refine bodyPost_ret (results_tmp2 rfl _ _ _) rfl ?_
   exact⟨_,by rw [HE.out];rfl,by rw [HE.out];exact Sl.nil _ _ (by omega),HXA.out⟩
  have q0:(p == [49])=false:=by simpa using h1
  by_cases h2:281474976710656 < n
  case pos =>
   have g1:(n:Int) > 281474976710656:=by omega
   have g2:281474976710656 < n:=by omega
   have g3:decide ((n:Int) > 281474976710656)=true:=decide_eq_true (by omega)
   have g4:decide (281474976710656 < n)=true:=decide_eq_true (by omega)
   have HE:=Lib.hid (show R=([],2) by rw [<- HR.out];unfold rleaveR;rw [HFF.out];simp only;rw [if_pos (.inr h2)])
   clear h1
   go_wp2_with fail
   refine bodyPost_ret (results_tmp2 rfl _ _ _) rfl ?_
   exact⟨_,by rw [HE.out];rfl,by rw [HE.out];exact Sl.nil _ _ (by omega),HXA.out⟩
  have g1:¬ (n:Int) > 281474976710656:=by omega
  have g2:¬ 281474976710656 < n:=by omega
  have g3:decide ((n:Int) > 281474976710656)=false:=decide_eq_false (by omega)
  have g4:decide (281474976710656 < n)=false:=decide_eq_false (by omega)
  by_cases h3:x.status=2
  case neg =>
   have q1:((x.status:Int) == 2)=false:=by rw [beq_eq_false_iff_ne];omega
   have HE:=Lib.hid (show R=([],3) by rw [<- HR.out];unfold rleaveR;rw [HFF.out];simp only;rw [if_neg (by simp [h1,h2]),if_pos h3])
   clear h1 h3
   go_wp2_with fail
   refine bodyPost_ret (results_tmp2 rfl _ _ _) rfl ?_
   exact⟨_,by rw [HE.out];rfl,by rw [HE.out];exact Sl.nil _ _ (by omega),HXA.out⟩
  have q1:((x.status:Int) == 2)=true:=by rw [beq_iff_eq];omega
  have HE:=Lib.hid (show R=(rput l { x with status:=3,last:=n },0) by rw [<- HR.out];unfold rleaveR;rw [HFF.out];simp only;rw [if_neg (by simp [h1,h2]),if_neg (by omega)])
  clear h1 h2 h3
  go_upto_region 10 with fail
  have r9:=((HRZ.out.set (j:=1) (by simp) (.int .u8 3)).set (j:=4) (by simp) (U n))
  have x9:=((HXA.out.set (p:=⟨gz,1,none⟩) HGW.out (.int .u8 3)).set (p:=⟨gz,4,none⟩) HGW.out (U n))
  simp only [List.set_cons_succ,List.set_cons_zero] at r9
  have kp9:∀ b,b ≠ gz->((W3.setCell ⟨gz,1,none⟩ (.int .u8 3)).setCell ⟨gz,4,none⟩ (U n)).heap[b]? = W3.heap[b]?:=fun b hb=>by
   rw [Below.heap_setCell _ ⟨gz,4,none⟩ _ b hb] ;rw [Below.heap_setCell _ ⟨gz,1,none⟩ _ b hb]
  generalize ((W3.setCell ⟨gz,1,none⟩ (.int .u8 3)).setCell ⟨gz,4,none⟩ (U n))=W9 at *
  have hsg:∀ b,b < w.heap.size->b ≠ gz:=fun b hb=>by have:=HGW.out;omega
  have HPT:=Lib.hid (show Calls Tryz.prog 40 #[.slice A l.length c,.agg #[St x.path,.int .u8 3,I x.kids,I x.cut,U n,.slice E1 x.gone.length e1,St x.plan.keeper,U x.plan.round,St x.plan.live,St x.plan.by_,U x.plan.cap,St x.plan.owner,U x.plan.base,.bool x.plan.done,.slice E2 x.words.length e2]] W9 _ from refPutM_any (m:={ x with status:=3,last:=n }) (HV.out.ext (by decide) x9) (HS.out.1.keep (by decide) (fun b hb _=>kp9 b (hsg b hb))) (HS.out.2.keep (by decide) (fun b hb _=>kp9 b (hsg b hb))) hl0 HPP.out HXP.out)
  have HX9:=Lib.hid x9
  obtain⟨k0,k1,k2,k3,k4,k5,k6,k7,k8,k9,k10,k11,k12,k13,k14⟩:=r9.c15
  clear j1 j4 f1 f4 x9 r9 kp9 hsg
  go_wp2_with fail
  refine HPT.out.mono ?_
  rintro e w5 ⟨v5,rfl,h5,hx5⟩
  go_wp2_with fail
  refine bodyPost_ret (results_tmp2 rfl _ _ _) rfl ?_
  exact⟨_,by rw [HE.out];rfl,by rw [HE.out];exact h5,HX9.out.trans hx5⟩
end
end Go.Proofs.YtblkikjmocnllaaGreatDoor
