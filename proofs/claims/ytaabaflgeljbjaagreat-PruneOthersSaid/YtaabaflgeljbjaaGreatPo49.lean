/- gossamerlaw17.PruneOthers: the walk. Printed by pp.py out of src/Others1.src, src/Others1.py. -/
import Derived.Test.YtaabaflgeljbjaaGreatPo45
import Derived.Test.YtaabaflgeljbjaaGreatPo48
import Derived.Test.YtaabaflgeljbjaaGreatPo34
import Derived.Test.YtaabaflgeljbjaaGreatPo33
set_option linter.unusedVariables false
set_option linter.unusedSimpArgs false
set_option maxRecDepth 100000
set_option maxHeartbeats 40000000
namespace Go.Proofs.YtaabaflgeljbjaaGreat
section
open Go.RowKit Go.Shelf
theorem zpm {s:State} (h:zb6 s=false):∀ e ∈ s.entries,e.key.length<=1024:=fun e he=>by
 simp only [zb6,Bool.or_eq_false_iff] at h;have h4:=List.any_eq_false.1 h.2.2.2.1 e he;simp only [zb0,Bool.or_eq_true,decide_eq_true_eq,not_or] at h4;omega
theorem zq1 {S1:Nat->Prop} {a:State} {a1 a2 a3:Value} {w:World} (p:PrD) (hb1:p.1.length<=140737488355328) (hb2:p.2.2.1.length<=140737488355328) (ha:StAt w S1 a a1 a2 a3) (ra:∀ e ∈ a.entries,RoomE e) :
  Calls Tryz.prog 3 #[stV a1 a2 a3,prV p] w fun r w'=>r=.returned (.bool true)/\Ext w w':=by
 have HRA:=zH ra;obtain⟨sa,se,sp⟩:=a;obtain⟨b,c,ow,n⟩:=p;simp only at hb1 hb2;obtain⟨A1,n1,rfl,-,-⟩:=ha.all.form;obtain⟨A2,n2,rfl,-,-⟩:=ha.entries.form;obtain⟨A3,n3,rfl,-,-⟩:=ha.pruned.form;obtain⟨q0,hq0⟩:∃ q,w.heap.size=q:=⟨_,rfl⟩
 obtain⟨W0,hW0⟩:∃ X,(w.alloc (.cells #[.slice A1 sa.length n1,.slice A2 se.length n2,.slice A3 sp.length n3] 26)).alloc (.cells #[St b,U c,St ow,U n] 29)=X:=⟨_,rfl⟩
 have hx0:Ext w W0:=by rw [<- hW0];exact ((Ext.refl w).alloc _).alloc _
 have rA:RowIs W0 q0 26 [.slice A1 sa.length n1,.slice A2 se.length n2,.slice A3 sp.length n3] []:=by rw [<- hW0,<- hq0];exact (zai w _ _).alloc _
 have rP:RowIs W0 (q0+1) 29 [St b,U c,St ow,U n] []:=by rw [<- hW0,<- hq0];have h:=zai (w.alloc (.cells #[.slice A1 sa.length n1,.slice A2 se.length n2,.slice A3 sp.length n3] 26)) 29 [St b,U c,St ow,U n];simp only [World.size_alloc] at h;exact h
 have sA:=(ha.ext hx0).mono (S':=fun _=>True) fun _ _ _=>trivial
 have hqs:q0+1 < W0.heap.size:=by rw [<- hW0,<- hq0];simp
 clear ha ra;go_enter Tryz.func3,Tryz.ntmps3;refine wp_seq_k ?_;intro K hK;have HK:=zH hK;clear hK;go_wp2_with fail
 (try rw [hW0])
 (try rw [hq0])
 clear hW0 hq0;refine HK.out _ _ ?_;clear HK K;have HL:=zH (zq0 sA HRA.out);obtain⟨k0,k1,k2⟩:=rA.p3;have y0:=rP.cell (j:=0) rfl;have y2:=rP.cell (j:=2) rfl;refine wp_seq_k ?_;intro K hK;have HK:=zH hK;clear hK;go_wp2_with fail;refine HL.out.mono ?_;rintro r W1 ⟨rfl,hx1⟩;clear HL k0 k1 k2;replace rA:=rA.ext hx1;replace rP:=rP.ext hx1;replace sA:=sA.ext hx1;replace hx0:=hx0.trans hx1;have hqs:=Nat.lt_of_lt_of_le hqs hx1.size;have y0:=hx1.cell y0;have y2:=hx1.cell y2;clear hx1
 cases hl1:zb6 ⟨sa,se,sp⟩ with
 | true=>clear rA rP sA;go_wp2_with fail;refine (zeh _).mono ?_;rintro r Z9 ⟨rfl,hxz⟩;have HX:=zH (hx0.trans hxz);go_wp2_with fail;go_ret;exact⟨rfl,HX.out⟩
 | false =>
  have SM:=zH (zl4 hl1);have LS:=zH (znz hl1);have HKEY:=zH (zpm hl1);clear hl1
  by_cases h512:512 < b.length+ow.length
  ·have g1:decide ((512:Int) < (b.length:Int)+(ow.length:Int))=true:=decide_eq_true (by omega);have g2:(b.length:Int)+(ow.length:Int) > 512:=(by omega);clear rA rP sA;go_wp2_with fail;refine (zeh _).mono ?_;rintro r Z9 ⟨rfl,hxz⟩;have HX:=zH (hx0.trans hxz);go_wp2_with fail;go_ret;exact⟨rfl,HX.out⟩
  ·have g1:decide ((512:Int) < (b.length:Int)+(ow.length:Int))=false:=decide_eq_false (by omega);have g2:¬ (b.length:Int)+(ow.length:Int) > 512:=(by omega);have HM:=zH (ziu sA SM.out);obtain⟨k0,k1,k2⟩:=rA.p3;go_wp2_with fail;refine HM.out.mono ?_;rintro r W2 ⟨rfl,hx1⟩;clear HM k0 k1 k2 g1 g2 y0 y2;replace rA:=rA.ext hx1;replace rP:=rP.ext hx1;replace sA:=sA.ext hx1;replace hx0:=hx0.trans hx1;have hqs:=Nat.lt_of_lt_of_le hqs hx1.size;clear hx1
   cases hm:mayS ⟨sa,se,sp⟩ with
   | false=>clear rA rP sA;go_wp2_with fail;refine (zeh _).mono ?_;rintro r Z9 ⟨rfl,hxz⟩;have HX:=zH (hx0.trans hxz);go_wp2_with fail;go_ret;exact⟨rfl,HX.out⟩
   | true =>
    have HP:=zH (zfu (b,c,ow,n) sA SM.out);have HLT:=zH (zl5 (b,c,ow,n) LS.out);have HER:=zH (ztd (p:=(b,c,ow,n)) hm);have HOK:=zH (zvt (p:=(b,c,ow,n)) hm fun e he=>(HRA.out e he).counts);have HMS:=zH (mayS_iff.1 hm);clear hm;obtain⟨k0,k1,k2⟩:=rA.p3;obtain⟨y0,y1,y2,y3⟩:=rP.p4;go_wp2_with fail;refine HK.out _ _ ?_;clear HK K;refine wp_seq_k ?_;intro K hK;have HK:=zH hK;clear hK;go_wp2_with fail;refine HP.out.mono ?_;rintro r W3 ⟨u1,u2,u3,rfl,hS,hx1⟩;clear HP k0 k1 k2 y0 y1 y2 y3;obtain⟨rr,hrr⟩:∃ rr,zax ⟨sa,se,sp⟩ (b,c,ow,n)=rr:=⟨_,rfl⟩
    rw [hrr] at hS HLT HER HOK ⊢;clear hrr;obtain⟨⟨ta,te,tp⟩,er⟩:=rr;simp only at hS HLT HER HOK ⊢;obtain⟨C1,c1,rfl,-,-⟩:=hS.all.form;obtain⟨C2,c2,rfl,-,-⟩:=hS.entries.form;obtain⟨C3,c3,rfl,-,-⟩:=hS.pruned.form;obtain⟨z5,hz5⟩:∃ z,W3.heap.size=z:=⟨_,rfl⟩
    obtain⟨W4,hW4⟩:∃ X,W3.alloc (.cells #[.slice C1 ta.length c1,.slice C2 te.length c2,.slice C3 tp.length c3] 26)=X:=⟨_,rfl⟩
    have hx2:Ext W3 W4:=(by rw [<- hW4];exact (Ext.refl W3).alloc _);have rT:RowIs W4 z5 26 [.slice C1 ta.length c1,.slice C2 te.length c2,.slice C3 tp.length c3] []:=(by rw [<- hW4,<- hz5];exact zai W3 _ _);replace rA:=(rA.ext hx1).ext hx2;replace rP:=(rP.ext hx1).ext hx2;replace sA:=(sA.ext hx1).ext hx2;have sT:=(hS.ext hx2).mono (S':=fun _=>True) fun _ _ _=>trivial
    replace hx0:=(hx0.trans hx1).trans hx2;have hqs:=Nat.lt_of_lt_of_le hqs (hx1.trans hx2).size;clear hS hx1 hx2;go_wp2_with fail
    (try rw [hz5])
    (try rw [hW4])
    clear hW4 hz5;refine HK.out _ _ ?_;clear HK K
    by_cases he:er=0
    ·subst he
     (try rw [show ((0:Nat):Int)=0 from rfl])
     obtain⟨HLN0,H00,HALL0,HEA0⟩:=HOK.out rfl;have HLN:=zH (show te.length=se.length from HLN0);have H0:=zH (show ofM ta b=0 from H00);have HALL:=zH (show ta=zar sa b from HALL0);have HEA:=zH HEA0;have HLA:sa.length<=1000000:=Nat.le_trans LS.out.all (by decide);clear HLN0 H00 HALL0 HEA0 HER HOK;refine wp_seq_k ?_;intro K hK;have HK:=zH hK;clear hK;go_wp2_with fail;refine HK.out _ _ ?_;clear HK K;obtain⟨Wx,hWx⟩:∃ X,W4=X:=⟨_,rfl⟩
     rw [hWx] at rA rP rT sA sT hx0 hqs ⊢;clear hWx;refine wp_seq_k ?_;intro K hK;have HK:=zH hK;clear hK;refine wp_seq_k ?_;intro K2 hK2;have HK2:=zH hK2;clear hK2;refine zao [fun v _=>v=.pointer (some ⟨z5,1,none⟩),fun v _=>v=.slice C2 te.length c2,fun v _=>v=I se.length,fun v _=>v=.pointer (some ⟨q0,1,none⟩),fun v _=>v=.slice A2 se.length n2,fun v _=>v=I se.length,fun v _=>v=.bool false,fun v _=>v=.bool false,fun v _=>v=.pointer (some ⟨z5,0,none⟩),fun v _=>v=.slice C1 ta.length c1,fun v _=>v=.pointer (some ⟨q0+1,0,none⟩),fun v _=>v=St b,fun v _=>v=.int .u64 0,fun v _=>v=.bool false,fun v _=>v=.bool false,fun v _=>v=.bool false,fun v _=>v=.pointer (some ⟨q0,0,none⟩),fun v _=>v=.slice A1 sa.length n1,fun v _=>v=.pointer (some ⟨q0+1,0,none⟩),fun v _=>v=St b,fun v W=>Own W Wx.heap.size 97 2 v (zar sa b).length ((zar sa b).flatMap zae),fun v _=>v=.pointer (some ⟨z5,0,none⟩),fun v _=>v=.slice C1 ta.length c1,fun v _=>v=.bool true,fun v _=>v=.bool false] rfl (by kernel_rfl) ?hR ?hstep ?hend
     case hR=>simp only [List.mem_cons,List.not_mem_nil,or_false,forall_eq_or_imp,forall_eq];exact⟨kP,kP,kP,kP,kP,kP,kP,kP,kP,kP,kP,kP,kP,kP,kP,kP,kP,kP,kP,kP,fun v _ _ h he=>h.ext he,kP,kP,kP,kP⟩
     case hstep =>
      simp only [List.length_cons,List.length_nil,Nat.reduceAdd,List.take_succ_cons,List.take_zero,za6,and_true];refine ⟨?_,?_,?_,?_,?_,?_,?_,?_,?_,?_,?_,?_,?_,?_,?_,?_,?_,?_,?_,?_,?_,?_,?_,?_,?_⟩
      ·intro x W he f;have h0:x 5=.pointer (some ⟨z5,0,none⟩):=f.1;go_wp;exact sQ
      ·intro x W he f;have h0:x 67=.pointer (some ⟨z5,1,none⟩):=f.1;have q1:=(rT.ext he).cell (j:=1) rfl;go_wp;exact sQ
      ·intro x W he f;have h0:x 68=.slice C2 te.length c2:=f.1;rw [HLN.out] at h0;go_wp;exact sQ
      ·intro x W he f;have h0:x 2=.pointer (some ⟨q0,0,none⟩):=f.1;go_wp;exact sQ
      ·intro x W he f;have h0:x 70=.pointer (some ⟨q0,1,none⟩):=f.1;have q1:=(rA.ext he).cell (j:=1) rfl;go_wp;exact sQ
      ·intro x W he f;have h0:x 71=.slice A2 se.length n2:=f.1;go_wp;exact sQ
      ·intro x W he f;have h0:x 69=I se.length:=f.1;have h1:x 72=I se.length:=f.2.1;go_wp;exact sQ
      ·intro x W he f;have h0:x 73=.bool false:=f.1;go_wp;exact sQ
      ·intro x W he f;have hg:x 74=.bool false:=f.2.1;have h0:x 5=.pointer (some ⟨z5,0,none⟩):=f.1;go_wp;exact sQ
      ·intro x W he f;have hg:x 74=.bool false:=f.2.1;have h0:x 75=.pointer (some ⟨z5,0,none⟩):=f.1;have q0:=(rT.ext he).cell (j:=0) rfl;go_wp;exact sQ
      ·intro x W he f;have hg:x 74=.bool false:=f.2.1;have h0:x 3=.pointer (some ⟨q0+1,0,none⟩):=f.1;go_wp;exact sQ
      ·intro x W he f;have hg:x 74=.bool false:=f.2.1;have h0:x 77=.pointer (some ⟨q0+1,0,none⟩):=f.1;have q0:=(rP.ext he).cell (j:=0) rfl;go_wp;exact sQ
      ·intro x W he f;have hg:x 74=.bool false:=f.2.2.1;have h0:x 76=.slice C1 ta.length c1:=f.1;have h1:x 78=St b:=f.2.1;have HC:=zH (zcw b (sT.all.ext (by decide) he));rw [H0.out] at HC;go_wp;refine HC.out.mono ?_;rintro r W3 ⟨rfl,hx3⟩;dsimp only;go_wp;exact zaa rfl hx3
      ·intro x W he f;have hg:x 74=.bool false:=f.2.1;have h0:x 79=.int .u64 0:=f.1;go_wp;exact sQ
      ·intro x W he f;have h0:x 74=.bool false:=f.1;have h1:x 80=.bool false:=f.2.1;go_wp;exact sQ
      ·intro x W he f;have h0:x 81=.bool false:=f.1;go_wp;exact sQ
      ·intro x W he f;have hg:x 82=.bool false:=f.2.1;have h0:x 2=.pointer (some ⟨q0,0,none⟩):=f.1;go_wp;exact sQ
      ·intro x W he f;have hg:x 82=.bool false:=f.2.1;have h0:x 83=.pointer (some ⟨q0,0,none⟩):=f.1;have q0:=(rA.ext he).cell (j:=0) rfl;go_wp;exact sQ
      ·intro x W he f;have hg:x 82=.bool false:=f.2.1;have h0:x 3=.pointer (some ⟨q0+1,0,none⟩):=f.1;go_wp;exact sQ
      ·intro x W he f;have hg:x 82=.bool false:=f.2.1;have h0:x 85=.pointer (some ⟨q0+1,0,none⟩):=f.1;have q0:=(rP.ext he).cell (j:=0) rfl;go_wp;exact sQ
      ·intro x W he f;have hg:x 82=.bool false:=f.2.2.1;have h0:x 84=.slice A1 sa.length n1:=f.1;have h1:x 86=St b:=f.2.1;have hs:=he.size;have HC:=zH (zqu b (sA.all.ext (by decide) he) HLA);go_wp;refine HC.out.mono ?_;rintro r W3 ⟨v3,rfl,hv3,hx3⟩;dsimp only;go_wp;exact zaa (v:=v3) (hv3.lower hs) hx3
      ·intro x W he f;have hg:x 82=.bool false:=f.2.1;have h0:x 5=.pointer (some ⟨z5,0,none⟩):=f.1;go_wp;exact sQ
      ·intro x W he f;have hg:x 82=.bool false:=f.2.1;have h0:x 88=.pointer (some ⟨z5,0,none⟩):=f.1;have q0:=(rT.ext he).cell (j:=0) rfl;go_wp;exact sQ
      ·intro x W he f;have hg:x 82=.bool false:=f.2.2.1;have h0:Own W Wx.heap.size 97 2 (x 87) (zar sa b).length ((zar sa b).flatMap zae):=f.1;have h1:x 89=.slice C1 ta.length c1:=f.2.1;have HC:=zH (zfv (A:=zar sa b) (B:=ta) (zay h0) (sT.all.ext (by decide) he));rw [show decide (zar sa b=ta)=true from decide_eq_true HALL.out.symm] at HC;clear h0;go_wp;refine HC.out.mono ?_;rintro r W3 ⟨rfl,hx3⟩;dsimp only;go_wp;exact zaa rfl hx3
      ·intro x W he f;have hg:x 82=.bool false:=f.2.1;have h0:x 90=.bool true:=f.1;go_wp;exact sQ
     case hend =>
      intro x Wz hxz f;have e82:x 82=.bool false:=f.2.2.2.2.2.2.2.2.2.2.2.2.2.2.2.1;have e91:x 91=.bool false:=f.2.2.2.2.2.2.2.2.2.2.2.2.2.2.2.2.2.2.2.2.2.2.2.2.1;clear f;simp only [List.length_cons,List.length_nil,Nat.reduceAdd,List.take_succ_cons,List.take_zero,List.filterMap_cons,List.filterMap_nil,List.drop_succ_cons,List.drop_zero,zav,Act.put,List.setIfInBounds_toArray,List.set_cons_succ,List.set_cons_zero,e82,e91];replace rA:=rA.ext hxz;replace rP:=rP.ext hxz;replace rT:=rT.ext hxz;replace sA:=sA.ext hxz;replace sT:=sT.ext hxz;replace hx0:=hx0.trans hxz;have hqs:=Nat.lt_of_lt_of_le hqs hxz.size;clear hxz;go_wp2_with fail;refine HK2.out _ _ ?_;clear HK2 K2;go_wp2_with fail;refine HK.out _ _ ?_;clear HK K;refine wp_seq_k ?_;intro K hK;have HK:=zH hK;clear hK;clear HLA H0 HALL;go_wp2_with fail
      go_loopw [7] (fun i wr=>∃ pre post,se=pre++post/\i=I pre.length/\Ext Wz wr) (fun i _=>se.length - (intOf i).toNat)
      case atStart=>exact⟨[],se,rfl,rfl,Ext.refl _⟩
      case round =>
       obtain⟨pre,post,hl,rfl,hxr⟩:=hrel
       cases post with
       | nil=>rw [List.append_nil] at hl;have hln:se.length=pre.length:=(by rw [hl]);have rAr:=rA.ext hxr;obtain⟨k0,k1,k2⟩:=rAr.p3;replace hx0:=hx0.trans hxr;clear hl rA rP rT sA sT hxr rAr;go_wp2_with fail;refine HK.out _ _ ?_;clear HK;go_wp2_with fail;refine (zeh _).mono ?_;rintro r Z9 ⟨rfl,hxz⟩;have HX:=zH (hx0.trans hxz);go_wp2_with fail;go_ret;exact⟨rfl,HX.out⟩
       | cons x post =>
        have hlt:pre.length < se.length:=(by rw [hl];simp);have hlt2:pre.length < te.length:=(by rw [HLN.out];exact hlt);obtain⟨y,hy⟩:∃ y,te[pre.length]? = some y:=⟨_,List.getElem?_eq_getElem hlt2⟩
        have hxs0:se[pre.length]? = some x:=(by rw [hl];simp);have hl2:te=te.take pre.length++y :: te.drop (pre.length+1):=(by rw [<- (List.getElem?_eq_some_iff.1 hy).2,List.getElem_cons_drop,List.take_append_drop]);have htk:(te.take pre.length).length=pre.length:=(by rw [List.length_take];omega);have HEO:=zH (HEA.out _ x y hxs0 hy);have HAT:=zH (ztg HMS.out.rise HLN.out HEA.out hxs0 hy);have hme:=HMS.out.each x (List.mem_of_getElem? hxs0);have HME:=zH hme.1;have hlx:=LS.out.each x (List.mem_of_getElem? hxs0);have HB1:=zH (show x.key.length<=1000000 from Nat.le_trans (HKEY.out x (List.mem_of_getElem? hxs0)) (by decide));have HB2:=zH (Nat.le_trans hlx.counts (show 400<=1000000 by decide));have HB3:=zH (Nat.le_trans hlx.places (show 400<=400000 by decide));have HLY:=zH (HLT.out.each y (List.mem_of_getElem? hy));have HSM:=zH (fun e he=>(HLT.out.each e he).small (n:=401) (by decide):∀ e ∈ te,SmallE e);obtain⟨b1,o1,w1,w2,w3,rfl,ex0,ex1,ex2,ex3,ex4,ex5,ex6,hEX⟩:=zcv sA.entries hxr hl;obtain⟨b2,o2,z1,z2,z3,rfl,ey0,ey1,ey2,ey3,ey4,ey5,ey6,hEY⟩:=zcv sT.entries hxr hl2;rw [htk] at ey0 ey1 ey2 ey3 ey4 ey5 ey6;obtain⟨X1,x1,rfl,-,-⟩:=hEX.seen.form;obtain⟨X2,x2,rfl,-,-⟩:=hEX.counts.form;obtain⟨X3,x3,rfl,-,-⟩:=hEX.items.form;obtain⟨Y1,y1,rfl,-,-⟩:=hEY.seen.form;obtain⟨Y2,y2,rfl,-,-⟩:=hEY.counts.form;obtain⟨Y3,y3,rfl,-,-⟩:=hEY.items.form;have HL:=zH hl;have rAr:=rA.ext hxr;obtain⟨k0,k1,k2⟩:=rAr.p3;clear hl hl2 htk hy hxs0 hme hlx;go_wp2_with fail;rename_i K9 hK9 K8 hK8;have HK9:=zH hK9;have HK8:=zH hK8;clear hK9 hK8 k0 k1 k2;refine zgl [some fun v=>v=.pointer (some ⟨q0,1,none⟩),some fun v=>v=.slice (some ⟨b1,o1,none⟩) se.length n2,some fun v=>v=I pre.length,some fun v=>v=.pointer (some ⟨b1,o1+pre.length * 7,none⟩),some fun v=>v=entV x (.slice X1 x.seen.length x1) (.slice X2 x.counts.length x2) (.slice X3 x.items.length x3),some fun v=>v=.pointer (some ⟨z5,1,none⟩),some fun v=>v=.slice (some ⟨b2,o2,none⟩) te.length c2,some fun v=>v=I pre.length,some fun v=>v=.pointer (some ⟨b2,o2+pre.length * 7,none⟩),some fun v=>v=entV y (.slice Y1 y.seen.length y1) (.slice Y2 y.counts.length y2) (.slice Y3 y.items.length y3),none,none,none] (fun st W=>Box2 wr.heap.size 46 zyx (fun i=>[entL x (.slice X1 x.seen.length x1) (.slice X2 x.counts.length x2) (.slice X3 x.items.length x3),entL y (.slice Y1 y.seen.length y1) (.slice Y2 y.counts.length y2) (.slice Y3 y.items.length y3)].getD i []) 10 st W/\st 13=none) rfl (by kernel_rfl) ?hK ?h0 ?hstep ?hend
        case hK=>exact fun st w w' h he=>⟨h.1.ext he,h.2⟩
        case h0=>exact⟨Box2.start _,rfl⟩
        case hstep =>
         simp only [List.length_cons,List.length_nil,Nat.reduceAdd,List.take_succ_cons,List.take_zero,zgj,zia,and_true];refine ⟨?_,?_,?_,?_,?_,?_,?_,?_,?_,?_,?_,?_,?_⟩
         ·intro x_ W st he hK f;have h0:x_ 2=.pointer (some ⟨q0,0,none⟩):=f.1;clear hK;go_wp;exact sQ
         ·intro x_ W st he hK f;have h0:x_ 100=.pointer (some ⟨q0,1,none⟩):=f.1;clear hK;have q1:=((rA.ext hxr).ext he).cell (j:=1) rfl;go_wp;exact sQ
         ·intro x_ W st he hK f;have h0:x_ 7=I pre.length:=f.1;clear hK;go_wp;exact sQ
         ·intro x_ W st he hK f;have h0:x_ 101=.slice (some ⟨b1,o1,none⟩) se.length n2:=f.1;have h1:x_ 102=I pre.length:=f.2.1;clear hK;go_wp;exact sQ
         ·intro x_ W st he hK f;have h0:x_ 103=.pointer (some ⟨b1,o1+pre.length * 7,none⟩):=f.1;clear hK;have d0:=he.cell ex0;have d1:=he.cell ex1;have d2:=he.cell ex2;have d3:=he.cell ex3;have d4:=he.cell ex4;have d5:=he.cell ex5;have d6:=he.cell ex6;go_wp;exact sQ
         ·intro x_ W st he hK f;have h0:x_ 5=.pointer (some ⟨z5,0,none⟩):=f.1;clear hK;go_wp;exact sQ
         ·intro x_ W st he hK f;have h0:x_ 105=.pointer (some ⟨z5,1,none⟩):=f.1;clear hK;have q1:=((rT.ext hxr).ext he).cell (j:=1) rfl;go_wp;exact sQ
         ·intro x_ W st he hK f;have h0:x_ 7=I pre.length:=f.1;clear hK;go_wp;exact sQ
         ·intro x_ W st he hK f;have h0:x_ 106=.slice (some ⟨b2,o2,none⟩) te.length c2:=f.1;have h1:x_ 107=I pre.length:=f.2.1;clear hK;go_wp;exact sQ
         ·intro x_ W st he hK f;have h0:x_ 108=.pointer (some ⟨b2,o2+pre.length * 7,none⟩):=f.1;clear hK;have d0:=he.cell ey0;have d1:=he.cell ey1;have d2:=he.cell ey2;have d3:=he.cell ey3;have d4:=he.cell ey4;have d5:=he.cell ey5;have d6:=he.cell ey6;go_wp;exact sQ
         ·intro x_ W st he hK hn f;have HK2:=zH hK;clear hK;go_wp;exact zec ⟨⟨HK2.out.1.alloc (k:=0) (by decide) hn he.size,by rw [zaj st _ (by decide)];exact HK2.out.2⟩,he.alloc _⟩
         ·intro x_ W st he hK hn f;have HK2:=zH hK;clear hK;go_wp;exact zec ⟨⟨HK2.out.1.alloc (k:=1) (by decide) hn he.size,by rw [zaj st _ (by decide)];exact HK2.out.2⟩,he.alloc _⟩
         ·intro x_ W st he hK hn f;have h0:st 10=some (x_ 8):=f.1;have h1:x_ 104=entV x (.slice X1 x.seen.length x1) (.slice X2 x.counts.length x2) (.slice X3 x.items.length x3):=f.2.1;obtain⟨g2,hp,hg2,hr,hfin⟩:=hK.1.store (k:=0) (by decide) h0 hn;obtain⟨r0,r1,r2,r3,r4,r5,r6⟩:=hr.p7;obtain⟨y0,y1,y2,y3,y4,y5,y6⟩:=hr.q7;have hfi:=hfin (put7 W g2 x (.slice X1 x.seen.length x1) (.slice X2 x.counts.length x2) (.slice X3 x.items.length x3)) (.bool true) (zi4 (e0:=zam) hr) (Nat.le_of_eq (zjx _ _ _ _ _ _).symm) (fun y hy=>zge _ _ _ _ _ _ y hy);have hxe:=zdv he hg2 x (.slice X1 x.seen.length x1) (.slice X2 x.counts.length x2) (.slice X3 x.items.length x3);have HK2:=zH hfi;have H17:=zH hK.2;have HXE:=zH hxe;clear hK hfin hfi hxe hr h0;go_wp;exact zec (v:=.bool true) ⟨⟨HK2.out,by rw [zaj st _ (by decide)];exact H17.out⟩,HXE.out⟩
        case hend =>
         intro x_ W8 st hx1 hK hn f;have h8:st 10=some (x_ 8):=f.2.2.2.2.2.2.2.2.2.2.1;have h9:st 11=some (x_ 9):=f.2.2.2.2.2.2.2.2.2.2.2.1;have h109:x_ 109=entV y (.slice Y1 y.seen.length y1) (.slice Y2 y.counts.length y2) (.slice Y3 y.items.length y3):=f.2.2.2.2.2.2.2.2.2.1;obtain⟨g0,g1,e8,e9,hr0,hr1,hd,hN0,hN1⟩:=hK.1.done h8 h9 (hn 12 (show 12 < 13 by decide) rfl) hK.2;have k0:RowIs (((((((W8.setCell ⟨g1,0,none⟩ (St y.key)).setCell ⟨g1,1,none⟩ (.slice Y1 y.seen.length y1)).setCell ⟨g1,2,none⟩ (.slice Y2 y.counts.length y2)).setCell ⟨g1,3,none⟩ (.slice Y3 y.items.length y3)).setCell ⟨g1,4,none⟩ (U y.cell.1)).setCell ⟨g1,5,none⟩ (St y.cell.2.1)).setCell ⟨g1,6,none⟩ (.bool y.cell.2.2)) g0 46 (entL x (.slice X1 x.seen.length x1) (.slice X2 x.counts.length x2) (.slice X3 x.items.length x3)) []:=hr0.keep (zge W8 g1 y (.slice Y1 y.seen.length y1) (.slice Y2 y.counts.length y2) (.slice Y3 y.items.length y3) g0 (Ne.symm hd));have k1:RowIs (((((((W8.setCell ⟨g1,0,none⟩ (St y.key)).setCell ⟨g1,1,none⟩ (.slice Y1 y.seen.length y1)).setCell ⟨g1,2,none⟩ (.slice Y2 y.counts.length y2)).setCell ⟨g1,3,none⟩ (.slice Y3 y.items.length y3)).setCell ⟨g1,4,none⟩ (U y.cell.1)).setCell ⟨g1,5,none⟩ (St y.cell.2.1)).setCell ⟨g1,6,none⟩ (.bool y.cell.2.2)) g1 46 (entL y (.slice Y1 y.seen.length y1) (.slice Y2 y.counts.length y2) (.slice Y3 y.items.length y3)) []:=zi4 (e0:=zam) hr1;have kx:Ext wr (((((((W8.setCell ⟨g1,0,none⟩ (St y.key)).setCell ⟨g1,1,none⟩ (.slice Y1 y.seen.length y1)).setCell ⟨g1,2,none⟩ (.slice Y2 y.counts.length y2)).setCell ⟨g1,3,none⟩ (.slice Y3 y.items.length y3)).setCell ⟨g1,4,none⟩ (U y.cell.1)).setCell ⟨g1,5,none⟩ (St y.cell.2.1)).setCell ⟨g1,6,none⟩ (.bool y.cell.2.2)):=zdv hx1 hN1 y (.slice Y1 y.seen.length y1) (.slice Y2 y.counts.length y2) (.slice Y3 y.items.length y3);obtain⟨r0,r1,r2,r3,r4,r5,r6⟩:=hr1.p7;obtain⟨fr0,fr1,fr2,fr3,fr4,fr5,fr6⟩:=hr1.q7;obtain⟨Wy,hWy⟩:∃ X,(((((((W8.setCell ⟨g1,0,none⟩ (St y.key)).setCell ⟨g1,1,none⟩ (.slice Y1 y.seen.length y1)).setCell ⟨g1,2,none⟩ (.slice Y2 y.counts.length y2)).setCell ⟨g1,3,none⟩ (.slice Y3 y.items.length y3)).setCell ⟨g1,4,none⟩ (U y.cell.1)).setCell ⟨g1,5,none⟩ (St y.cell.2.1)).setCell ⟨g1,6,none⟩ (.bool y.cell.2.2))=X:=⟨_,rfl⟩
         rw [hWy] at k0 k1 kx;have HWy:=zH hWy;have HXr:=zH (hxr.trans kx);have HR0:=zH k0;have HR1:=zH k1;have HXX:=zH (hEX.ext (hxr.trans kx));have HXY:=zH (hEY.ext (hxr.trans kx));clear hr0 hr1 hK hn f h8 h9 hd hN0 hN1 hx1 k0 k1 kx hWy;simp only [List.length_cons,List.length_nil,Nat.reduceAdd,List.take_succ_cons,List.take_zero,List.filterMap_cons,List.filterMap_nil,List.drop_succ_cons,List.drop_zero,zav,Act.put,List.setIfInBounds_toArray,List.set_cons_succ,List.set_cons_zero,e8,e9,h109];go_wp
         (try rw [HWy.out])
         refine HK8.out _ _ ?_;clear HK8 K8 r0 r1 r2 r3 r4 r5 r6 fr0 fr1 fr2 fr3 fr4 fr5 fr6 HWy rAr ex0 ex1 ex2 ex3 ex4 ex5 ex6 ey0 ey1 ey2 ey3 ey4 ey5 ey6 hEX hEY;have rPy:=rP.ext HXr.out;have rTy:=rT.ext HXr.out;have sTy:=sT.ext HXr.out;refine wp_seq_k ?_;intro K hK;have HK:=zH hK;clear hK;refine wp_seq_k ?_;intro K2 hK2;have HK2:=zH hK2;clear hK2;rcases Nat.eq_zero_or_pos (ofM x.seen b) with hz | hz
         ·have HZ:=zH hz;have HSE:=zH (show zbb x y=true by rw [HEO.out.same hz];exact sameE_iff.2 rfl);clear hz;refine zao [fun v _=>v=.pointer (some ⟨g0,1,none⟩),fun v _=>v=.slice X1 x.seen.length x1,fun v _=>v=.pointer (some ⟨q0+1,0,none⟩),fun v _=>v=St b,fun v _=>v=U (ofM x.seen b),fun v _=>v=.bool true,fun v _=>v=.bool true,fun v _=>v=entV x (.slice X1 x.seen.length x1) (.slice X2 x.counts.length x2) (.slice X3 x.items.length x3),fun v _=>v=entV y (.slice Y1 y.seen.length y1) (.slice Y2 y.counts.length y2) (.slice Y3 y.items.length y3),fun v _=>v=.bool true,fun v _=>v=.bool false,fun v _=>v=.bool false,fun v _=>v=.bool false,fun v _=>v=stV (.slice C1 ta.length c1) (.slice (some ⟨b2,o2,none⟩) te.length c2) (.slice C3 tp.length c3),fun v _=>v=.pointer (some ⟨g0,0,none⟩),fun v _=>v=St x.key,fun v W=>ValAt W Wy.heap.size y v,fun v _=>v=entV x (.slice X1 x.seen.length x1) (.slice X2 x.counts.length x2) (.slice X3 x.items.length x3),fun v W=>ValR W Wy.heap.size x v,fun v _=>v=.bool true,fun v _=>v=.bool false,fun v _=>v=.bool false,fun v _=>v=.bool false,fun v _=>v=.pointer (some ⟨g1,1,none⟩),fun v _=>v=.slice Y1 y.seen.length y1,fun v _=>v=.pointer (some ⟨q0+1,0,none⟩),fun v _=>v=St b,fun v _=>v=.int .u64 0,fun v _=>v=.bool false] rfl (by kernel_rfl) ?hR ?hstep ?hend
          case hR=>simp only [List.mem_cons,List.not_mem_nil,or_false,forall_eq_or_imp,forall_eq];exact⟨kP,kP,kP,kP,kP,kP,kP,kP,kP,kP,kP,kP,kP,kP,kP,kP,fun v _ _ h he=>h.ext he,kP,fun v _ _ h he=>h.ext he,kP,kP,kP,kP,kP,kP,kP,kP,kP,kP⟩
          case hstep =>
           simp only [List.length_cons,List.length_nil,Nat.reduceAdd,List.take_succ_cons,List.take_zero,za6,and_true];refine ⟨?_,?_,?_,?_,?_,?_,?_,?_,?_,?_,?_,?_,?_,?_,?_,?_,?_,?_,?_,?_,?_,?_,?_,?_,?_,?_,?_,?_,?_⟩
           ·intro x_ W he f;have h0:x_ 8=.pointer (some ⟨g0,0,none⟩):=f.1;go_wp;exact sQ
           ·intro x_ W he f;have h0:x_ 110=.pointer (some ⟨g0,1,none⟩):=f.1;have q1:=(HR0.out.ext he).cell (j:=1) rfl;go_wp;exact sQ
           ·intro x_ W he f;have h0:x_ 3=.pointer (some ⟨q0+1,0,none⟩):=f.1;go_wp;exact sQ
           ·intro x_ W he f;have h0:x_ 112=.pointer (some ⟨q0+1,0,none⟩):=f.1;have q0:=(rPy.ext he).cell (j:=0) rfl;go_wp;exact sQ
           ·intro x_ W he f;have h0:x_ 111=.slice X1 x.seen.length x1:=f.1;have h1:x_ 113=St b:=f.2.1;have HC:=zH (zcw b (HXX.out.seen.ext (by decide) he));go_wp;refine HC.out.mono ?_;rintro r W3 ⟨rfl,hx3⟩;dsimp only;go_wp;exact zaa rfl hx3
           ·intro x_ W he f;have h0:x_ 114=U (ofM x.seen b):=f.1;have hz:=HZ.out;rw [hz] at h0;go_wp;exact sQ
           ·intro x_ W he f;have h0:x_ 115=.bool true:=f.1;go_wp;exact sQ
           ·intro x_ W he f;have hg:x_ 116=.bool true:=f.2.1;have h0:x_ 8=.pointer (some ⟨g0,0,none⟩):=f.1;have q0:=(HR0.out.ext he).cell (j:=0) rfl;have q1:=(HR0.out.ext he).cell (j:=1) rfl;have q2:=(HR0.out.ext he).cell (j:=2) rfl;have q3:=(HR0.out.ext he).cell (j:=3) rfl;have q4:=(HR0.out.ext he).cell (j:=4) rfl;have q5:=(HR0.out.ext he).cell (j:=5) rfl;have q6:=(HR0.out.ext he).cell (j:=6) rfl;go_wp;exact sQ
           ·intro x_ W he f;have hg:x_ 116=.bool true:=f.2.1;have h0:x_ 9=.pointer (some ⟨g1,0,none⟩):=f.1;have q0:=(HR1.out.ext he).cell (j:=0) rfl;have q1:=(HR1.out.ext he).cell (j:=1) rfl;have q2:=(HR1.out.ext he).cell (j:=2) rfl;have q3:=(HR1.out.ext he).cell (j:=3) rfl;have q4:=(HR1.out.ext he).cell (j:=4) rfl;have q5:=(HR1.out.ext he).cell (j:=5) rfl;have q6:=(HR1.out.ext he).cell (j:=6) rfl;go_wp;exact sQ
           ·intro x_ W he f;have hg:x_ 116=.bool true:=f.2.2.1;have h0:x_ 117=entV x (.slice X1 x.seen.length x1) (.slice X2 x.counts.length x2) (.slice X3 x.items.length x3):=f.1;have h1:x_ 118=entV y (.slice Y1 y.seen.length y1) (.slice Y2 y.counts.length y2) (.slice Y3 y.items.length y3):=f.2.1;have HC:=zH (zkx (HXX.out.ext he) (HXY.out.ext he));rw [show zbb x y=true from HSE.out] at HC;go_wp;refine HC.out.mono ?_;rintro r W3 ⟨rfl,hx3⟩;dsimp only;go_wp;exact zaa rfl hx3
           ·intro x_ W he f;have hg:x_ 116=.bool true:=f.2.1;have h0:x_ 119=.bool true:=f.1;go_wp;exact sQ
           ·intro x_ W he f;have h0:x_ 116=.bool true:=f.1;have h1:x_ 120=.bool false:=f.2.1;go_wp;exact sQ
           ·intro x_ W he f;have h0:x_ 121=.bool false:=f.1;go_wp;exact sQ
           ·intro x_ W he f;have hg:x_ 122=.bool false:=f.2.1;have h0:x_ 5=.pointer (some ⟨z5,0,none⟩):=f.1;have q0:=(rTy.ext he).cell (j:=0) rfl;have q1:=(rTy.ext he).cell (j:=1) rfl;have q2:=(rTy.ext he).cell (j:=2) rfl;go_wp;exact sQ
           ·intro x_ W he f;have hg:x_ 122=.bool false:=f.2.1;have h0:x_ 8=.pointer (some ⟨g0,0,none⟩):=f.1;go_wp;exact sQ
           ·intro x_ W he f;have hg:x_ 122=.bool false:=f.2.1;have h0:x_ 124=.pointer (some ⟨g0,0,none⟩):=f.1;have q0:=(HR0.out.ext he).cell (j:=0) rfl;go_wp;exact sQ
           ·intro x_ W he f;have hg:x_ 122=.bool false:=f.2.2.1;have h0:x_ 123=stV (.slice C1 ta.length c1) (.slice (some ⟨b2,o2,none⟩) te.length c2) (.slice C3 tp.length c3):=f.1;have h1:x_ 125=St x.key:=f.2.1;have hs:=he.size;have HC:=zH (zla x.key (sTy.ext he) HSM.out);rw [HAT.out] at HC;go_wp;refine HC.out.mono ?_;rintro r W3 ⟨v3,rfl,hv3,hx3⟩;dsimp only;go_wp;exact zaa (v:=v3) (hv3.lower hs) hx3
           ·intro x_ W he f;have hg:x_ 122=.bool false:=f.2.1;have h0:x_ 8=.pointer (some ⟨g0,0,none⟩):=f.1;have q0:=(HR0.out.ext he).cell (j:=0) rfl;have q1:=(HR0.out.ext he).cell (j:=1) rfl;have q2:=(HR0.out.ext he).cell (j:=2) rfl;have q3:=(HR0.out.ext he).cell (j:=3) rfl;have q4:=(HR0.out.ext he).cell (j:=4) rfl;have q5:=(HR0.out.ext he).cell (j:=5) rfl;have q6:=(HR0.out.ext he).cell (j:=6) rfl;go_wp;exact sQ
           ·intro x_ W he f;have hg:x_ 122=.bool false:=f.2.1;have h0:x_ 127=entV x (.slice X1 x.seen.length x1) (.slice X2 x.counts.length x2) (.slice X3 x.items.length x3):=f.1;have hs:=he.size;have HC:=zH (zkz (HXX.out.ext he) HME.out HB1.out HB2.out HB3.out);go_wp;refine HC.out.mono ?_;rintro r W3 ⟨v3,rfl,hv3,hx3⟩;dsimp only;go_wp;exact zaa (v:=v3) (hv3.lower hs) hx3
           ·intro x_ W he f;have hg:x_ 122=.bool false:=f.2.2.1;have h0:ValAt W Wy.heap.size y (x_ 126):=f.1;have h1:ValR W Wy.heap.size x (x_ 128):=f.2.1;have HC:=zH (zvu HME.out HEO.out h0 h1);clear h0 h1;go_wp;refine HC.out.mono ?_;rintro r W3 ⟨rfl,hx3⟩;dsimp only;go_wp;exact zaa rfl hx3
           ·intro x_ W he f;have hg:x_ 122=.bool false:=f.2.1;have h0:x_ 129=.bool true:=f.1;go_wp;exact sQ
           ·intro x_ W he f;have h0:x_ 122=.bool false:=f.1;have h1:x_ 130=.bool false:=f.2.1;go_wp;exact sQ
           ·intro x_ W he f;have h0:x_ 131=.bool false:=f.1;go_wp;exact sQ
           ·intro x_ W he f;have hg:x_ 132=.bool false:=f.2.1;have h0:x_ 9=.pointer (some ⟨g1,0,none⟩):=f.1;go_wp;exact sQ
           ·intro x_ W he f;have hg:x_ 132=.bool false:=f.2.1;have h0:x_ 133=.pointer (some ⟨g1,1,none⟩):=f.1;have q1:=(HR1.out.ext he).cell (j:=1) rfl;go_wp;exact sQ
           ·intro x_ W he f;have hg:x_ 132=.bool false:=f.2.1;have h0:x_ 3=.pointer (some ⟨q0+1,0,none⟩):=f.1;go_wp;exact sQ
           ·intro x_ W he f;have hg:x_ 132=.bool false:=f.2.1;have h0:x_ 135=.pointer (some ⟨q0+1,0,none⟩):=f.1;have q0:=(rPy.ext he).cell (j:=0) rfl;go_wp;exact sQ
           ·intro x_ W he f;have hg:x_ 132=.bool false:=f.2.2.1;have h0:x_ 134=.slice Y1 y.seen.length y1:=f.1;have h1:x_ 136=St b:=f.2.1;have HC:=zH (zcw b (HXY.out.seen.ext (by decide) he));rw [HEO.out.seen] at HC;go_wp;refine HC.out.mono ?_;rintro r W3 ⟨rfl,hx3⟩;dsimp only;go_wp;exact zaa rfl hx3
           ·intro x_ W he f;have hg:x_ 132=.bool false:=f.2.1;have h0:x_ 137=.int .u64 0:=f.1;go_wp;exact sQ
          case hend =>
           intro x_ Wn hxn f;have e132:x_ 132=.bool false:=f.2.2.2.2.2.2.2.2.2.2.2.2.2.2.2.2.2.2.2.2.2.2.1;have e138:x_ 138=.bool false:=f.2.2.2.2.2.2.2.2.2.2.2.2.2.2.2.2.2.2.2.2.2.2.2.2.2.2.2.2.1;clear f;simp only [List.length_cons,List.length_nil,Nat.reduceAdd,List.take_succ_cons,List.take_zero,List.filterMap_cons,List.filterMap_nil,List.drop_succ_cons,List.drop_zero,zav,Act.put,List.setIfInBounds_toArray,List.set_cons_succ,List.set_cons_zero,e132,e138];have HXr2:=zH (HXr.out.trans hxn);have HR1n:=zH (HR1.out.ext hxn);have HXYn:=zH (HXY.out.ext hxn);have rPn:=rP.ext HXr2.out;have hyc:=HLY.out.counts;have hsl:se.length<=400:=LS.out.entries;have hyi:=HLY.out.items;have HYD:=zH HLY.out.dots;clear HR0 HR1 HXX HXY hxn rPy rTy sTy HSM HZ HXr HLY;go_wp2_with fail;refine HK2.out _ _ ?_;clear HK2 K2;go_wp2_with fail;refine HK.out _ _ ?_;clear HK K;refine wp_seq_k ?_;intro K hK;have HK:=zH hK;clear hK;have g2:=HR1n.out.cell (j:=2) rfl;obtain⟨wo,rfl⟩:∃ wo:World,wo=wr:=⟨_,rfl⟩
           go_wp2_with fail
           go_loopw [10] (fun i wr=>∃ pre2 post2,y.counts=pre2++post2/\i=I pre2.length/\Ext Wn wr) (fun i _=>y.counts.length - (intOf i).toNat)
           case atStart=>exact⟨[],y.counts,rfl,rfl,Ext.refl _⟩
           case round =>
            obtain⟨pre2,post2,hl3,rfl,hxs⟩:=hrel;have g2:=(HR1n.out.ext hxs).cell (j:=2) rfl
            cases post2 with
            | cons m post2 =>
             obtain⟨b3,o3,rfl,em0,-,-⟩:=zcj HXYn.out.counts hxs hl3;have hlt3:pre2.length < y.counts.length:=(by rw [hl3];simp);have hne:(m.1 == b)=false:=(by have:=HEO.out.counts m (by rw [hl3];simp);simpa using this);have HL3:=zH hl3;clear hl3;go_wp2_with fail;refine zao [fun v _=>v=.pointer (some ⟨g1,2,none⟩),fun v _=>v=.slice (some ⟨b3,o3,none⟩) y.counts.length y2,fun v _=>v=I pre2.length,fun v _=>v=.pointer (some ⟨b3,o3+pre2.length * 3,none⟩),fun v _=>v=.pointer (some ⟨b3,o3+pre2.length * 3,none⟩),fun v _=>v=St m.1,fun v _=>v=.pointer (some ⟨q0+1,0,none⟩),fun v _=>v=St b] rfl (by kernel_rfl) ?hR ?hstep ?hend
             case hR=>simp only [List.mem_cons,List.not_mem_nil,or_false,forall_eq_or_imp,forall_eq];exact⟨kP,kP,kP,kP,kP,kP,kP,kP⟩
             case hstep =>
              simp only [List.length_cons,List.length_nil,Nat.reduceAdd,List.take_succ_cons,List.take_zero,za6,and_true];refine ⟨?_,?_,?_,?_,?_,?_,?_,?_⟩
              ·intro x_ W he f;have h0:x_ 9=.pointer (some ⟨g1,0,none⟩):=f.1;go_wp;exact sQ
              ·intro x_ W he f;have h0:x_ 147=.pointer (some ⟨g1,2,none⟩):=f.1;have q2:=((HR1n.out.ext hxs).ext he).cell (j:=2) rfl;go_wp;exact sQ
              ·intro x_ W he f;have h0:x_ 10=I pre2.length:=f.1;go_wp;exact sQ
              ·intro x_ W he f;have h0:x_ 148=.slice (some ⟨b3,o3,none⟩) y.counts.length y2:=f.1;have h1:x_ 149=I pre2.length:=f.2.1;go_wp;exact sQ
              ·intro x_ W he f;have h0:x_ 150=.pointer (some ⟨b3,o3+pre2.length * 3,none⟩):=f.1;go_wp;exact sQ
              ·intro x_ W he f;have h0:x_ 151=.pointer (some ⟨b3,o3+pre2.length * 3,none⟩):=f.1;have d0:=he.cell em0;go_wp;exact sQ
              ·intro x_ W he f;have h0:x_ 3=.pointer (some ⟨q0+1,0,none⟩):=f.1;go_wp;exact sQ
              ·intro x_ W he f;have h0:x_ 153=.pointer (some ⟨q0+1,0,none⟩):=f.1;have q0:=((rPn.ext hxs).ext he).cell (j:=0) rfl;go_wp;exact sQ
             case hend =>
              intro x_ Wm hxm f;have e152:x_ 152=St m.1:=f.2.2.2.2.2.1;have e154:x_ 154=St b:=f.2.2.2.2.2.2.2.1;clear f;simp only [List.length_cons,List.length_nil,Nat.reduceAdd,List.take_succ_cons,List.take_zero,List.filterMap_cons,List.filterMap_nil,List.drop_succ_cons,List.drop_zero,zav,Act.put,List.setIfInBounds_toArray,List.set_cons_succ,List.set_cons_zero,e152,e154];have HXM:=zH (hxs.trans hxm);clear em0 hxs hxm g2;go_wp2_with fail;go_roundw
              case rel=>exact⟨pre2++[m],post2,by rw [HL3.out];simp,by simp,HXM.out⟩
              case measure=>simp [intOf];omega
            | nil =>
             rw [List.append_nil] at hl3;have hln3:y.counts.length=pre2.length:=(by rw [hl3]);clear hl3;go_wp2_with fail;refine HK.out _ _ ?_;clear HK hln3 g2;have g3:=(HR1n.out.ext hxs).cell (j:=3) rfl;obtain⟨wo3,rfl⟩:∃ wo:World,wo=wr:=⟨_,rfl⟩
             go_wp2_with fail
             go_loopw [11] (fun i wr=>∃ pre2 post2,y.items=pre2++post2/\i=I pre2.length/\Ext Wn wr) (fun i _=>y.items.length - (intOf i).toNat)
             case atStart=>exact⟨[],y.items,rfl,rfl,hxs⟩
             case round =>
              clear g3;obtain⟨pre2,post2,hl3,rfl,hxs⟩:=hrel;have g3:=(HR1n.out.ext hxs).cell (j:=3) rfl
              cases post2 with
              | cons m post2 =>
               obtain⟨b3,o3,vd,rfl,-,en1,hds⟩:=zcp HXYn.out.items (Ext.refl _) hl3;have hlt3:pre2.length < y.items.length:=(by rw [hl3];simp);have hne:=fun d (hd:d ∈ m.2)=>HEO.out.items m (by rw [hl3];simp) d hd
               have hmd:=HYD.out m (by rw [hl3];simp);have HNE:=zH hne;have HL3:=zH hl3;clear hl3 hne;obtain⟨D4,d4,rfl,-,-⟩:=hds.form;have em1:=hxs.cell en1;obtain⟨wo4,rfl⟩:∃ wo:World,wo=wr:=⟨_,rfl⟩
               go_wp2_with fail
               go_loopw [12] (fun i wr=>∃ pre3 post3,m.2=pre3++post3/\i=I pre3.length/\Ext Wn wr) (fun i _=>m.2.length - (intOf i).toNat)
               case atStart=>exact⟨[],m.2,rfl,rfl,hxs⟩
               case round =>
                clear g3 em1 hxs;obtain⟨pre3,post3,hl4,rfl,hxs⟩:=hrel;have g3:=(HR1n.out.ext hxs).cell (j:=3) rfl;have em1:=hxs.cell en1
                cases post3 with
                | cons dd post3 =>
                 obtain⟨b4,o4,rfl,ed0,-⟩:=zer hds hxs hl4;have hlt4:pre3.length < m.2.length:=(by rw [hl4];simp);have hne:(dd.1 == b)=false:=(by have:=HNE.out dd (by rw [hl4];simp);simpa using this);have HL4:=zH hl4;clear hl4;go_wp2_with fail;refine zao [fun v _=>v=.pointer (some ⟨g1,3,none⟩),fun v _=>v=.slice (some ⟨b3,o3,none⟩) y.items.length y3,fun v _=>v=I pre2.length,fun v _=>v=.pointer (some ⟨b3,o3+pre2.length * 2,none⟩),fun v _=>v=.pointer (some ⟨b3,o3+pre2.length * 2+1,none⟩),fun v _=>v=.slice (some ⟨b4,o4,none⟩) m.2.length d4,fun v _=>v=I pre3.length,fun v _=>v=.pointer (some ⟨b4,o4+pre3.length * 2,none⟩),fun v _=>v=.pointer (some ⟨b4,o4+pre3.length * 2,none⟩),fun v _=>v=St dd.1,fun v _=>v=.pointer (some ⟨q0+1,0,none⟩),fun v _=>v=St b] rfl (by kernel_rfl) ?hR ?hstep ?hend
                 case hR=>simp only [List.mem_cons,List.not_mem_nil,or_false,forall_eq_or_imp,forall_eq];exact⟨kP,kP,kP,kP,kP,kP,kP,kP,kP,kP,kP,kP⟩
                 case hstep =>
                  simp only [List.length_cons,List.length_nil,Nat.reduceAdd,List.take_succ_cons,List.take_zero,za6,and_true];refine ⟨?_,?_,?_,?_,?_,?_,?_,?_,?_,?_,?_,?_⟩
                  ·intro x_ W he f;have h0:x_ 9=.pointer (some ⟨g1,0,none⟩):=f.1;go_wp;exact sQ
                  ·intro x_ W he f;have h0:x_ 174=.pointer (some ⟨g1,3,none⟩):=f.1;have q3:=((HR1n.out.ext hxs).ext he).cell (j:=3) rfl;go_wp;exact sQ
                  ·intro x_ W he f;have h0:x_ 11=I pre2.length:=f.1;go_wp;exact sQ
                  ·intro x_ W he f;have h0:x_ 175=.slice (some ⟨b3,o3,none⟩) y.items.length y3:=f.1;have h1:x_ 176=I pre2.length:=f.2.1;go_wp;exact sQ
                  ·intro x_ W he f;have h0:x_ 177=.pointer (some ⟨b3,o3+pre2.length * 2,none⟩):=f.1;go_wp;exact sQ
                  ·intro x_ W he f;have h0:x_ 178=.pointer (some ⟨b3,o3+pre2.length * 2+1,none⟩):=f.1;have d1:=he.cell em1;go_wp;exact sQ
                  ·intro x_ W he f;have h0:x_ 12=I pre3.length:=f.1;go_wp;exact sQ
                  ·intro x_ W he f;have h0:x_ 179=.slice (some ⟨b4,o4,none⟩) m.2.length d4:=f.1;have h1:x_ 180=I pre3.length:=f.2.1;go_wp;exact sQ
                  ·intro x_ W he f;have h0:x_ 181=.pointer (some ⟨b4,o4+pre3.length * 2,none⟩):=f.1;go_wp;exact sQ
                  ·intro x_ W he f;have h0:x_ 182=.pointer (some ⟨b4,o4+pre3.length * 2,none⟩):=f.1;have d0:=he.cell ed0;go_wp;exact sQ
                  ·intro x_ W he f;have h0:x_ 3=.pointer (some ⟨q0+1,0,none⟩):=f.1;go_wp;exact sQ
                  ·intro x_ W he f;have h0:x_ 184=.pointer (some ⟨q0+1,0,none⟩):=f.1;have q0:=((rPn.ext hxs).ext he).cell (j:=0) rfl;go_wp;exact sQ
                 case hend =>
                  intro x_ Wm hxm f;have e183:x_ 183=St dd.1:=f.2.2.2.2.2.2.2.2.2.1;have e185:x_ 185=St b:=f.2.2.2.2.2.2.2.2.2.2.2.1;clear f;simp only [List.length_cons,List.length_nil,Nat.reduceAdd,List.take_succ_cons,List.take_zero,List.filterMap_cons,List.filterMap_nil,List.drop_succ_cons,List.drop_zero,zav,Act.put,List.setIfInBounds_toArray,List.set_cons_succ,List.set_cons_zero,e183,e185];have HXM:=zH (hxs.trans hxm);clear ed0 em1 hxs hxm g3;go_wp2_with fail;go_roundw
                  case rel=>exact⟨pre3++[dd],post3,by rw [HL4.out];simp,by simp,HXM.out⟩
                  case measure=>simp [intOf];omega
                | nil =>
                 rw [List.append_nil] at hl4;have hln4:m.2.length=pre3.length:=(by rw [hl4]);clear hl4;go_wp2_with fail;clear hln4;go_roundw
                 case rel=>exact⟨pre2++[m],post2,by rw [HL3.out];simp,by simp,hxs⟩
                 case measure=>simp [intOf];omega
              | nil =>
               rw [List.append_nil] at hl3;have hln3:y.items.length=pre2.length:=(by rw [hl3]);clear hl3;go_wp2_with fail;refine HK9.out _ _ ?_;go_wp2_with fail;go_roundw
               case rel=>exact⟨pre++[x],post,by rw [HL.out];simp,by simp,HXr2.out.trans hxs⟩
               case measure=>simp [intOf];omega
         ·have HZ:=zH hz;clear hz;refine zao [fun v _=>v=.pointer (some ⟨g0,1,none⟩),fun v _=>v=.slice X1 x.seen.length x1,fun v _=>v=.pointer (some ⟨q0+1,0,none⟩),fun v _=>v=St b,fun v _=>v=U (ofM x.seen b),fun v _=>v=.bool false,fun v _=>v=.bool false,fun _ _=>True,fun _ _=>True,fun _ _=>True,fun _ _=>True,fun v _=>v=.bool false,fun v _=>v=.bool false,fun v _=>v=stV (.slice C1 ta.length c1) (.slice (some ⟨b2,o2,none⟩) te.length c2) (.slice C3 tp.length c3),fun v _=>v=.pointer (some ⟨g0,0,none⟩),fun v _=>v=St x.key,fun v W=>ValAt W Wy.heap.size y v,fun v _=>v=entV x (.slice X1 x.seen.length x1) (.slice X2 x.counts.length x2) (.slice X3 x.items.length x3),fun v W=>ValR W Wy.heap.size x v,fun v _=>v=.bool true,fun v _=>v=.bool false,fun v _=>v=.bool false,fun v _=>v=.bool false,fun v _=>v=.pointer (some ⟨g1,1,none⟩),fun v _=>v=.slice Y1 y.seen.length y1,fun v _=>v=.pointer (some ⟨q0+1,0,none⟩),fun v _=>v=St b,fun v _=>v=.int .u64 0,fun v _=>v=.bool false] rfl (by kernel_rfl) ?hR ?hstep ?hend
          case hR=>simp only [List.mem_cons,List.not_mem_nil,or_false,forall_eq_or_imp,forall_eq];exact⟨kP,kP,kP,kP,kP,kP,kP,fun _ _ _ _ _=>trivial,fun _ _ _ _ _=>trivial,fun _ _ _ _ _=>trivial,fun _ _ _ _ _=>trivial,kP,kP,kP,kP,kP,fun v _ _ h he=>h.ext he,kP,fun v _ _ h he=>h.ext he,kP,kP,kP,kP,kP,kP,kP,kP,kP,kP⟩
          case hstep =>
           simp only [List.length_cons,List.length_nil,Nat.reduceAdd,List.take_succ_cons,List.take_zero,za6,and_true];refine ⟨?_,?_,?_,?_,?_,?_,?_,?_,?_,?_,?_,?_,?_,?_,?_,?_,?_,?_,?_,?_,?_,?_,?_,?_,?_,?_,?_,?_,?_⟩
           ·intro x_ W he f;have h0:x_ 8=.pointer (some ⟨g0,0,none⟩):=f.1;go_wp;exact sQ
           ·intro x_ W he f;have h0:x_ 110=.pointer (some ⟨g0,1,none⟩):=f.1;have q1:=(HR0.out.ext he).cell (j:=1) rfl;go_wp;exact sQ
           ·intro x_ W he f;have h0:x_ 3=.pointer (some ⟨q0+1,0,none⟩):=f.1;go_wp;exact sQ
           ·intro x_ W he f;have h0:x_ 112=.pointer (some ⟨q0+1,0,none⟩):=f.1;have q0:=(rPy.ext he).cell (j:=0) rfl;go_wp;exact sQ
           ·intro x_ W he f;have h0:x_ 111=.slice X1 x.seen.length x1:=f.1;have h1:x_ 113=St b:=f.2.1;have HC:=zH (zcw b (HXX.out.seen.ext (by decide) he));go_wp;refine HC.out.mono ?_;rintro r W3 ⟨rfl,hx3⟩;dsimp only;go_wp;exact zaa rfl hx3
           ·intro x_ W he f;have h0:x_ 114=U (ofM x.seen b):=f.1;have hz:=HZ.out;have hz1:((ofM x.seen b:Nat):Int) ≠ 0:=(by omega);have hz2:(((ofM x.seen b:Nat):Int) == 0)=false:=(by rw [beq_eq_false_iff_ne];exact hz1);go_wp;exact sQ
           ·intro x_ W he f;have h0:x_ 115=.bool false:=f.1;go_wp;exact sQ
           ·intro x_ W he f;have hg:x_ 116=.bool false:=f.2.1;go_wp;exact zaa trivial (Ext.refl _)
           ·intro x_ W he f;have hg:x_ 116=.bool false:=f.2.1;go_wp;exact zaa trivial (Ext.refl _)
           ·intro x_ W he f;have hg:x_ 116=.bool false:=f.2.2.1;go_wp;exact zaa trivial (Ext.refl _)
           ·intro x_ W he f;have hg:x_ 116=.bool false:=f.2.1;go_wp;exact zaa trivial (Ext.refl _)
           ·intro x_ W he f;have h0:x_ 116=.bool false:=f.1;go_wp;exact sQ
           ·intro x_ W he f;have h0:x_ 121=.bool false:=f.1;go_wp;exact sQ
           ·intro x_ W he f;have hg:x_ 122=.bool false:=f.2.1;have h0:x_ 5=.pointer (some ⟨z5,0,none⟩):=f.1;have q0:=(rTy.ext he).cell (j:=0) rfl;have q1:=(rTy.ext he).cell (j:=1) rfl;have q2:=(rTy.ext he).cell (j:=2) rfl;go_wp;exact sQ
           ·intro x_ W he f;have hg:x_ 122=.bool false:=f.2.1;have h0:x_ 8=.pointer (some ⟨g0,0,none⟩):=f.1;go_wp;exact sQ
           ·intro x_ W he f;have hg:x_ 122=.bool false:=f.2.1;have h0:x_ 124=.pointer (some ⟨g0,0,none⟩):=f.1;have q0:=(HR0.out.ext he).cell (j:=0) rfl;go_wp;exact sQ
           ·intro x_ W he f;have hg:x_ 122=.bool false:=f.2.2.1;have h0:x_ 123=stV (.slice C1 ta.length c1) (.slice (some ⟨b2,o2,none⟩) te.length c2) (.slice C3 tp.length c3):=f.1;have h1:x_ 125=St x.key:=f.2.1;have hs:=he.size;have HC:=zH (zla x.key (sTy.ext he) HSM.out);rw [HAT.out] at HC;go_wp;refine HC.out.mono ?_;rintro r W3 ⟨v3,rfl,hv3,hx3⟩;dsimp only;go_wp;exact zaa (v:=v3) (hv3.lower hs) hx3
           ·intro x_ W he f;have hg:x_ 122=.bool false:=f.2.1;have h0:x_ 8=.pointer (some ⟨g0,0,none⟩):=f.1;have q0:=(HR0.out.ext he).cell (j:=0) rfl;have q1:=(HR0.out.ext he).cell (j:=1) rfl;have q2:=(HR0.out.ext he).cell (j:=2) rfl;have q3:=(HR0.out.ext he).cell (j:=3) rfl;have q4:=(HR0.out.ext he).cell (j:=4) rfl;have q5:=(HR0.out.ext he).cell (j:=5) rfl;have q6:=(HR0.out.ext he).cell (j:=6) rfl;go_wp;exact sQ
           ·intro x_ W he f;have hg:x_ 122=.bool false:=f.2.1;have h0:x_ 127=entV x (.slice X1 x.seen.length x1) (.slice X2 x.counts.length x2) (.slice X3 x.items.length x3):=f.1;have hs:=he.size;have HC:=zH (zkz (HXX.out.ext he) HME.out HB1.out HB2.out HB3.out);go_wp;refine HC.out.mono ?_;rintro r W3 ⟨v3,rfl,hv3,hx3⟩;dsimp only;go_wp;exact zaa (v:=v3) (hv3.lower hs) hx3
           ·intro x_ W he f;have hg:x_ 122=.bool false:=f.2.2.1;have h0:ValAt W Wy.heap.size y (x_ 126):=f.1;have h1:ValR W Wy.heap.size x (x_ 128):=f.2.1;have HC:=zH (zvu HME.out HEO.out h0 h1);clear h0 h1;go_wp;refine HC.out.mono ?_;rintro r W3 ⟨rfl,hx3⟩;dsimp only;go_wp;exact zaa rfl hx3
           ·intro x_ W he f;have hg:x_ 122=.bool false:=f.2.1;have h0:x_ 129=.bool true:=f.1;go_wp;exact sQ
           ·intro x_ W he f;have h0:x_ 122=.bool false:=f.1;have h1:x_ 130=.bool false:=f.2.1;go_wp;exact sQ
           ·intro x_ W he f;have h0:x_ 131=.bool false:=f.1;go_wp;exact sQ
           ·intro x_ W he f;have hg:x_ 132=.bool false:=f.2.1;have h0:x_ 9=.pointer (some ⟨g1,0,none⟩):=f.1;go_wp;exact sQ
           ·intro x_ W he f;have hg:x_ 132=.bool false:=f.2.1;have h0:x_ 133=.pointer (some ⟨g1,1,none⟩):=f.1;have q1:=(HR1.out.ext he).cell (j:=1) rfl;go_wp;exact sQ
           ·intro x_ W he f;have hg:x_ 132=.bool false:=f.2.1;have h0:x_ 3=.pointer (some ⟨q0+1,0,none⟩):=f.1;go_wp;exact sQ
           ·intro x_ W he f;have hg:x_ 132=.bool false:=f.2.1;have h0:x_ 135=.pointer (some ⟨q0+1,0,none⟩):=f.1;have q0:=(rPy.ext he).cell (j:=0) rfl;go_wp;exact sQ
           ·intro x_ W he f;have hg:x_ 132=.bool false:=f.2.2.1;have h0:x_ 134=.slice Y1 y.seen.length y1:=f.1;have h1:x_ 136=St b:=f.2.1;have HC:=zH (zcw b (HXY.out.seen.ext (by decide) he));rw [HEO.out.seen] at HC;go_wp;refine HC.out.mono ?_;rintro r W3 ⟨rfl,hx3⟩;dsimp only;go_wp;exact zaa rfl hx3
           ·intro x_ W he f;have hg:x_ 132=.bool false:=f.2.1;have h0:x_ 137=.int .u64 0:=f.1;go_wp;exact sQ
          case hend =>
           intro x_ Wn hxn f;have e132:x_ 132=.bool false:=f.2.2.2.2.2.2.2.2.2.2.2.2.2.2.2.2.2.2.2.2.2.2.1;have e138:x_ 138=.bool false:=f.2.2.2.2.2.2.2.2.2.2.2.2.2.2.2.2.2.2.2.2.2.2.2.2.2.2.2.2.1;clear f;simp only [List.length_cons,List.length_nil,Nat.reduceAdd,List.take_succ_cons,List.take_zero,List.filterMap_cons,List.filterMap_nil,List.drop_succ_cons,List.drop_zero,zav,Act.put,List.setIfInBounds_toArray,List.set_cons_succ,List.set_cons_zero,e132,e138];have HXr2:=zH (HXr.out.trans hxn);have HR1n:=zH (HR1.out.ext hxn);have HXYn:=zH (HXY.out.ext hxn);have rPn:=rP.ext HXr2.out;have hyc:=HLY.out.counts;have hsl:se.length<=400:=LS.out.entries;have hyi:=HLY.out.items;have HYD:=zH HLY.out.dots;clear HR0 HR1 HXX HXY hxn rPy rTy sTy HSM HZ HXr HLY;go_wp2_with fail;refine HK2.out _ _ ?_;clear HK2 K2;go_wp2_with fail;refine HK.out _ _ ?_;clear HK K;refine wp_seq_k ?_;intro K hK;have HK:=zH hK;clear hK;have g2:=HR1n.out.cell (j:=2) rfl;obtain⟨wo,rfl⟩:∃ wo:World,wo=wr:=⟨_,rfl⟩
           go_wp2_with fail
           go_loopw [10] (fun i wr=>∃ pre2 post2,y.counts=pre2++post2/\i=I pre2.length/\Ext Wn wr) (fun i _=>y.counts.length - (intOf i).toNat)
           case atStart=>exact⟨[],y.counts,rfl,rfl,Ext.refl _⟩
           case round =>
            obtain⟨pre2,post2,hl3,rfl,hxs⟩:=hrel;have g2:=(HR1n.out.ext hxs).cell (j:=2) rfl
            cases post2 with
            | cons m post2 =>
             obtain⟨b3,o3,rfl,em0,-,-⟩:=zcj HXYn.out.counts hxs hl3;have hlt3:pre2.length < y.counts.length:=(by rw [hl3];simp);have hne:(m.1 == b)=false:=(by have:=HEO.out.counts m (by rw [hl3];simp);simpa using this);have HL3:=zH hl3;clear hl3;go_wp2_with fail;refine zao [fun v _=>v=.pointer (some ⟨g1,2,none⟩),fun v _=>v=.slice (some ⟨b3,o3,none⟩) y.counts.length y2,fun v _=>v=I pre2.length,fun v _=>v=.pointer (some ⟨b3,o3+pre2.length * 3,none⟩),fun v _=>v=.pointer (some ⟨b3,o3+pre2.length * 3,none⟩),fun v _=>v=St m.1,fun v _=>v=.pointer (some ⟨q0+1,0,none⟩),fun v _=>v=St b] rfl (by kernel_rfl) ?hR ?hstep ?hend
             case hR=>simp only [List.mem_cons,List.not_mem_nil,or_false,forall_eq_or_imp,forall_eq];exact⟨kP,kP,kP,kP,kP,kP,kP,kP⟩
             case hstep =>
              simp only [List.length_cons,List.length_nil,Nat.reduceAdd,List.take_succ_cons,List.take_zero,za6,and_true];refine ⟨?_,?_,?_,?_,?_,?_,?_,?_⟩
              ·intro x_ W he f;have h0:x_ 9=.pointer (some ⟨g1,0,none⟩):=f.1;go_wp;exact sQ
              ·intro x_ W he f;have h0:x_ 147=.pointer (some ⟨g1,2,none⟩):=f.1;have q2:=((HR1n.out.ext hxs).ext he).cell (j:=2) rfl;go_wp;exact sQ
              ·intro x_ W he f;have h0:x_ 10=I pre2.length:=f.1;go_wp;exact sQ
              ·intro x_ W he f;have h0:x_ 148=.slice (some ⟨b3,o3,none⟩) y.counts.length y2:=f.1;have h1:x_ 149=I pre2.length:=f.2.1;go_wp;exact sQ
              ·intro x_ W he f;have h0:x_ 150=.pointer (some ⟨b3,o3+pre2.length * 3,none⟩):=f.1;go_wp;exact sQ
              ·intro x_ W he f;have h0:x_ 151=.pointer (some ⟨b3,o3+pre2.length * 3,none⟩):=f.1;have d0:=he.cell em0;go_wp;exact sQ
              ·intro x_ W he f;have h0:x_ 3=.pointer (some ⟨q0+1,0,none⟩):=f.1;go_wp;exact sQ
              ·intro x_ W he f;have h0:x_ 153=.pointer (some ⟨q0+1,0,none⟩):=f.1;have q0:=((rPn.ext hxs).ext he).cell (j:=0) rfl;go_wp;exact sQ
             case hend =>
              intro x_ Wm hxm f;have e152:x_ 152=St m.1:=f.2.2.2.2.2.1;have e154:x_ 154=St b:=f.2.2.2.2.2.2.2.1;clear f;simp only [List.length_cons,List.length_nil,Nat.reduceAdd,List.take_succ_cons,List.take_zero,List.filterMap_cons,List.filterMap_nil,List.drop_succ_cons,List.drop_zero,zav,Act.put,List.setIfInBounds_toArray,List.set_cons_succ,List.set_cons_zero,e152,e154];have HXM:=zH (hxs.trans hxm);clear em0 hxs hxm g2;go_wp2_with fail;go_roundw
              case rel=>exact⟨pre2++[m],post2,by rw [HL3.out];simp,by simp,HXM.out⟩
              case measure=>simp [intOf];omega
            | nil =>
             rw [List.append_nil] at hl3;have hln3:y.counts.length=pre2.length:=(by rw [hl3]);clear hl3;go_wp2_with fail;refine HK.out _ _ ?_;clear HK hln3 g2;have g3:=(HR1n.out.ext hxs).cell (j:=3) rfl;obtain⟨wo3,rfl⟩:∃ wo:World,wo=wr:=⟨_,rfl⟩
             go_wp2_with fail
             go_loopw [11] (fun i wr=>∃ pre2 post2,y.items=pre2++post2/\i=I pre2.length/\Ext Wn wr) (fun i _=>y.items.length - (intOf i).toNat)
             case atStart=>exact⟨[],y.items,rfl,rfl,hxs⟩
             case round =>
              clear g3;obtain⟨pre2,post2,hl3,rfl,hxs⟩:=hrel;have g3:=(HR1n.out.ext hxs).cell (j:=3) rfl
              cases post2 with
              | cons m post2 =>
               obtain⟨b3,o3,vd,rfl,-,en1,hds⟩:=zcp HXYn.out.items (Ext.refl _) hl3;have hlt3:pre2.length < y.items.length:=(by rw [hl3];simp);have hne:=fun d (hd:d ∈ m.2)=>HEO.out.items m (by rw [hl3];simp) d hd
               have hmd:=HYD.out m (by rw [hl3];simp);have HNE:=zH hne;have HL3:=zH hl3;clear hl3 hne;obtain⟨D4,d4,rfl,-,-⟩:=hds.form;have em1:=hxs.cell en1;obtain⟨wo4,rfl⟩:∃ wo:World,wo=wr:=⟨_,rfl⟩
               go_wp2_with fail
               go_loopw [12] (fun i wr=>∃ pre3 post3,m.2=pre3++post3/\i=I pre3.length/\Ext Wn wr) (fun i _=>m.2.length - (intOf i).toNat)
               case atStart=>exact⟨[],m.2,rfl,rfl,hxs⟩
               case round =>
                clear g3 em1 hxs;obtain⟨pre3,post3,hl4,rfl,hxs⟩:=hrel;have g3:=(HR1n.out.ext hxs).cell (j:=3) rfl;have em1:=hxs.cell en1
                cases post3 with
                | cons dd post3 =>
                 obtain⟨b4,o4,rfl,ed0,-⟩:=zer hds hxs hl4;have hlt4:pre3.length < m.2.length:=(by rw [hl4];simp);have hne:(dd.1 == b)=false:=(by have:=HNE.out dd (by rw [hl4];simp);simpa using this);have HL4:=zH hl4;clear hl4;go_wp2_with fail;refine zao [fun v _=>v=.pointer (some ⟨g1,3,none⟩),fun v _=>v=.slice (some ⟨b3,o3,none⟩) y.items.length y3,fun v _=>v=I pre2.length,fun v _=>v=.pointer (some ⟨b3,o3+pre2.length * 2,none⟩),fun v _=>v=.pointer (some ⟨b3,o3+pre2.length * 2+1,none⟩),fun v _=>v=.slice (some ⟨b4,o4,none⟩) m.2.length d4,fun v _=>v=I pre3.length,fun v _=>v=.pointer (some ⟨b4,o4+pre3.length * 2,none⟩),fun v _=>v=.pointer (some ⟨b4,o4+pre3.length * 2,none⟩),fun v _=>v=St dd.1,fun v _=>v=.pointer (some ⟨q0+1,0,none⟩),fun v _=>v=St b] rfl (by kernel_rfl) ?hR ?hstep ?hend
                 case hR=>simp only [List.mem_cons,List.not_mem_nil,or_false,forall_eq_or_imp,forall_eq];exact⟨kP,kP,kP,kP,kP,kP,kP,kP,kP,kP,kP,kP⟩
                 case hstep =>
                  simp only [List.length_cons,List.length_nil,Nat.reduceAdd,List.take_succ_cons,List.take_zero,za6,and_true];refine ⟨?_,?_,?_,?_,?_,?_,?_,?_,?_,?_,?_,?_⟩
                  ·intro x_ W he f;have h0:x_ 9=.pointer (some ⟨g1,0,none⟩):=f.1;go_wp;exact sQ
                  ·intro x_ W he f;have h0:x_ 174=.pointer (some ⟨g1,3,none⟩):=f.1;have q3:=((HR1n.out.ext hxs).ext he).cell (j:=3) rfl;go_wp;exact sQ
                  ·intro x_ W he f;have h0:x_ 11=I pre2.length:=f.1;go_wp;exact sQ
                  ·intro x_ W he f;have h0:x_ 175=.slice (some ⟨b3,o3,none⟩) y.items.length y3:=f.1;have h1:x_ 176=I pre2.length:=f.2.1;go_wp;exact sQ
                  ·intro x_ W he f;have h0:x_ 177=.pointer (some ⟨b3,o3+pre2.length * 2,none⟩):=f.1;go_wp;exact sQ
                  ·intro x_ W he f;have h0:x_ 178=.pointer (some ⟨b3,o3+pre2.length * 2+1,none⟩):=f.1;have d1:=he.cell em1;go_wp;exact sQ
                  ·intro x_ W he f;have h0:x_ 12=I pre3.length:=f.1;go_wp;exact sQ
                  ·intro x_ W he f;have h0:x_ 179=.slice (some ⟨b4,o4,none⟩) m.2.length d4:=f.1;have h1:x_ 180=I pre3.length:=f.2.1;go_wp;exact sQ
                  ·intro x_ W he f;have h0:x_ 181=.pointer (some ⟨b4,o4+pre3.length * 2,none⟩):=f.1;go_wp;exact sQ
                  ·intro x_ W he f;have h0:x_ 182=.pointer (some ⟨b4,o4+pre3.length * 2,none⟩):=f.1;have d0:=he.cell ed0;go_wp;exact sQ
                  ·intro x_ W he f;have h0:x_ 3=.pointer (some ⟨q0+1,0,none⟩):=f.1;go_wp;exact sQ
                  ·intro x_ W he f;have h0:x_ 184=.pointer (some ⟨q0+1,0,none⟩):=f.1;have q0:=((rPn.ext hxs).ext he).cell (j:=0) rfl;go_wp;exact sQ
                 case hend =>
                  intro x_ Wm hxm f;have e183:x_ 183=St dd.1:=f.2.2.2.2.2.2.2.2.2.1;have e185:x_ 185=St b:=f.2.2.2.2.2.2.2.2.2.2.2.1;clear f;simp only [List.length_cons,List.length_nil,Nat.reduceAdd,List.take_succ_cons,List.take_zero,List.filterMap_cons,List.filterMap_nil,List.drop_succ_cons,List.drop_zero,zav,Act.put,List.setIfInBounds_toArray,List.set_cons_succ,List.set_cons_zero,e183,e185];have HXM:=zH (hxs.trans hxm);clear ed0 em1 hxs hxm g3;go_wp2_with fail;go_roundw
                  case rel=>exact⟨pre3++[dd],post3,by rw [HL4.out];simp,by simp,HXM.out⟩
                  case measure=>simp [intOf];omega
                | nil =>
                 rw [List.append_nil] at hl4;have hln4:m.2.length=pre3.length:=(by rw [hl4]);clear hl4;go_wp2_with fail;clear hln4;go_roundw
                 case rel=>exact⟨pre2++[m],post2,by rw [HL3.out];simp,by simp,hxs⟩
                 case measure=>simp [intOf];omega
              | nil =>
               rw [List.append_nil] at hl3;have hln3:y.items.length=pre2.length:=(by rw [hl3]);clear hl3;go_wp2_with fail;refine HK9.out _ _ ?_;go_wp2_with fail;go_roundw
               case rel=>exact⟨pre++[x],post,by rw [HL.out];simp,by simp,HXr2.out.trans hxs⟩
               case measure=>simp [intOf];omega
    ·obtain⟨f1,f2,f3⟩:=HER.out he
     (try simp only at f1 f2 f3)
     injection f1 with f1a f1b f1c
     subst f1a f1b f1c;have hne:((er:Int) != 0)=true:=(by rw [bne_iff_ne];omega);have HS0:=zH (zl6 sT (StAt.none W4 (fun _=>True) none none none));rw [show zds ⟨[],[],[]⟩ za3=true from sameSt_iff.2 rfl] at HS0;have HMP:=zH (fun W=>zk6 (b,c,ow,n) W);clear HOK HER HLT he;obtain⟨y0,y1,y2,y3⟩:=rP.p4;obtain⟨k0,k1,k2⟩:=rA.p3;obtain⟨t0,t1,t2⟩:=rT.p3;refine wp_seq_k ?_;intro K hK;have HK:=zH hK;clear hK;go_wp2_with fail;refine HS0.out.mono ?_;rintro r W5 ⟨rfl,hx1⟩;replace rA:=rA.ext hx1;replace rP:=rP.ext hx1;replace sA:=sA.ext hx1;replace hx0:=hx0.trans hx1;clear y0 y1 y2 y3 k0 k1 k2 t0 t1 t2 hx1 HS0;obtain⟨y0,y1,y2,y3⟩:=rP.p4;obtain⟨k0,k1,k2⟩:=rA.p3;go_wp2_with fail;refine (HMP.out _).mono ?_;rintro r W6 ⟨rfl,hx1⟩;replace rA:=rA.ext hx1;replace rP:=rP.ext hx1;replace sA:=sA.ext hx1;replace hx0:=hx0.trans hx1;clear y0 y1 y2 y3 k0 k1 k2 hx1 HMP;rcases f3 with f3 | ⟨f3,f4⟩
     ·subst f3;have hmp:mayP (b,c,ow,n)=false:=(by simpa using f2);rw [hmp];go_wp2_with fail;refine (zeh _).mono ?_;rintro r Z9 ⟨rfl,hxz⟩;have HX:=zH (hx0.trans hxz);go_wp2_with fail;go_ret;exact⟨rfl,HX.out⟩
     ·subst f3;have hmp:mayP (b,c,ow,n)=true:=(by simpa using f2);have HRD:=zH (zgt (b,c,ow,n) hmp sA);rw [show zcx (⟨sa,se,sp⟩:State).all (b,c,ow,n)=false from f4] at HRD;rw [hmp];obtain⟨y0,y1,y2,y3⟩:=rP.p4;obtain⟨k0,k1,k2⟩:=rA.p3;go_wp2_with fail;refine HRD.out.mono ?_;rintro r W7 ⟨rfl,hx1⟩;replace hx0:=hx0.trans hx1;clear y0 y1 y2 y3 k0 k1 k2 hx1 HRD rA rP sA;go_wp2_with fail;refine (zeh _).mono ?_;rintro r Z9 ⟨rfl,hxz⟩;have HX:=zH (hx0.trans hxz);go_wp2_with fail;go_ret;exact⟨rfl,HX.out⟩
end
end Go.Proofs.YtaabaflgeljbjaaGreat
