/- Contracts and plain laws. -/
import Derived.Test.YtdikcgmdmcfpfaaGreatMo39
import Derived.Test.YtdikcgmdmcfpfaaGreatMo28
import Derived.Test.YtdikcgmdmcfpfaaGreatMo40
set_option linter.unusedVariables false
set_option linter.unusedSimpArgs false
set_option maxRecDepth 100000
set_option maxHeartbeats 40000000
namespace Go.Proofs.YtdikcgmdmcfpfaaGreat
section
open Go.RowKit Go.Shelf
def zcu (a b:Bool) (i:Nat):List Str:=zc7 (a && decide (1≤i)) (b && decide (2≤i))
theorem zxb {E:List Ev} {V:Vec} {s:State} {ak:List Mark} {F S S':Nat→Prop} {v1 v2 v3 vk vq va:Value} {w:World} (hH:HistOk E) (hst:StAt w F s v1 v2 v3) (sm:SmallS s) (hm:mayS s=true) (hev:Sl evT w S va E) (hkn:Sl boolT w S' vk (E.map (zaf V))) (hq:Sl markT w F vq ak)
  (hk:∀ k,(atE s.entries k).key=k) (h1:zcg (atE s.entries keyN).counts=sumM V E) (h2:∀ a b:Bool,(a=true↔zfp E V [97])→(b=true↔zfp E V [98])→zc2 (atE s.entries keyA).items=zc7 a b) (h3:∀ j,zeh E V E.length j→zd2 (atE s.entries keyC).cell=zld E j) :
  Calls Tryz.prog 14 #[.agg #[v1,v2,v3,vk,vq],va] w fun r w'=>r=.returned (.bool true)∧Ext w w':=by
 obtain⟨sa,se,sp⟩:=s
 obtain⟨A1,n1,rfl,-,-⟩:=hst.all.form
 obtain⟨A2,n2,rfl,-,-⟩:=hst.entries.form
 obtain⟨A3,n3,rfl,-,-⟩:=hst.pruned.form
 obtain⟨AV,nV,rfl,-,-⟩:=hev.form
 obtain⟨AK,nK,rfl,-,-⟩:=hkn.form
 obtain⟨AQ,nQ,rfl,-,-⟩:=hq.form
 rw [List.length_map] at hkn ⊢
 have hx0:=(Ext.refl w).alloc (.cells #[.slice A1 sa.length n1,.slice A2 se.length n2,.slice A3 sp.length n3,.slice AK E.length nK,.slice AQ ak.length nQ] 58)
 have HR:=zH (zah w 58 [.slice A1 sa.length n1,.slice A2 se.length n2,.slice A3 sp.length n3,.slice AK E.length nK,.slice AQ ak.length nQ])
 have HST:=zH (hst.ext hx0)
 have HMOD:=zH (zw7 (V:=V) hH (hev.ext (by decide) hx0) (hkn.ext (by decide) hx0))
 have HS:=zH sm
 have HSM:=zH sm
 have HMY:=zH hm
 have HKY:=zH hk
 have H1:=zH h1
 have H2:=zH h2
 have H3:=zH h3
 have HX:=zH hx0
 clear hH hst sm hm hev hkn hq hk h1 h2 h3 hx0
 have c3:=HR.out.cell (j:=3) rfl
 go_enter Tryz.func14,Tryz.ntmps14
 refine wp_seq_k ?_
 intro K hK
 have HK:=zH hK
 clear hK
 go_wp
 refine HK.out _ _ ?_
 clear HK K
 obtain⟨W0,hW0⟩:∃ X,w.alloc (.cells #[.slice A1 sa.length n1,.slice A2 se.length n2,.slice A3 sp.length n3,.slice AK E.length nK,.slice AQ ak.length nQ] 58)=X:=⟨_,rfl⟩
 rw [hW0] at HR HST HMOD HX c3 ⊢
 clear hW0
 obtain⟨rb,hrb⟩:∃ r,w.heap.size=r:=⟨_,rfl⟩
 rw [hrb] at HR c3 ⊢
 refine wp_seq_k ?_
 intro K hK
 have HK:=zH hK
 clear hK
 go_wp2_with fail
 refine HMOD.out.mono ?_
 rintro r W1 ⟨a,b,tx,is,rfl,hta,htb,⟨j,hj,hjt⟩,hx1⟩
 have HT:=zH (H2.out a b hta htb)
 have HC:=zH ((H3.out j hj).trans hjt.symm)
 have HR:=zH (HR.out.ext hx1)
 have HST:=zH (HST.out.ext hx1)
 have HX:=zH (HX.out.trans hx1)
 clear H2 H3 hta htb hj hjt hx1 HMOD c3
 go_wp2_with fail
 refine HK.out _ _ ?_
 clear HK K
 have hxa:=(Ext.refl W1).alloc (.cells #[.bool a,.bool b] 108)
 have HB:=zH (zah W1 108 [.bool a,.bool b])
 have HR:=zH (HR.out.ext hxa)
 have HST:=zH (HST.out.ext hxa)
 have HX:=zH (HX.out.trans hxa)
 obtain⟨W2,hW⟩:∃ X,W1.alloc (.cells #[.bool a,.bool b] 108)=X:=⟨_,rfl⟩
 rw [hW] at HB HR HST HX hxa ⊢
 clear hW
 obtain⟨gb,hg⟩:∃ r,W1.heap.size=r:=⟨_,rfl⟩
 rw [hg] at HB ⊢
 clear hg hxa
 refine wp_seq_k ?_
 intro K hK
 have HK:=zH hK
 clear hK
 go_wp2_with fail
 refine HK.out _ _ ?_
 clear HK K
 refine wp_seq_k ?_
 intro K hK
 have HK:=zH hK
 clear hK
 go_wp2_with fail
 go_loopw [9,10] (fun l i wr=>∃ ii:Nat,i=I ii∧ii≤2∧Own wr W2.heap.size 9 1 l (zcu a b ii).length ((zcu a b ii).flatMap strC)∧Ext W2 wr) (fun _ i _=>2 - (intOf i).toNat)
 case atStart=>exact⟨0,rfl,by omega,by have h:zcu a b 0 = []:=(by cases a <;> cases b <;> rfl);rw [h];exact Own.nil _ _ _ _ _,Ext.refl _⟩
 case round =>
  obtain⟨ii,rfl,hi2,hown,hx⟩:=hrel
  have hb:=HB.out.ext hx
  have b0:=hb.cell (j:=0) rfl
  have b1:=hb.cell (j:=1) rfl
  have HO:=zH hown
  have HX2:=zH hx
  have hsz:=hx.size
  obtain⟨AL,nL,rfl,hn1,hn2⟩:=hown.form
  clear hx hb
  rcases (show ii=0 ∨ ii=1 ∨ ii=2 by omega) with rfl | rfl | rfl
  ·cases a with
   | false =>
    have h:zcu false b 1=zcu false b 0:=by cases b <;> rfl
    go_wp2_with fail
    go_roundw
    case rel=>exact⟨1,rfl,by omega,by rw [h];exact HO.out,HX2.out⟩
    case measure=>simp [intOf]
   | true =>
    have hcv:(convert 31 9 (.slice (some ⟨wr.heap.size,0,none⟩) 1 1)).run Tryz.prog (wr.alloc (.cells #[.int .u8 97] 5))=.ok (St [97]) (wr.alloc (.cells #[.int .u8 97] 5)):=zpn (n:=97) ((zah wr 5 [.int .u8 97]).cell (j:=0) rfl)
    have h:zcu true b 1=zcu true b 0++[[97]]:=by cases b <;> rfl
    have hl:(zcu true b 0).length≤2:=by cases b <;> decide
    go_wp2_with (at_builtin;refine zaj rfl (.tmp 30) (.tmp 36) 28 rfl W2.heap.size 9 1 16 (St []) Tryz.underlying28 zfs rfl (by omega) _ (zcu true b 0).length ((zcu true b 0).flatMap strC) rfl ((HO.out.alloc _).alloc _) _ 1 1 [St [97]] rfl (Src.newAt (by simp) rfl (by intro u hu;simp at hu;subst hu;rfl)) (by omega) (by omega) (by simp;omega) ?_;intro v' w' hown2 hgr)
    go_roundw
    case rel=>exact⟨1,rfl,by omega,by rw [h,List.length_append,List.flatMap_append];exact hown2,Ext.grewOwn ((HX2.out.alloc _).alloc _) hgr ((HO.out.alloc _).alloc _) (Nat.le_refl _)⟩
    case measure=>simp [intOf]
  ·cases b with
   | false =>
    have h:zcu a false 2=zcu a false 1:=by cases a <;> rfl
    go_wp2_with fail
    go_roundw
    case rel=>exact⟨2,rfl,by omega,by rw [h];exact HO.out,HX2.out⟩
    case measure=>simp [intOf]
   | true =>
    have hcv:(convert 31 9 (.slice (some ⟨wr.heap.size,0,none⟩) 1 1)).run Tryz.prog (wr.alloc (.cells #[.int .u8 98] 5))=.ok (St [98]) (wr.alloc (.cells #[.int .u8 98] 5)):=zpn (n:=98) ((zah wr 5 [.int .u8 98]).cell (j:=0) rfl)
    have h:zcu a true 2=zcu a true 1++[[98]]:=by cases a <;> rfl
    have hl:(zcu a true 1).length≤2:=by cases a <;> decide
    go_wp2_with (at_builtin;refine zaj rfl (.tmp 30) (.tmp 36) 28 rfl W2.heap.size 9 1 16 (St []) Tryz.underlying28 zfs rfl (by omega) _ (zcu a true 1).length ((zcu a true 1).flatMap strC) rfl ((HO.out.alloc _).alloc _) _ 1 1 [St [98]] rfl (Src.newAt (by simp) rfl (by intro u hu;simp at hu;subst hu;rfl)) (by omega) (by omega) (by simp;omega) ?_;intro v' w' hown2 hgr)
    go_roundw
    case rel=>exact⟨2,rfl,by omega,by rw [h,List.length_append,List.flatMap_append];exact hown2,Ext.grewOwn ((HX2.out.alloc _).alloc _) hgr ((HO.out.alloc _).alloc _) (Nat.le_refl _)⟩
    case measure=>simp [intOf]
  ·have h2:zcu a b 2=zc7 a b:=by cases a <;> cases b <;> rfl
   rw [h2] at HO ⊢
   have HL:=zH (zka HO.out)
   have HR:=zH (HR.out.ext HX2.out)
   have HST:=zH (HST.out.ext HX2.out)
   have HX:=zH (HX.out.trans HX2.out)
   clear HX2 HO b0 b1 hsz HB
   go_wp2_with fail
   refine HK.out _ _ ?_
   clear HK
   refine wp_seq_k ?_
   intro K hK
   have HK:=zH hK
   clear hK
   go_wp2_with fail
   refine HK.out _ _ ?_
   clear HK K
   have hxa:=(Ext.refl wr).alloc (.cells #[.int .u8 1,I (sumM V E),.slice none 0 0,St [],.bool false] 90)
   have HV1:=zH (zah wr 90 [.int .u8 1,I (sumM V E),.slice none 0 0,St [],.bool false])
   have HR:=zH (HR.out.ext hxa)
   have HST:=zH (HST.out.ext hxa)
   have HX:=zH (HX.out.trans hxa)
   have HWR:=zH hxa
   obtain⟨W3,hW⟩:∃ X,wr.alloc (.cells #[.int .u8 1,I (sumM V E),.slice none 0 0,St [],.bool false] 90)=X:=⟨_,rfl⟩
   rw [hW] at HV1 HR HST HX hxa HWR ⊢
   clear hW
   obtain⟨g1,hg⟩:∃ r,wr.heap.size=r:=⟨_,rfl⟩
   rw [hg] at HV1 ⊢
   clear hg hxa
   skip
   refine wp_seq_k ?_
   intro K hK
   have HK:=zH hK
   clear hK
   go_wp2_with fail
   refine HK.out _ _ ?_
   clear HK K
   have hxa:=(Ext.refl W3).alloc (.cells #[.int .u8 2,I 0,.slice AL (zc7 a b).length nL,St [],.bool false] 90)
   have HV2:=zH (zah W3 90 [.int .u8 2,I 0,.slice AL (zc7 a b).length nL,St [],.bool false])
   have HR:=zH (HR.out.ext hxa)
   have HST:=zH (HST.out.ext hxa)
   have HV1:=zH (HV1.out.ext hxa)
   have HX:=zH (HX.out.trans hxa)
   have HWR:=zH (HWR.out.trans hxa)
   obtain⟨W4,hW⟩:∃ X,W3.alloc (.cells #[.int .u8 2,I 0,.slice AL (zc7 a b).length nL,St [],.bool false] 90)=X:=⟨_,rfl⟩
   rw [hW] at HV2 HR HST HV1 HX hxa HWR ⊢
   clear hW
   obtain⟨g2,hg⟩:∃ r,W3.heap.size=r:=⟨_,rfl⟩
   rw [hg] at HV2 ⊢
   clear hg hxa
   refine wp_seq_k ?_
   intro K hK
   have HK:=zH hK
   clear hK
   go_wp2_with fail
   refine HK.out _ _ ?_
   clear HK K
   have hxa:=(Ext.refl W4).alloc (.cells #[.int .u8 3,I 0,.slice none 0 0,St tx,.bool is] 90)
   have HV3:=zH (zah W4 90 [.int .u8 3,I 0,.slice none 0 0,St tx,.bool is])
   have HR:=zH (HR.out.ext hxa)
   have HST:=zH (HST.out.ext hxa)
   have HV1:=zH (HV1.out.ext hxa)
   have HV2:=zH (HV2.out.ext hxa)
   have HX:=zH (HX.out.trans hxa)
   have HWR:=zH (HWR.out.trans hxa)
   obtain⟨W5,hW⟩:∃ X,W4.alloc (.cells #[.int .u8 3,I 0,.slice none 0 0,St tx,.bool is] 90)=X:=⟨_,rfl⟩
   rw [hW] at HV3 HR HST HV1 HV2 HX hxa HWR ⊢
   clear hW
   obtain⟨g3,hg⟩:∃ r,W4.heap.size=r:=⟨_,rfl⟩
   rw [hg] at HV3 ⊢
   clear hg hxa
   obtain⟨cl,hcl⟩:∃ c,(atE se keyC).cell=c:=⟨_,rfl⟩
   have hky:=HKY.out
   have HLX:=zH (fun (X:World) (he:Ext W5 X)=>HL.out.ext (by decide) (HWR.out.trans he))
   rw [hcl] at HC
   have HG:Hid (∀ (X:World) (k:Str),Ext W5 X→Calls Tryz.prog 39 #[(stV (.slice A1 sa.length n1) (.slice A2 se.length n2) (.slice A3 sp.length n3)),St k] X fun r w'=>∃ v,r=.returned v∧ValAt w' X.heap.size (atE se k) v∧Ext X w'):=zH fun X k he=>zqg k (HST.out.ext he) (fun e he=>HS.out.each e he)
   clear HS HL
   refine wp_seq_k ?_
   intro K hK
   have HK:=zH hK
   clear hK
   refine za3 [fun v _=>v=.pointer (some ⟨rb,0,none⟩),fun v _=>v=(stV (.slice A1 sa.length n1) (.slice A2 se.length n2) (.slice A3 sp.length n3)),fun v _=>v=.iface 2 (I (sumM V E)),fun v _=>v=.agg #[.int .u8 1,I (sumM V E),.slice none 0 0,St [],.bool false],fun v _=>v=.bool true,fun v _=>v=.bool true,fun v _=>v=.pointer (some ⟨rb,0,none⟩),fun v _=>v=(stV (.slice A1 sa.length n1) (.slice A2 se.length n2) (.slice A3 sp.length n3)),fun v W=>∃ s,v=.iface 28 s∧Own W W5.heap.size 9 1 s (zc7 a b).length ((zc7 a b).flatMap strC),fun v _=>v=.agg #[.int .u8 2,I 0,.slice AL (zc7 a b).length nL,St [],.bool false],fun v _=>v=.bool true,fun v _=>v=.bool true,fun v _=>v=.bool true,fun v _=>v=.pointer (some ⟨rb,0,none⟩),fun v _=>v=(stV (.slice A1 sa.length n1) (.slice A2 se.length n2) (.slice A3 sp.length n3)),fun v _=>v=zfg cl,fun v _=>v=.agg #[.int .u8 3,I 0,.slice none 0 0,St tx,.bool is],fun v _=>v=.bool true,fun v _=>v=.bool true,fun v _=>v=.bool true,fun v _=>v=.pointer (some ⟨rb,0,none⟩),fun v _=>v=(stV (.slice A1 sa.length n1) (.slice A2 se.length n2) (.slice A3 sp.length n3)),fun v _=>v=.bool true,fun v _=>v=.bool true] rfl (by kernel_rfl) ?hR ?hstep ?hend
   case hR =>
    simp only [List.mem_cons,List.not_mem_nil,or_false,forall_eq_or_imp,forall_eq]
    exact⟨kP,kP,kP,kP,kP,kP,kP,kP,fun v _ _ h he=>by obtain⟨s,h1,h2⟩:=h;exact⟨s,h1,h2.ext he⟩,kP,kP,kP,kP,kP,kP,kP,kP,kP,kP,kP,kP,kP,kP,kP⟩
   case hstep =>
    simp only [List.length_cons,List.length_nil,Nat.reduceAdd,List.take_succ_cons,List.take_zero,zb3,and_true]
    refine ⟨?_,?_,?_,?_,?_,?_,?_,?_,?_,?_,?_,?_,?_,?_,?_,?_,?_,?_,?_,?_,?_,?_,?_,?_⟩
    ·intro x W he f
     have h0:x 2=.pointer (some ⟨rb,0,none⟩):=f.1
     go_wp
     exact sQ
    ·intro x W he f
     have h0:x 45=.pointer (some ⟨rb,0,none⟩):=f.1
     have c0:=(HR.out.ext he).cell (j:=0) rfl
     have c1:=(HR.out.ext he).cell (j:=1) rfl
     have c2:=(HR.out.ext he).cell (j:=2) rfl
     go_wp
     exact sQ
    ·intro x W he f
     have h0:x 46=(stV (.slice A1 sa.length n1) (.slice A2 se.length n2) (.slice A3 sp.length n3)):=f.1
     have HC2:=zH (HG.out W keyN he)
     rw [show keyN = [35,110] from rfl] at HC2
     go_wp
     refine HC2.out.mono ?_
     rintro r W2 ⟨v,rfl,hv,hx2⟩
     rw [← show keyN = [35,110] from rfl] at hv
     unfold ValAt at hv
     rw [hky keyN,show zap keyN=1 from by kernel_rfl] at hv
     simp only [if_true] at hv
     rw [H1.out] at hv
     subst hv
     dsimp only
     go_wp
     exact zaa rfl hx2
    ·intro x W he f
     have h0:x 11=.pointer (some ⟨g1,0,none⟩):=f.1
     have c0:=(HV1.out.ext he).cell (j:=0) rfl
     have c1:=(HV1.out.ext he).cell (j:=1) rfl
     have c2:=(HV1.out.ext he).cell (j:=2) rfl
     have c3:=(HV1.out.ext he).cell (j:=3) rfl
     have c4:=(HV1.out.ext he).cell (j:=4) rfl
     go_wp
     exact sQ
    ·intro x W he f
     have h0:x 47=.iface 2 (I (sumM V E)):=f.1
     have h1:x 48=.agg #[.int .u8 1,I (sumM V E),.slice none 0 0,St [],.bool false]:=f.2.1
     have HC2:=zH (zw5 (sumM V E) (sumM V E) none 0 0 [] false W)
     go_wp
     refine HC2.out.mono ?_
     rintro r W2 ⟨rfl,hx2⟩
     dsimp only
     go_wp
     exact zaa (by simp) hx2
    ·intro x W he f
     have h0:x 49=.bool true:=f.1
     go_wp
     exact sQ
    ·intro x W he f
     have h0:x 2=.pointer (some ⟨rb,0,none⟩):=f.1
     have h1:x 50=.bool true:=f.2.1
     go_wp
     exact sQ
    ·intro x W he f
     have h0:x 51=.pointer (some ⟨rb,0,none⟩):=f.1
     have h1:x 50=.bool true:=f.2.1
     have c0:=(HR.out.ext he).cell (j:=0) rfl
     have c1:=(HR.out.ext he).cell (j:=1) rfl
     have c2:=(HR.out.ext he).cell (j:=2) rfl
     go_wp
     exact sQ
    ·intro x W he f
     have h0:x 52=(stV (.slice A1 sa.length n1) (.slice A2 se.length n2) (.slice A3 sp.length n3)):=f.1
     have h1:x 50=.bool true:=f.2.1
     have HC2:=zH (HG.out W keyA he)
     rw [show keyA = [64,115] from rfl] at HC2
     go_wp
     refine HC2.out.mono ?_
     rintro r W2 ⟨v,rfl,hv,hx2⟩
     rw [← show keyA = [64,115] from rfl] at hv
     unfold ValAt at hv
     rw [hky keyA,show zap keyA=2 from by kernel_rfl] at hv
     rw [if_neg (by decide),if_pos rfl] at hv
     rw [HT.out] at hv
     obtain⟨s,rfl,ho⟩:=hv
     have hs:=he.size
     dsimp only
     go_wp
     exact zaa (v:=.iface 28 s) ⟨s,rfl,ho.lower hs⟩ hx2
    ·intro x W he f
     have h0:x 12=.pointer (some ⟨g2,0,none⟩):=f.1
     have h1:x 50=.bool true:=f.2.1
     have c0:=(HV2.out.ext he).cell (j:=0) rfl
     have c1:=(HV2.out.ext he).cell (j:=1) rfl
     have c2:=(HV2.out.ext he).cell (j:=2) rfl
     have c3:=(HV2.out.ext he).cell (j:=3) rfl
     have c4:=(HV2.out.ext he).cell (j:=4) rfl
     go_wp
     exact sQ
    ·intro x W he f
     obtain⟨s,h0,ho⟩:∃ s,x 53=.iface 28 s∧Own W W5.heap.size 9 1 s (zc7 a b).length ((zc7 a b).flatMap strC):=f.1
     obtain⟨AS,nS,rfl,-,-⟩:=ho.form
     have h1:x 54=.agg #[.int .u8 2,I 0,.slice AL (zc7 a b).length nL,St [],.bool false]:=f.2.1
     have h2:x 50=.bool true:=f.2.2.1
     have HC2:=zH (yan (zka ho) (HLX.out W he) [] false 0)
     go_wp
     refine HC2.out.mono ?_
     rintro r W2 ⟨rfl,hx2⟩
     dsimp only
     go_wp
     exact zaa (by simp) hx2
    ·intro x W he f
     have h0:x 50=.bool true:=f.1
     have h1:x 55=.bool true:=f.2.1
     go_wp
     exact sQ
    ·intro x W he f
     have h0:x 56=.bool true:=f.1
     go_wp
     exact sQ
    ·intro x W he f
     have h0:x 2=.pointer (some ⟨rb,0,none⟩):=f.1
     have h1:x 57=.bool true:=f.2.1
     go_wp
     exact sQ
    ·intro x W he f
     have h0:x 58=.pointer (some ⟨rb,0,none⟩):=f.1
     have h1:x 57=.bool true:=f.2.1
     have c0:=(HR.out.ext he).cell (j:=0) rfl
     have c1:=(HR.out.ext he).cell (j:=1) rfl
     have c2:=(HR.out.ext he).cell (j:=2) rfl
     go_wp
     exact sQ
    ·intro x W he f
     have h0:x 59=(stV (.slice A1 sa.length n1) (.slice A2 se.length n2) (.slice A3 sp.length n3)):=f.1
     have h1:x 57=.bool true:=f.2.1
     have HC2:=zH (HG.out W keyC he)
     rw [show keyC = [61,99] from rfl] at HC2
     go_wp
     refine HC2.out.mono ?_
     rintro r W2 ⟨v,rfl,hv,hx2⟩
     rw [← show keyC = [61,99] from rfl] at hv
     unfold ValAt at hv
     rw [hky keyC,show zap keyC=3 from by kernel_rfl] at hv
     rw [if_neg (by decide),if_neg (by decide),if_pos rfl,hcl] at hv
     subst hv
     dsimp only
     go_wp
     exact zaa rfl hx2
    ·intro x W he f
     have h0:x 13=.pointer (some ⟨g3,0,none⟩):=f.1
     have h1:x 57=.bool true:=f.2.1
     have c0:=(HV3.out.ext he).cell (j:=0) rfl
     have c1:=(HV3.out.ext he).cell (j:=1) rfl
     have c2:=(HV3.out.ext he).cell (j:=2) rfl
     have c3:=(HV3.out.ext he).cell (j:=3) rfl
     have c4:=(HV3.out.ext he).cell (j:=4) rfl
     go_wp
     exact sQ
    ·intro x W he f
     have h0:x 60=zfg cl:=f.1
     have h1:x 61=.agg #[.int .u8 3,I 0,.slice none 0 0,St tx,.bool is]:=f.2.1
     have h2:x 57=.bool true:=f.2.2.1
     have HC2:=zH (yae cl 0 none 0 0 W)
     rw [HC.out] at HC2
     go_wp
     refine HC2.out.mono ?_
     rintro r W2 ⟨rfl,hx2⟩
     dsimp only
     go_wp
     exact zaa (by simp) hx2
    ·intro x W he f
     have h0:x 57=.bool true:=f.1
     have h1:x 62=.bool true:=f.2.1
     go_wp
     exact sQ
    ·intro x W he f
     have h0:x 63=.bool true:=f.1
     go_wp
     exact sQ
    ·intro x W he f
     have h0:x 2=.pointer (some ⟨rb,0,none⟩):=f.1
     have h1:x 64=.bool true:=f.2.1
     go_wp
     exact sQ
    ·intro x W he f
     have h0:x 65=.pointer (some ⟨rb,0,none⟩):=f.1
     have h1:x 64=.bool true:=f.2.1
     have c0:=(HR.out.ext he).cell (j:=0) rfl
     have c1:=(HR.out.ext he).cell (j:=1) rfl
     have c2:=(HR.out.ext he).cell (j:=2) rfl
     go_wp
     exact sQ
    ·intro x W he f
     have h0:x 66=(stV (.slice A1 sa.length n1) (.slice A2 se.length n2) (.slice A3 sp.length n3)):=f.1
     have h1:x 64=.bool true:=f.2.1
     have HC2:=zH (zjr (HST.out.ext he) HSM.out)
     rw [HMY.out] at HC2
     go_wp
     refine HC2.out.mono ?_
     rintro r W2 ⟨rfl,hx2⟩
     dsimp only
     go_wp
     exact zaa (by simp) hx2
    ·intro x W he f
     have h0:x 64=.bool true:=f.1
     have h1:x 67=.bool true:=f.2.1
     go_wp
     exact sQ
   case hend =>
    intro x W he f
    have h68:x 68=.bool true:=f.2.2.2.2.2.2.2.2.2.2.2.2.2.2.2.2.2.2.2.2.2.2.2.1
    clear f
    simp only [List.length_cons,List.length_nil,Nat.reduceAdd,List.take_succ_cons,List.take_zero,List.filterMap_cons,List.filterMap_nil,List.drop_succ_cons,List.drop_zero,zay,Act.put,List.setIfInBounds_toArray,List.set_cons_succ,List.set_cons_zero,h68]
    go_wp
    refine HK.out _ _ ?_
    clear HK
    go_wp2_with fail
    go_ret
    exact⟨rfl,HX.out.trans he⟩
end
section
open Go.RowKit Go.Shelf
theorem RepsOk.tells {E:List Ev} {n k:Nat} {rs:List Rep} {r:Rep} (h:RepsOk E n rs) (hr:rs[k]? = some r) :
  mayS r.s=true∧SmallS r.s∧(∀ k,(atE r.s.entries k).key=k)∧zcg (atE r.s.entries keyN).counts=sumM (vecS r.s) E ∧
  (∀ a b:Bool,(a=true↔zfp E (vecS r.s) [97])→(b=true↔zfp E (vecS r.s) [98])→zc2 (atE r.s.entries keyA).items=zc7 a b)∧(∀ j,zeh E (vecS r.s) E.length j→zd2 (atE r.s.entries keyC).cell=zld E j):=by
 have h1:=h.each k r hr
 have hv:=h1.vec h.few h.hist.most
 have hi:=fun k=>zzx h1.is k
 exact⟨h1.is.may h.hist hv (fun _ h=>by cases h) (by simp [RiseS]),(h1.is.lim h.hist hv).small (n:=400) (by decide),fun k=>(hi k).key,((hi keyN).value h.hist).trans (zzy h.hist _),fun a b ha hb=>zwu h.hist (hi keyA) ha hb,fun j hj=>zzz h.hist (hi keyC) hj⟩
theorem zul {tid base:Nat} {v:Value} {l:List Bool} {w:World} (h:Own w base tid 1 v l.length (l.flatMap zco)):Sl boolT w (fun b=>base≤b) v l :=
 OwnL.sl (S:=fun b=>base≤b) (OwnL.flat_iff.2 h) (by decide) (fun _ _ h=>h) (fun _ h _=>h)
theorem zsi {S:Nat→Prop} {l:List Deed} {vl:Value} {w:World} {q:Nat} (hq:q < 256) (hl:Sl zne w S vl l) (hd:∀ d ∈ l,DeedOk d) :
  Calls Tryz.prog 4 #[K8 q,vl] w fun r w'=>r=.returned (.bool true)∧Ext w w':=by
 obtain⟨A,c,rfl,-,-⟩:=hl.form
 have HL:=zH hl
 have HD:=zH hd
 clear hl hd
 go_enter Tryz.func4,Tryz.ntmps4
 by_cases h50:50 < l.length
 ·have q1:decide ((50:Int) < (l.length:Int))=true:=decide_eq_true (by omega)
  have q2:(l.length:Int) > 50:=by omega
  clear h50
  go_wp2_with fail
  refine (zo7 _).mono ?_
  rintro r Z ⟨rfl,hxz⟩
  go_wp2_with fail
  go_ret
  exact⟨rfl,hxz⟩
 ·have q1:decide ((50:Int) < (l.length:Int))=false:=decide_eq_false (by omega)
  have q2:¬ (l.length:Int) > 50:=by omega
  have h51:l.length≤50:=Nat.not_lt.1 h50
  clear h50
  obtain⟨n,hn⟩:∃ n,n=1+q % 4:=⟨_,rfl⟩
  have hn1:0 < n:=by omega
  have hn4:n≤4:=by omega
  have i1:(q:Int).tmod 4=((n - 1:Nat):Int):=by rw [Int.tmod_eq_emod_of_nonneg (by omega)];omega
  have i2:(1:Int)+((n - 1:Nat):Int)=(n:Int):=by omega
  have q3:(q:Int) < 256:=by omega
  have hmk:∀ W:World,(Instr.makeSlice 46 (.int .i64 (n:Int)) (.int .i64 (n:Int))).run Tryz.prog W=.ok (.slice (some ⟨W.heap.size,0,none⟩) n n) (W.alloc (.cells ((List.replicate n znf).flatMap RepV.cells).toArray 58)):=fun W=>by
   rcases (show n=1 ∨ n=2 ∨ n=3 ∨ n=4 by omega) with h | h | h | h <;> (rw [h];kernel_rfl)
  have HM0:Hid (Mem (w.alloc (.cells ((List.replicate n znf).flatMap RepV.cells).toArray 58)) w.heap.size w.heap.size (List.replicate n znf) (List.replicate n rep0) (.slice none 0 0) []):=zH (Mem.zero (zah w 58 _) (Nat.le_refl _))
  clear hn
  go_wp2_with fail
  clear hmk q1 q2 i1 i2
  go_loopw [6,7] (fun va i wr=>∃ (pre post:List Deed) (E:List Ev) (rs:List Rep) (vs:List RepV),l=pre++post∧i=I pre.length∧RepsOk E n rs∧E.length≤pre.length∧Mem wr w.heap.size w.heap.size vs rs va E∧Ext w wr) (fun _ i _=>l.length - (intOf i).toNat)
  case atStart=>exact⟨[],l,[],_,_,rfl,rfl,RepsOk.zero hn4,Nat.le_refl _,HM0.out,(Ext.refl w).alloc _⟩
  case round =>
   obtain⟨pre,post,E,rs,vs,hl,rfl,hrep,hel,hm,hx⟩:=hrel
   have HREP:=zH hrep
   have HM:=zH hm
   have HX:=zH hx
   cases post with
   | cons m post =>
    have hlt:pre.length < l.length:=by rw [hl];simp
    obtain⟨b,of,hA,e0,e1,e2,e3,e4,e5,e6⟩:=yag HL.out hx hl
    subst hA
    have HLL:=zH hl
    have HMD:=zH (HD.out m (by rw [hl];simp))
    have HEL:=zH hel
    have he2:E.length < 200:=by omega
    have HC:=zH (zzd (n:=n) HMD.out HM.out HREP.out hn1 he2)
    have HRD:=zH (HREP.out.does hn1 he2 HMD.out)
    have HDL:=zH (zy9 E rs m)
    clear hl hrep hm hx hel
    go_wp2_with fail
    refine HC.out.mono ?_
    rintro r W2 ⟨va2,vs2,rfl,hm2,hb2⟩
    obtain⟨⟨E2,rs2⟩,hE2⟩:∃ p,zg5 E rs m=p:=⟨_,rfl⟩
    rw [hE2] at hm2 HRD HDL
    have HM:=zH hm2
    have HX:=zH (Below.trans HX.out hb2)
    clear hm2 hb2 HC hE2 HREP
    skip
    obtain⟨AE,nE,rfl,-,-⟩:=(show Mem W2 w.heap.size w.heap.size vs2 rs2 va2 E2 from HM.out).ev.form
    go_wp2_with fail
    obtain⟨wo,hwo⟩:∃ wo:World,wo=W2:=⟨_,rfl⟩
    subst hwo
    go_loopw [10] (fun k wq=>∃ kk:Nat,k=I kk∧kk≤n∧Ext wo wq) (fun k _=>n - (intOf k).toNat)
    case atStart=>exact⟨0,rfl,Nat.zero_le _,Ext.refl _⟩
    case round =>
     obtain⟨kk,rfl,hkn,hx2⟩:=hrel
     have HX2:=zH hx2
     by_cases hk:kk < n
     ·obtain⟨r,hr⟩:∃ r,rs2[kk]? = some r:=⟨_,List.getElem?_eq_getElem (by rw [HRD.out.len];exact hk)⟩
      obtain⟨hmy,hsm,hky,h1,h2,h3⟩:=HRD.out.tells hr
      have hmq:=HM.out.ext hx2
      obtain⟨v,hv,hra⟩:=hmq.get hr
      have hkn2:=zul hra.kn
      rw [(HRD.out.each kk r hr).knew] at hkn2
      have HC:=zH (zxb HRD.out.hist hra.st hsm hmy (hmq.ev.sl (S':=fun _=>True) (by decide) (fun _ _ _=>trivial) (fun _ _ _=>trivial)) hkn2 hra.ask hky h1 h2 h3)
      have c0:=hmq.cell (j:=0) hv rfl
      have c1:=hmq.cell (j:=1) hv rfl
      have c2:=hmq.cell (j:=2) hv rfl
      have c3:=hmq.cell (j:=3) hv rfl
      have c4:=hmq.cell (j:=4) hv rfl
      simp only [Nat.add_zero] at c0
      obtain⟨v1,v2,v3,v4,v5⟩:=v
      obtain⟨A1,n1,rfl,-,-⟩:=hra.st.all.form
      obtain⟨A2,n2,rfl,-,-⟩:=hra.st.entries.form
      obtain⟨A3,n3,rfl,-,-⟩:=hra.st.pruned.form
      obtain⟨A4,n4,rfl,-,-⟩:=hra.kn.form
      obtain⟨A5,n5,rfl,-,-⟩:=hra.ask.form
      clear hmy hsm hky h1 h2 h3 hmq hv hra hkn2 hr hx2
      go_wp2_with fail
      refine HC.out.mono ?_
      rintro r W3 ⟨rfl,hx3⟩
      have HX3:=zH (HX2.out.trans hx3)
      clear hx3 HC c0 c1 c2 c3 c4
      go_wp2_with fail
      go_roundw
      case rel=>exact⟨kk+1,by simp,hk,HX3.out⟩
      case measure=>simp [intOf];omega
     ·obtain rfl:kk=n:=by omega
      go_wp2_with fail
      go_roundw
      case rel=>exact⟨pre++[m],post,E2,rs2,vs2,by rw [HLL.out];simp,by simp,HRD.out,by have h1:=HDL.out;have h2:=HEL.out;simp;omega,HM.out.ext HX2.out,Ext.trans HX.out HX2.out⟩
      case measure=>simp [intOf];omega
   | nil =>
    rw [List.append_nil] at hl
    subst hl
    go_wp2_with fail
    refine (zo7 _).mono ?_
    rintro r Z ⟨rfl,hxz⟩
    go_wp2_with fail
    go_ret
    exact⟨rfl,Ext.trans HX.out hxz⟩
end
end Go.Proofs.YtdikcgmdmcfpfaaGreat
