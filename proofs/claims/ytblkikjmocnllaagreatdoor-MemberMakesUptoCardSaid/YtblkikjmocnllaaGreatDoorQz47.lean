/- Laws. -/
import Derived.Test.YtblkikjmocnllaaGreatDoorQz21
import Derived.Test.YtblkikjmocnllaaGreatDoorQz20
import Derived.Test.YtblkikjmocnllaaGreatDoorQz36
import Derived.Test.YtblkikjmocnllaaGreatDoorQz40
import Derived.KernelRfl
import Derived.Test.YtblkikjmocnllaaGreatDoorQz18
set_option linter.unusedVariables false
set_option linter.unusedSimpArgs false
set_option maxRecDepth 100000
set_option maxHeartbeats 40000000
namespace Go.Proofs.YtblkikjmocnllaaGreatDoor
section
open Go.RowKit Go.Shelf
abbrev s1:Str:=[49]
abbrev s11:Str:=[49,46,49]
abbrev s12:Str:=[49,46,50]
def mm (p:Str) (st:Nat) (k:Int) (la:Nat) (g:List Span):Mbr:=⟨p,st,k,0,la,g,plan0,[]⟩
def aA1:List Mbr:=[mm s1 2 1 0 [],mm s11 1 0 0 []]
def aA2:List Mbr:=[mm s1 2 2 0 [],mm s11 1 0 0 [],mm s12 1 0 0 []]
def aM:Mbr:=mm s1 2 2 0 [(1,2)]
def aB:List Mbr:=[aM,mm s11 1 0 0 [],mm s12 1 0 0 []]
def aBB:List Mbr:=[aM,mm s12 1 0 0 []]
def aJ:List Mbr:=[aM,mm s12 1 0 0 []]
def aU:List Mbr:=[aM,mm s12 2 0 0 []]
def aV:List Mbr:=[aM,mm s12 3 0 7 []]
theorem chl1:childP s1 1=(s11,0):=by
 unfold childP
 rw [if_neg (show ¬ deepP s1=0 by have:deepP s1=1:=(by kernel_rfl);omega),if_neg (by omega),if_neg (show ¬ deepP s1=8 by have:deepP s1=1:=(by kernel_rfl);omega),itoa_pos (by omega),show (1:Int).toNat=1 from rfl,Lib.decDigits_one (by omega)]
 rfl
theorem chl2:childP s1 2=(s12,0):=by
 unfold childP
 rw [if_neg (show ¬ deepP s1=0 by have:deepP s1=1:=(by kernel_rfl);omega),if_neg (by omega),if_neg (show ¬ deepP s1=8 by have:deepP s1=1:=(by kernel_rfl);omega),itoa_pos (by omega),show (2:Int).toNat=2 from rfl,Lib.decDigits_one (by omega)]
 rfl
def admitK (l:List Mbr) (p:Str) (ch:Int->Str × Nat):List Mbr × Str × Nat:=match idxP l p with
 | none=>([],[],200)
 | some i=>match l[i]? with
  | none=>([],[],200)
  | some x=>if x.status ≠ 2 then ([],[],200) else if 24<=l.length ∨ 1073741824<=x.kids then ([],[],6)
   else if (ch (x.kids+1)).2 ≠ 0 then ([],[],(ch (x.kids+1)).2)
   else (putM (l.set i { x with kids:=x.kids+1 }) (newM (ch (x.kids+1)).1 x),(ch (x.kids+1)).1,0)
theorem admitK_is (l:List Mbr) (p:Str):admitM l p=admitK l p (childP p):=rfl
theorem admitK_at {l:List Mbr} {p c:Str} {i:Nat} {x:Mbr} (h1:idxP l p=some i) (h2:l[i]? = some x) (h3:childP p (x.kids+1)=(c,0)):admitM l p=admitK l p (fun _=>(c,0)):=by
 rw [admitK_is]
 unfold admitK
 rw [h1]
 simp only [h2,h3]
theorem adm1:admitM [mbrB] s1=(aA1,s11,0):=(admitK_at (i:=0) (x:=mbrB) (c:=s11) (by kernel_rfl) rfl chl1).trans (by kernel_rfl)
theorem adm2:admitM aA1 s1=(aA2,s12,0):=(admitK_at (i:=0) (x:=mm s1 2 1 0 []) (c:=s12) (by kernel_rfl) rfl chl2).trans (by kernel_rfl)
theorem putB:putM aA2 aM=aB:=by kernel_rfl
theorem bareB:bareM aB=aBB:=by kernel_rfl
theorem spans0:spansM [] [] = []:=by unfold spansM;simp;rfl
theorem spans1:spansM [] [(1,2)] = [(1,2)]:=by
 unfold spansM
 have:(([]++[(1,2)]:List Span).filter sp) = [(1,2)]:=by decide
 rw [this,List.mergeSort_singleton]
 rfl
def aMg:List Mbr:=[mm s1 2 2 0 (spansM [] [(1,2)]),mm s11 1 0 0 [],mm s12 1 0 0 (spansM [] [])]
theorem mrgJ:mergeL Mbr.path joinedM aA2 aBB=aMg:=by kernel_rfl
theorem mrgJ2:aMg = [aM,mm s11 1 0 0 [],mm s12 1 0 0 []]:=by unfold aMg;rw [spans0,spans1];rfl
theorem joinJ:joinL aA2 aBB=aJ:=by
 unfold joinL
 rw [mrgJ,mrgJ2]
 kernel_rfl
theorem upJ:upM aJ s12=(aU,0):=by kernel_rfl
theorem leaveU:leaveM aU s12 7=(aV,0):=by kernel_rfl
theorem leaveV:leaveM aV s1 0=([],2):=by kernel_rfl
theorem findV:findP aV s12=some (mm s12 3 0 7 []):=by kernel_rfl
theorem laterK:(laterM ⟨s11,5,[],[],0,[],0,false⟩ ⟨s1,1,[],[],0,[],0,false⟩)=⟨s1,1,[],[],0,[],0,false⟩:=by kernel_rfl
theorem known1:knownM aJ s11=4:=by kernel_rfl
theorem known2:knownM aJ [49,46,49,46,53]=4:=by kernel_rfl
theorem known3:knownM aJ [49,46,51]=0:=by kernel_rfl
theorem mayV:may20 aV=true:=by kernel_rfl
structure TinyL (l:List Mbr):Prop where
 len:l.length<=4
 each:∀ x ∈ l,x.path.length<=3/\0<=x.kids/\x.gone.length<=1/\x.words = []/\x.plan=plan0
theorem TinyL.small {l:List Mbr} (h:TinyL l):SmallL l:=⟨by have:=h.len;omega,fun x hx=>by have:=h.each x hx;rw [this.2.2.2.1];simp;omega⟩
theorem TinyL.join {l:List Mbr} (h:TinyL l):JoinOk l where
 len:=by have:=h.len;omega
 path x hx:=by have:=h.each x hx;omega
 keeper x hx:=by rw [(h.each x hx).2.2.2.2];decide
 words x hx z hz:=by rw [(h.each x hx).2.2.2.1] at hz;cases hz
 gone x hx:=by have:=h.each x hx;omega
 wlen x hx:=by rw [(h.each x hx).2.2.2.1];decide
theorem TinyL.tidy {l:List Mbr} (h:TinyL l):TidyL l where
 len:=by have:=h.len;omega
 path x hx:=by have:=h.each x hx;omega
 gone x hx:=by have:=h.each x hx;omega
 wlen x hx:=by rw [(h.each x hx).2.2.2.1];decide
 keeper x hx:=by rw [(h.each x hx).2.2.2.2];decide
 live x hx:=by rw [(h.each x hx).2.2.2.2];decide
 owner x hx:=by rw [(h.each x hx).2.2.2.2];decide
 words x hx z hz:=by rw [(h.each x hx).2.2.2.1] at hz;cases hz
theorem tiny0:TinyL [mbrB]:=⟨by decide,by intro x hx;simp at hx;subst hx;decide⟩
theorem tinyA1:TinyL aA1:=⟨by decide,by intro x hx;simp [aA1] at hx;rcases hx with rfl | rfl <;> decide⟩
theorem tinyA2:TinyL aA2:=⟨by decide,by intro x hx;simp [aA2] at hx;rcases hx with rfl | rfl | rfl <;> decide⟩
theorem tinyB:TinyL aB:=⟨by decide,by intro x hx;simp [aB] at hx;rcases hx with rfl | rfl | rfl <;> decide⟩
theorem tinyBB:TinyL aBB:=⟨by decide,by intro x hx;simp [aBB] at hx;rcases hx with rfl | rfl <;> decide⟩
theorem tinyJ:TinyL aJ:=⟨by decide,by intro x hx;simp [aJ] at hx;rcases hx with rfl | rfl <;> decide⟩
theorem tinyU:TinyL aU:=⟨by decide,by intro x hx;simp [aU] at hx;rcases hx with rfl | rfl <;> decide⟩
theorem tinyV:TinyL aV:=⟨by decide,by intro x hx;simp [aV] at hx;rcases hx with rfl | rfl <;> decide⟩
theorem alive20_any (w:World) (ht:Pow w):Calls Tryz.prog 10 #[] w fun e w'=>e=.returned (.bool true)/\Ext w w':=by
 have HT:=Lib.hid ht
 clear ht
 go_enter Tryz.func10,Tryz.ntmps10
 go_wp2_with fail
 refine (begin_any _).mono ?_
 rintro e w1 ⟨v0,rfl,h0,hx1⟩
 have HX1:=Lib.hid hx1
 have HA1:=Lib.hid (admit_any h0 tiny0.small (fun x hx=>by have:=tiny0.each x hx;omega) (fun x hx=>by have:=tiny0.each x hx;omega) s1 (HT.out.below HX1.out))
 rw [adm1] at HA1
 obtain⟨B0,b0,rfl,-,-⟩:=h0.form
 clear h0 hx1
 go_wp2_with fail
 refine HA1.out.mono ?_
 rintro e w2 ⟨v1,rfl,h1,hx2⟩
 have HX2:=Lib.hid (HX1.out.trans hx2)
 have HA2:=Lib.hid (admit_any h1 tinyA1.small (fun x hx=>by have:=tinyA1.each x hx;omega) (fun x hx=>by have:=tinyA1.each x hx;omega) s1 (HT.out.below HX2.out))
 rw [adm2] at HA2
 obtain⟨B1,b1,rfl,-,-⟩:=h1.form
 clear h1 hx2 HA1
 go_wp2_with fail
 refine HA2.out.mono ?_
 rintro e w3 ⟨v2,rfl,h2,hx3⟩
 have HX3:=Lib.hid (HX2.out.trans hx3)
 have H2:=Lib.hid h2
 obtain⟨B2,b2,rfl,-,-⟩:=h2.form
 have hxs:=(Ext.refl w3).alloc (.cells #[.int .i64 1,.int .i64 2] 76)
 have hsp:Sl spanT (w3.alloc (.cells #[.int .i64 1,.int .i64 2] 76)) (fun _=>True) (.slice (some ⟨w3.heap.size,0,none⟩) 1 1) aM.gone:=by
  have r:=rowNew w3 76 [.int .i64 1,.int .i64 2]
  have ho:Own (w3.alloc (.cells #[.int .i64 1,.int .i64 2] 76)) w3.heap.size 76 2 (.slice (some ⟨w3.heap.size,0,none⟩) 1 1) 1 (aM.gone.flatMap spanC):=⟨rfl,.inr ⟨w3.heap.size,1,#[.int .i64 1,.int .i64 2],rfl,Nat.le_refl _,by unfold RowIs at r;simpa using r,Nat.le_refl _,by omega,rfl,rfl⟩⟩
  exact (own_slSpan (l:=aM.gone) ho).mono (by decide) fun _ _ _=>trivial
 have HPU:=Lib.hid (put_any (m:=aM) (v1:=.slice (some ⟨w3.heap.size,0,none⟩) 1 1) (v2:=.slice none 0 0) (h2.ext (by decide) hxs) tinyA2.small (by decide) (fun x hx=>by have:=tinyA2.each x hx;omega) hsp (Sl.nil none 0 (by omega)) (by decide) (by decide) (by decide))
 rw [putB] at HPU
 have HPU:=Lib.hid (show Calls Tryz.prog 31 #[.slice B2 aA2.length b2,.agg #[.string ⟨#[49]⟩,.int .u8 2,.int .i64 2,.int .i64 0,.int .u64 0,.slice (some ⟨w3.heap.size,0,none⟩) 1 1,.string ⟨#[]⟩,.int .u64 0,.string ⟨#[]⟩,.string ⟨#[]⟩,.int .u64 0,.string ⟨#[]⟩,.int .u64 0,.bool false,.slice none 0 0]] (w3.alloc (.cells #[.int .i64 1,.int .i64 2] 76)) _ from HPU.out)
 have HXS:=Lib.hid (HX3.out.trans hxs)
 have HXQ:=Lib.hid hxs
 clear h2 hx3 HA2 hsp hxs
 go_wp2_with fail
 refine HPU.out.mono ?_
 rintro e w4 ⟨v3,rfl,h3,hx4⟩
 have HX4:=Lib.hid (HXS.out.trans hx4)
 have H2:=Lib.hid (H2.out.ext (by decide) (HXQ.out.trans hx4))
 have HBA:=Lib.hid (bare_any h3 tinyB.small (by decide) (fun x hx=>by have:=tinyB.each x hx;omega))
 rw [bareB] at HBA
 obtain⟨B3,b3,rfl,-,-⟩:=h3.form
 clear h3 hx4 HPU HXS HXQ
 go_wp2_with fail
 refine HBA.out.mono ?_
 rintro e w5 ⟨v4,rfl,h4,hx5⟩
 have HX5:=Lib.hid (HX4.out.trans hx5)
 have HJO:=Lib.hid (join_any (H2.out.ext (by decide) hx5) h4 tinyA2.join tinyBB.join (by decide))
 rw [joinJ] at HJO
 obtain⟨B4,b4,rfl,-,-⟩:=h4.form
 clear h4 hx5 HBA
 go_wp2_with fail
 refine HJO.out.mono ?_
 rintro e w6 ⟨v5,rfl,h5,hx6⟩
 have HX6:=Lib.hid (HX5.out.trans hx6)
 have H5:=Lib.hid h5
 have HUP:=Lib.hid (up_any h5 tinyJ.small s12)
 rw [upJ] at HUP
 obtain⟨B5,b5,rfl,-,-⟩:=h5.form
 clear h5 hx6 HJO
 go_wp2_with fail
 refine HUP.out.mono ?_
 rintro e w7 ⟨v6,rfl,h6,hx7⟩
 have HX7:=Lib.hid (HX6.out.trans hx7)
 have H5:=Lib.hid (H5.out.ext (by decide) hx7)
 have HLE:=Lib.hid (leave_any h6 tinyU.small s12 7)
 rw [leaveU] at HLE
 obtain⟨B6,b6,rfl,-,-⟩:=h6.form
 clear h6 hx7 HUP
 go_wp2_with fail
 refine HLE.out.mono ?_
 rintro e w8 ⟨v7,rfl,h7,hx8⟩
 have HX8:=Lib.hid (HX7.out.trans hx8)
 have H5:=Lib.hid (H5.out.ext (by decide) hx8)
 have H7:=Lib.hid h7
 have HOF:=Lib.hid (of_any h7 tinyV.small s12)
 rw [findV] at HOF
 simp only [Option.getD_some,Option.isSome_some] at HOF
 obtain⟨B7,b7,rfl,-,-⟩:=h7.form
 clear h7 hx8 HLE
 go_wp2_with fail
 refine HOF.out.mono ?_
 rintro e w9 ⟨u1,u2,rfl,ho,hx9⟩
 obtain⟨G1,g1,rfl,-,-⟩:=ho.gone.form
 obtain⟨G2,g2,rfl,-,-⟩:=ho.words.form
 have hxm:=(Ext.refl w9).alloc (.cells #[.string ⟨#[49,46,50]⟩,.int .u8 3,.int .i64 0,.int .i64 0,.int .u64 7,.slice G1 0 g1,.string ⟨#[]⟩,.int .u64 0,.string ⟨#[]⟩,.string ⟨#[]⟩,.int .u64 0,.string ⟨#[]⟩,.int .u64 0,.bool false,.slice G2 0 g2] 48)
 have rM:=rowNew w9 48 [.string ⟨#[49,46,50]⟩,.int .u8 3,.int .i64 0,.int .i64 0,.int .u64 7,.slice G1 0 g1,.string ⟨#[]⟩,.int .u64 0,.string ⟨#[]⟩,.string ⟨#[]⟩,.int .u64 0,.string ⟨#[]⟩,.int .u64 0,.bool false,.slice G2 0 g2]
 have HRM:=Lib.hid rM
 have HX9:=Lib.hid ((HX8.out.trans hx9).trans hxm)
 have H5:=Lib.hid (H5.out.ext (by decide) (hx9.trans hxm))
 have H7:=Lib.hid (H7.out.ext (by decide) (hx9.trans hxm))
 clear ho hx9 hxm rM HOF
 unfold mbrV mm plan0
 go_wp2_with fail
 have HLV:=Lib.hid (leave_any H7.out tinyV.small s1 0)
 rw [leaveV] at HLV
 refine HLV.out.mono ?_
 rintro e w10 ⟨v8,rfl,h8,hx10⟩
 have HX10:=Lib.hid (HX9.out.trans hx10)
 have H5:=Lib.hid (H5.out.ext (by decide) hx10)
 have H7:=Lib.hid (H7.out.ext (by decide) hx10)
 have HRM:=Lib.hid (HRM.out.ext hx10)
 obtain⟨B8,b8,rfl,-,-⟩:=h8.form
 have hla:=fun W=>later_any ⟨s11,5,[],[],0,[],0,false⟩ ⟨s1,1,[],[],0,[],0,false⟩ (by decide) (by decide) W
 simp only [laterK] at hla
 have HLA:=Lib.hid (fun W=>show Calls Tryz.prog 23 #[.agg #[.string ⟨#[49,46,49]⟩,.int .u64 5,.string ⟨#[]⟩,.string ⟨#[]⟩,.int .u64 0,.string ⟨#[]⟩,.int .u64 0,.bool false],.agg #[.string ⟨#[49]⟩,.int .u64 1,.string ⟨#[]⟩,.string ⟨#[]⟩,.int .u64 0,.string ⟨#[]⟩,.int .u64 0,.bool false]] W (fun e w'=>e=.returned (.agg #[.string ⟨#[49]⟩,.int .u64 1,.string ⟨#[]⟩,.string ⟨#[]⟩,.int .u64 0,.string ⟨#[]⟩,.int .u64 0,.bool false])/\Ext W w') from hla W)
 clear h8 hx10 hla HLV
 go_wp2_with fail
 refine (HLA.out _).mono ?_
 rintro e w11 ⟨rfl,hx11⟩
 have hxp:=(Ext.refl w11).alloc (.cells #[.string ⟨#[49]⟩,.int .u64 1,.string ⟨#[]⟩,.string ⟨#[]⟩,.int .u64 0,.string ⟨#[]⟩,.int .u64 0,.bool false] 45)
 have rP:=rowNew w11 45 [.string ⟨#[49]⟩,.int .u64 1,.string ⟨#[]⟩,.string ⟨#[]⟩,.int .u64 0,.string ⟨#[]⟩,.int .u64 0,.bool false]
 obtain⟨W12,hW12⟩:∃ W12,w11.alloc (.cells #[.string ⟨#[49]⟩,.int .u64 1,.string ⟨#[]⟩,.string ⟨#[]⟩,.int .u64 0,.string ⟨#[]⟩,.int .u64 0,.bool false] 45)=W12:=⟨_,rfl⟩
 have hr0:RowIs W12 w11.heap.size 45 [.string ⟨#[49]⟩,.int .u64 1,.string ⟨#[]⟩,.string ⟨#[]⟩,.int .u64 0,.string ⟨#[]⟩,.int .u64 0,.bool false] []:=by rw [<- hW12];exact rP
 have hx12:Ext w11 W12:=by rw [<- hW12];exact hxp
 have HW12:=Lib.hid hW12
 have HX12:=Lib.hid ((HX10.out.trans hx11).trans hx12)
 have H5:=Lib.hid (H5.out.ext (by decide) (hx11.trans hx12))
 have H7:=Lib.hid (H7.out.ext (by decide) (hx11.trans hx12))
 have hm:=HRM.out.ext (hx11.trans hx12)
 have HCE:=Lib.hid (fun W (he:Ext W12 W)=>show W.cell? ⟨w9.heap.size,1,none⟩=some (.int .u8 3)/\W.cell? ⟨w9.heap.size,4,none⟩=some (.int .u64 7)/\W.cell? ⟨w11.heap.size,0,none⟩=some (.string ⟨#[49]⟩) from ⟨(hm.ext he).cell (j:=1) rfl,(hm.ext he).cell (j:=4) rfl,(hr0.ext he).cell (j:=0) rfl⟩)
 have HK1:=Lib.hid (fun W (he:Ext W12 W)=>known_any (H5.out.ext (by decide) he) s11 (by decide))
 have HK2:=Lib.hid (fun W (he:Ext W12 W)=>known_any (H5.out.ext (by decide) he) [49,46,49,46,53] (by decide))
 have HK3:=Lib.hid (fun W (he:Ext W12 W)=>known_any (H5.out.ext (by decide) he) [49,46,51] (by decide))
 have HMY:=Lib.hid (fun W (he:Ext W12 W)=>mmay_any (H7.out.ext (by decide) he) tinyV.tidy)
 have HCP:=Lib.hid (fun W (he:Ext W12 W)=>copyM_any (H7.out.ext (by decide) he) tinyV.small)
 rw [known1] at HK1
 rw [known2] at HK2
 rw [known3] at HK3
 rw [mayV] at HMY
 have e1:((aA2.length:Int) == 3)=true:=rfl
 have e2:((aJ.length:Int) == 2)=true:=rfl
 clear hx11 hxp rP hr0 hx12 hW12 hm HLA
 go_wp2_with fail
 rw [HW12.out]
 refine (HK1.out _ (Ext.refl _)).mono ?_
 rintro e w13 ⟨rfl,y1⟩
 go_wp2_with fail
 refine (HK2.out _ y1).mono ?_
 rintro e w14 ⟨rfl,y2⟩
 have Y2:=Lib.hid (y1.trans y2)
 clear y1 y2
 go_wp2_with fail
 refine (HK3.out _ Y2.out).mono ?_
 rintro e w15 ⟨rfl,y3⟩
 have Y3:=Lib.hid (Y2.out.trans y3)
 clear y3
 obtain⟨q1,q2,q3⟩:=HCE.out _ Y3.out
 go_wp2_with fail
 refine (HMY.out _ Y3.out).mono ?_
 rintro e w16 ⟨rfl,y4⟩
 have Y4:=Lib.hid (Y3.out.trans y4)
 clear y4
 go_wp2_with fail
 refine (HCP.out _ Y4.out).mono ?_
 rintro e w17 ⟨v9,rfl,hcp,y5⟩
 have Y5:=Lib.hid (Y4.out.trans y5)
 have HSA:=Lib.hid (same_any (H7.out.ext (by decide) Y5.out) hcp.sl)
 clear y5 hcp
 go_wp2_with fail
 refine HSA.out.mono ?_
 rintro e w18 ⟨rfl,y6⟩
 go_wp2_with fail
 go_ret
 exact⟨rfl,HX12.out.trans (Y5.out.trans y6)⟩
end
end Go.Proofs.YtblkikjmocnllaaGreatDoor
