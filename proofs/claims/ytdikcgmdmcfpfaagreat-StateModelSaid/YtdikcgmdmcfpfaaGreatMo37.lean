/- gossamerlaw16.model: a put. Printed by gen_model.py. -/
import Derived.Test.YtdikcgmdmcfpfaaGreatMo36
set_option linter.unusedVariables false
set_option linter.unusedSimpArgs false
set_option maxRecDepth 100000
set_option maxHeartbeats 40000000
namespace Go.Proofs.YtdikcgmdmcfpfaaGreat
section
open Go.RowKit Go.Shelf
attribute [local go_sem] zpk zpl
theorem zw6 {E:List Ev} {V:Vec} {S S':Nat→Prop} {w wr wp:World} {c c2 m bE oE g og:Nat} {G:Value} {j:Option Nat} {a b:Bool} {e:Ev} {u13 u14 u15 u19 u20 u21 u22 u23 u24 u25 u26 u27 u28 u29 u30 u31 u32 u33 u34 u35 u36 u37 u38 u39 u40 u41 u42 u43 u44 u45 u46 u47 u48 u49 u50 u51 u52 u53 u54 u55 u56 u57 u58 u59 u60 u61 u62 u63 u64 u65 u66 u67 u68 u69 u70 u71 u72 u73 u74 u75 u76 u77 u78 u79 u80 u81 u82 u83 u84 u85 u86 u87 u88 u89 u90 u91 u92 u93 u94 u95 u96 u97 u98 u99 u100 u101 u102 u103 u104 u105 u106 u107 u108 u109 u110 u111 u112 u113 u114 u115 u116 u117 u118 u119 u120 u121 u122 u123 u124 u125 u126 u127 u128 u129 u130 u131 u132 u133 u134 u135 u136 u137 u138 u139 u140 u141 u142 u143 u144 u145 u146 u147 u148 u149 u150 u151 u152 u153 u154 u155 u156 u157 u158 u159 u160 u161 u162 u163 u164 u165 u166 u167 u168 u169 u170 u171 u172 u173 u174 u175 u176 u177 u178 u179 u180 u181 u182 u183 u184 u185 u186 u187 u188 u189 u190 u191 u192 u193 u194 u195 u196 u197:Value} {Q:Exit→Act→World→Prop} (hml:E.length≤200) (hH:HistOk E) (hA:Sl evT w S (.slice (some ⟨bE,oE,none⟩) E.length c) E) (hkn:Sl boolT w S' (.slice (some ⟨g,og,none⟩) E.length c2) (E.map (zaf V))) (he:E[m]? = some e) (hm:m < E.length) (hM:ModAt w wr E V m j a b) (hi:ModIn w wp (rowM E (m+1)) a b) (hke:zaf V e=true) (hop:e.op=2)
  (hev:∀ X,Ext w X→X.cell? ⟨bE,oE+m * 5,none⟩=some (St e.key)∧X.cell? ⟨bE,oE+m * 5+1,none⟩=some (I e.n)∧X.cell? ⟨bE,oE+m * 5+2,none⟩=some (K8 e.op)∧X.cell? ⟨bE,oE+m * 5+3,none⟩=some (St e.tx)∧X.cell? ⟨bE,oE+m * 5+4,none⟩=some G)
  (hQ:∀ ⦃u13 u14 u15 u19 u20 u21 u22 u23 u24 u25 u26 u27 u28 u29 u30 u31 u32 u33 u34 u35 u36 u37 u38 u39 u40 u41 u42 u43 u44 u45 u46 u47 u48 u49 u50 u51 u52 u53 u54 u55 u56 u57 u58 u59 u60 u61 u62 u63 u64 u65 u66 u67 u68 u69 u70 u71 u72 u73 u74 u75 u76 u77 u78 u79 u80 u81 u82 u83 u84 u85 u86 u87 u88 u89 u90 u91 u92 u93 u94 u95 u96 u97 u98 u99 u100 u101 u102 u103 u104 u105 u106 u107 u108 u109 u110 u111 u112 u113 u114 u115 u116 u117 u118 u119 u120 u121 u122 u123 u124 u125 u126 u127 u128 u129 u130 u131 u132 u133 u134 u135 u136 u137 u138 u139 u140 u141 u142 u143 u144 u145 u146 u147 u148 u149 u150 u151 u152 u153 u154 u155 u156 u157 u158 u159 u160 u161 u162 u163 u164 u165 u166 u167 u168 u169 u170 u171 u172 u173 u174 u175 u176 u177 u178 u179 u180 u181 u182 u183 u184 u185 u186 u187 u188 u189 u190 u191 u192 u193 u194 u195 u196 u197:Value⦄ ⦃W':World⦄ ⦃j':Option Nat⦄ ⦃a' b':Bool⦄,ModAt w W' E V (m+1) j' a' b'→Q .normal ⟨#[.slice (some ⟨bE,oE,none⟩) E.length c,.slice (some ⟨g,og,none⟩) E.length c2,undef,undef,.int .i64 0,.pointer (some ⟨w.heap.size,0,none⟩),.string { data:=#[] },.bool false,I (sumM V (E.take m)),.pointer (some ⟨w.heap.size+1,0,none⟩),.slice (some ⟨w.heap.size+1+1,0,none⟩) E.length E.length,I (zfq j'),I m,u13,u14,u15,.slice (some ⟨bE,oE,none⟩) E.length c,.int .i64 (E.length:Int),.slice (some ⟨w.heap.size+1+1,0,none⟩) E.length E.length,u19,u20,u21,u22,u23,u24,u25,u26,u27,u28,u29,u30,u31,u32,u33,u34,u35,u36,u37,u38,u39,u40,u41,u42,u43,u44,u45,u46,u47,u48,u49,u50,u51,u52,u53,u54,u55,u56,u57,u58,u59,u60,u61,u62,u63,u64,u65,u66,u67,u68,u69,u70,u71,u72,u73,u74,u75,u76,u77,u78,u79,u80,u81,u82,u83,u84,u85,u86,u87,u88,u89,u90,u91,u92,u93,u94,u95,u96,u97,u98,u99,u100,u101,u102,u103,u104,u105,u106,u107,u108,u109,u110,u111,u112,u113,u114,u115,u116,u117,u118,u119,u120,u121,u122,u123,u124,u125,u126,u127,u128,u129,u130,u131,u132,u133,u134,u135,u136,u137,u138,u139,u140,u141,u142,u143,u144,u145,u146,u147,u148,u149,u150,u151,u152,u153,u154,u155,u156,u157,u158,u159,u160,u161,u162,u163,u164,u165,u166,u167,u168,u169,u170,u171,u172,u173,u174,u175,u176,u177,u178,u179,u180,u181,u182,u183,u184,u185,u186,u187,u188,u189,u190,u191,u192,u193,u194,u195,u196,u197,undef,undef,undef,undef,undef,undef,undef,undef,undef,undef,undef],[]⟩ W') :
  (zfl [true,true,true,true,true,false,true,true,true,true,false,true,true,true,true] (Tryz.f50.body.getD .skip)).wp Tryz.prog Q ⟨#[.slice (some ⟨bE,oE,none⟩) E.length c,.slice (some ⟨g,og,none⟩) E.length c2,undef,undef,.int .i64 0,.pointer (some ⟨w.heap.size,0,none⟩),.string { data:=#[] },.bool false,I (sumM V (E.take m)),.pointer (some ⟨w.heap.size+1,0,none⟩),.slice (some ⟨w.heap.size+1+1,0,none⟩) E.length E.length,I (zfq j),I m,u13,u14,u15,.slice (some ⟨bE,oE,none⟩) E.length c,.int .i64 (E.length:Int),.slice (some ⟨w.heap.size+1+1,0,none⟩) E.length E.length,u19,u20,u21,u22,u23,u24,u25,u26,u27,u28,u29,u30,u31,u32,u33,u34,u35,u36,u37,u38,u39,u40,u41,u42,u43,u44,u45,u46,u47,u48,u49,u50,u51,u52,u53,u54,u55,u56,u57,u58,u59,u60,u61,u62,u63,u64,u65,u66,u67,u68,u69,u70,u71,u72,u73,u74,u75,u76,u77,u78,u79,u80,u81,u82,u83,u84,u85,u86,u87,u88,u89,u90,u91,u92,u93,u94,u95,u96,u97,u98,u99,u100,u101,u102,u103,u104,u105,u106,u107,u108,u109,u110,u111,u112,u113,u114,u115,u116,u117,u118,u119,u120,u121,u122,u123,u124,u125,u126,u127,u128,u129,u130,u131,u132,u133,u134,u135,u136,u137,u138,u139,u140,u141,u142,u143,u144,u145,u146,u147,u148,u149,u150,u151,u152,u153,u154,u155,u156,u157,u158,u159,u160,u161,u162,u163,u164,u165,u166,u167,u168,u169,u170,u171,u172,u173,u174,u175,u176,u177,u178,u179,u180,u181,u182,u183,u184,u185,u186,u187,u188,u189,u190,u191,u192,u193,u194,u195,u196,u197,undef,undef,undef,undef,undef,undef,undef,undef,undef,undef,undef],[]⟩ wp:=by
 simp only [Tryz.f50,Option.getD_some,zfl]
 have HH:=zH hH
 have HA:=zH hA
 have HKN:=zH hkn
 have HE:=zH he
 have HM:=zH hM
 have HI:=zH hi
 have HKE:=zH hke
 have HOP:=zH hop
 have HEV:=zH hev
 have HRR:=zH hQ
 have HOK:=zH (hH.ok e (List.mem_of_getElem? he))
 obtain⟨f0,f1,f2,f3,f4⟩:=hev wp hi.ext
 rw [hop] at f2
 clear hH hA hkn he hM hi hke hop hev hQ
 go_wp2_with fail
 obtain⟨w0,hw0⟩:∃ W:World,W=wp:=⟨_,rfl⟩
 subst hw0
 go_loopw [14,15] (fun g k wq=>∃ (kk:Nat) (gb:Bool),g=.bool gb∧k=I kk∧m < kk∧kk≤E.length∧(gb=true↔zlg E V m e.tx kk)∧ModIn w wq (rowM E (m+1)) a b) (fun _ k _=>E.length - (intOf k).toNat)
 case atStart=>exact⟨m+1,false,rfl,by simp,by omega,hm,⟨fun h=>(by cases h),fun h=>absurd h (zsc E V m e.tx)⟩,HI.out⟩
 case round =>
  obtain⟨kk,gb,rfl,rfl,hmk,hkk,hg,hi⟩:=hrel
  have HI:=zH hi
  have HG:=zH hg
  clear hi hg
  by_cases hc:kk < E.length
  ·obtain⟨x,hx⟩:∃ x,E[kk]? = some x:=⟨_,List.getElem?_eq_getElem hc⟩
   have HX:=zH hx
   obtain⟨b2,o2,v2,hA2,hsk2,hev2⟩:=zlh HA.out (zet hx).1 (zet hx).2
   cases hA2
   obtain⟨G2,cG2,rfl,-,-⟩:=hsk2.form
   have hkx:(E.map (zaf V))[kk]? = some (zaf V x):=by rw [List.getElem?_map,hx];rfl
   obtain⟨kb,hkb⟩:∃ b,x.kn[m]? = some b:=⟨_,List.getElem?_eq_getElem (by rw [HH.out.len kk x hx];exact hmk)⟩
   obtain⟨Wd,hWd⟩:∃ W,wr.drew=W:=⟨_,rfl⟩
   have hdr:Ext wr Wd:=by rw [← hWd];exact (Ext.refl _).drew
   have HWD:=zH hWd
   clear hWd
   have HI:=zH (HI.out.on hdr)
   obtain⟨k0,k1,k2,k3,k4⟩:=hev2 Wd HI.out.ext
   obtain⟨f0,f1,f2,f3,f4⟩:=HEV.out Wd HI.out.ext
   obtain⟨g2,og2,hB2,hkc2⟩:=zli HKN.out HI.out.ext hkx
   cases hB2
   obtain⟨g3,og3,rfl,hkc3⟩:=zli hsk2 HI.out.ext hkb
   obtain⟨kx,hkx2⟩:∃ b,zaf V x=b:=⟨_,rfl⟩
   obtain⟨ky,hky2⟩:∃ b,(x.key == keyA)=b:=⟨_,rfl⟩
   obtain⟨kt,hkt⟩:∃ b,(x.tx == e.tx)=b:=⟨_,rfl⟩
   have HGS:Hid ((gb || (kx && (ky && (kt && kb))))=true↔zlg E V m e.tx (kk+1)):=zH (by rw [zt8 hmk HX.out,← HG.out,hkx2,← beq_iff_eq (a:=x.key),hky2,← beq_iff_eq (a:=x.tx),hkt,hkb];simp)
   rw [hkx2] at hkc2
   rw [show keyA = [64,115] from rfl] at hky2
   have hlx:=HH.out.len kk x hx
   rw [hlx] at k4
   clear hx hsk2 hev2 hkx hkb hdr hkx2 hlx
   go_wp2_with fail
   cases gb;case' false=>(cases kx;case' true=>(cases ky;case' true=>(cases kt;case' true=>cases kb)))
   all_goals (
    refine wp_region_still_tail 37 (by kernel_rfl) (by kernel_rfl) ?_
    simp only [List.take_succ_cons,List.take_zero,List.drop_succ_cons,List.drop_zero]
    change wpStill _ _ wr.drew (fun a'=>wpList _ _ _ _ a' wr.drew) _ _
    rw [HWD.out]
    generalize hA:Act.mk _ _=A0;repeat (refine wpStill_step (fun K2 hK2=>?_);subst hA;go_simp;(try rw [if_neg (by decide)]);generalize hA:Act.mk _ _=A0;refine hK2 A0 ?_;clear hK2 K2)
    refine wpStill_nil ?_
    subst hA
    go_wp2_with fail
    go_roundw
    case rel=>exact⟨kk+1,_,rfl,by simp,by omega,hc,HGS.out,HI.out⟩
    case measure=>simp [intOf];omega)
  ·obtain rfl:kk=E.length:=by omega
   have HGA:=zH (HG.out.trans (zww HH.out.toHist V m e.tx))
   obtain⟨Wd,hWd⟩:∃ W,wr.drew=W:=⟨_,rfl⟩
   have hdr:Ext wr Wd:=by rw [← hWd];exact (Ext.refl _).drew
   have HWD:=zH hWd
   clear hWd
   have HI:=zH (HI.out.on hdr)
   obtain⟨f0,f1,f2,f3,f4⟩:=HEV.out Wd HI.out.ext
   have b0:=HI.out.box.cell (j:=0) rfl
   have b1:=HI.out.box.cell (j:=1) rfl
   have q0:=HI.out.box.frozen 0
   have q1:=HI.out.box.frozen 1
   clear hdr HG
   go_wp2_with fail
   rcases HOK.out.text with ht | ht
   ·rw [ht] at f3
    have HTX:Hid (((a || !gb)=true↔zd7 E V (m+1) [97])∧(b=true↔zd7 E V (m+1) [98])):=zH ⟨by rw [zfk HE.out,← HM.out.ha,HKE.out,HOP.out,ht,← ht,← HGA.out];cases a <;> cases gb <;> simp,by rw [zfk HE.out,← HM.out.hb,ht];simp⟩
    clear ht
    cases a;case' false=>cases gb
    all_goals (
     refine wp_region_still_tail 21 (by kernel_rfl) (by kernel_rfl) ?_
     simp only [List.take_succ_cons,List.take_zero,List.drop_succ_cons,List.drop_zero]
     change wpStill _ _ wr.drew (fun a'=>wpList _ _ _ _ a' wr.drew) _ _
     rw [HWD.out]
     generalize hA:Act.mk _ _=A0;repeat (refine wpStill_step (fun K2 hK2=>?_);subst hA;go_simp;(try rw [if_neg (by decide)]);generalize hA:Act.mk _ _=A0;refine hK2 A0 ?_;clear hK2 K2)
     refine wpStill_nil ?_
     subst hA
     go_wp2_with fail
     exact HRR.out (HM.out.put (HI.out.set0 _) HE.out (by rw [HOP.out];simp) HTX.out.1 HTX.out.2))
   ·rw [ht] at f3
    have HTX:Hid (((b || !gb)=true↔zd7 E V (m+1) [98])∧(a=true↔zd7 E V (m+1) [97])):=zH ⟨by rw [zfk HE.out,← HM.out.hb,HKE.out,HOP.out,ht,← ht,← HGA.out];cases b <;> cases gb <;> simp,by rw [zfk HE.out,← HM.out.ha,ht];simp⟩
    clear ht
    cases b;case' false=>cases gb
    all_goals (
     refine wp_region_still_tail 21 (by kernel_rfl) (by kernel_rfl) ?_
     simp only [List.take_succ_cons,List.take_zero,List.drop_succ_cons,List.drop_zero]
     change wpStill _ _ wr.drew (fun a'=>wpList _ _ _ _ a' wr.drew) _ _
     rw [HWD.out]
     generalize hA:Act.mk _ _=A0;repeat (refine wpStill_step (fun K2 hK2=>?_);subst hA;go_simp;(try rw [if_neg (by decide)]);generalize hA:Act.mk _ _=A0;refine hK2 A0 ?_;clear hK2 K2)
     refine wpStill_nil ?_
     subst hA
     go_wp2_with fail
     exact HRR.out (HM.out.put (HI.out.set1 _) HE.out (by rw [HOP.out];simp) HTX.out.2 HTX.out.1))
end
end Go.Proofs.YtdikcgmdmcfpfaaGreat
