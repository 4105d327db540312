/- gossamerlaw16.model: a write. Printed by gen_model.py. -/
import Derived.Test.YtdikcgmdmcfpfaaGreatMo36
set_option linter.unusedVariables false
set_option linter.unusedSimpArgs false
set_option maxRecDepth 100000
set_option maxHeartbeats 40000000
namespace Go.Proofs.YtdikcgmdmcfpfaaGreat
section
open Go.RowKit Go.Shelf
attribute [local go_sem] zpk zpl
theorem zsh {E:List Ev} {V:Vec} {S S':Nat→Prop} {w wr wp:World} {c c2 m bE oE g og:Nat} {G:Value} {j:Option Nat} {a b:Bool} {e:Ev} {u13 u14 u15 u19 u20 u21 u22 u23 u24 u25 u26 u27 u28 u29 u30 u31 u32 u33 u34 u35 u36 u37 u38 u39 u40 u41 u42 u43 u44 u45 u46 u47 u48 u49 u50 u51 u52 u53 u54 u55 u56 u57 u58 u59 u60 u61 u62 u63 u64 u65 u66 u67 u68 u69 u70 u71 u72 u73 u74 u75 u76 u77 u78 u79 u80 u81 u82 u83 u84 u85 u86 u87 u88 u89 u90 u91 u92 u93 u94 u95 u96 u97 u98 u99 u100 u101 u102 u103 u104 u105 u106 u107 u108 u109 u110 u111 u112 u113 u114 u115 u116 u117 u118 u119 u120 u121 u122 u123 u124 u125 u126 u127 u128 u129 u130 u131 u132 u133 u134 u135 u136 u137 u138 u139 u140 u141 u142 u143 u144 u145 u146 u147 u148 u149 u150 u151 u152 u153 u154 u155 u156 u157 u158 u159 u160 u161 u162 u163 u164 u165 u166 u167 u168 u169 u170 u171 u172 u173 u174 u175 u176 u177 u178 u179 u180 u181 u182 u183 u184 u185 u186 u187 u188 u189 u190 u191 u192 u193 u194 u195 u196 u197:Value} {Q:Exit→Act→World→Prop} (hml:E.length≤200) (hH:HistOk E) (hA:Sl evT w S (.slice (some ⟨bE,oE,none⟩) E.length c) E) (hkn:Sl boolT w S' (.slice (some ⟨g,og,none⟩) E.length c2) (E.map (zaf V))) (he:E[m]? = some e) (hm:m < E.length) (hM:ModAt w wr E V m j a b) (hi:ModIn w wp (rowM E (m+1)) a b) (hke:zaf V e=true) (hop:e.op=4)
  (hev:∀ X,Ext w X→X.cell? ⟨bE,oE+m * 5,none⟩=some (St e.key)∧X.cell? ⟨bE,oE+m * 5+1,none⟩=some (I e.n)∧X.cell? ⟨bE,oE+m * 5+2,none⟩=some (K8 e.op)∧X.cell? ⟨bE,oE+m * 5+3,none⟩=some (St e.tx)∧X.cell? ⟨bE,oE+m * 5+4,none⟩=some G)
  (hQ:∀ ⦃u13 u14 u15 u19 u20 u21 u22 u23 u24 u25 u26 u27 u28 u29 u30 u31 u32 u33 u34 u35 u36 u37 u38 u39 u40 u41 u42 u43 u44 u45 u46 u47 u48 u49 u50 u51 u52 u53 u54 u55 u56 u57 u58 u59 u60 u61 u62 u63 u64 u65 u66 u67 u68 u69 u70 u71 u72 u73 u74 u75 u76 u77 u78 u79 u80 u81 u82 u83 u84 u85 u86 u87 u88 u89 u90 u91 u92 u93 u94 u95 u96 u97 u98 u99 u100 u101 u102 u103 u104 u105 u106 u107 u108 u109 u110 u111 u112 u113 u114 u115 u116 u117 u118 u119 u120 u121 u122 u123 u124 u125 u126 u127 u128 u129 u130 u131 u132 u133 u134 u135 u136 u137 u138 u139 u140 u141 u142 u143 u144 u145 u146 u147 u148 u149 u150 u151 u152 u153 u154 u155 u156 u157 u158 u159 u160 u161 u162 u163 u164 u165 u166 u167 u168 u169 u170 u171 u172 u173 u174 u175 u176 u177 u178 u179 u180 u181 u182 u183 u184 u185 u186 u187 u188 u189 u190 u191 u192 u193 u194 u195 u196 u197:Value⦄ ⦃W':World⦄ ⦃j':Option Nat⦄ ⦃a' b':Bool⦄,ModAt w W' E V (m+1) j' a' b'→Q .normal ⟨#[.slice (some ⟨bE,oE,none⟩) E.length c,.slice (some ⟨g,og,none⟩) E.length c2,undef,undef,.int .i64 0,.pointer (some ⟨w.heap.size,0,none⟩),.string { data:=#[] },.bool false,I (sumM V (E.take m)),.pointer (some ⟨w.heap.size+1,0,none⟩),.slice (some ⟨w.heap.size+1+1,0,none⟩) E.length E.length,I (zfq j'),I m,u13,u14,u15,.slice (some ⟨bE,oE,none⟩) E.length c,.int .i64 (E.length:Int),.slice (some ⟨w.heap.size+1+1,0,none⟩) E.length E.length,u19,u20,u21,u22,u23,u24,u25,u26,u27,u28,u29,u30,u31,u32,u33,u34,u35,u36,u37,u38,u39,u40,u41,u42,u43,u44,u45,u46,u47,u48,u49,u50,u51,u52,u53,u54,u55,u56,u57,u58,u59,u60,u61,u62,u63,u64,u65,u66,u67,u68,u69,u70,u71,u72,u73,u74,u75,u76,u77,u78,u79,u80,u81,u82,u83,u84,u85,u86,u87,u88,u89,u90,u91,u92,u93,u94,u95,u96,u97,u98,u99,u100,u101,u102,u103,u104,u105,u106,u107,u108,u109,u110,u111,u112,u113,u114,u115,u116,u117,u118,u119,u120,u121,u122,u123,u124,u125,u126,u127,u128,u129,u130,u131,u132,u133,u134,u135,u136,u137,u138,u139,u140,u141,u142,u143,u144,u145,u146,u147,u148,u149,u150,u151,u152,u153,u154,u155,u156,u157,u158,u159,u160,u161,u162,u163,u164,u165,u166,u167,u168,u169,u170,u171,u172,u173,u174,u175,u176,u177,u178,u179,u180,u181,u182,u183,u184,u185,u186,u187,u188,u189,u190,u191,u192,u193,u194,u195,u196,u197,undef,undef,undef,undef,undef,undef,undef,undef,undef,undef,undef],[]⟩ W') :
  (zfl [true,true,true,true,true,false,true,true,true,true,false,true,true,true,true] (Tryz.f50.body.getD .skip)).wp Tryz.prog Q ⟨#[.slice (some ⟨bE,oE,none⟩) E.length c,.slice (some ⟨g,og,none⟩) E.length c2,undef,undef,.int .i64 0,.pointer (some ⟨w.heap.size,0,none⟩),.string { data:=#[] },.bool false,I (sumM V (E.take m)),.pointer (some ⟨w.heap.size+1,0,none⟩),.slice (some ⟨w.heap.size+1+1,0,none⟩) E.length E.length,I (zfq j),I m,u13,u14,u15,.slice (some ⟨bE,oE,none⟩) E.length c,.int .i64 (E.length:Int),.slice (some ⟨w.heap.size+1+1,0,none⟩) E.length E.length,u19,u20,u21,u22,u23,u24,u25,u26,u27,u28,u29,u30,u31,u32,u33,u34,u35,u36,u37,u38,u39,u40,u41,u42,u43,u44,u45,u46,u47,u48,u49,u50,u51,u52,u53,u54,u55,u56,u57,u58,u59,u60,u61,u62,u63,u64,u65,u66,u67,u68,u69,u70,u71,u72,u73,u74,u75,u76,u77,u78,u79,u80,u81,u82,u83,u84,u85,u86,u87,u88,u89,u90,u91,u92,u93,u94,u95,u96,u97,u98,u99,u100,u101,u102,u103,u104,u105,u106,u107,u108,u109,u110,u111,u112,u113,u114,u115,u116,u117,u118,u119,u120,u121,u122,u123,u124,u125,u126,u127,u128,u129,u130,u131,u132,u133,u134,u135,u136,u137,u138,u139,u140,u141,u142,u143,u144,u145,u146,u147,u148,u149,u150,u151,u152,u153,u154,u155,u156,u157,u158,u159,u160,u161,u162,u163,u164,u165,u166,u167,u168,u169,u170,u171,u172,u173,u174,u175,u176,u177,u178,u179,u180,u181,u182,u183,u184,u185,u186,u187,u188,u189,u190,u191,u192,u193,u194,u195,u196,u197,undef,undef,undef,undef,undef,undef,undef,undef,undef,undef,undef],[]⟩ wp:=by
 simp only [Tryz.f50,Option.getD_some,zfl]
 have HH:=zH hH
 have HA:=zH hA
 have HKN:=zH hkn
 have HE:=zH he
 have HM:=zH hM
 have HI:=zH hi
 have HKE:=zH hke
 have HOP:=zH hop
 have HEV:=zH hev
 have HRR:=zH hQ
 have HOK:=zH (hH.ok e (List.mem_of_getElem? he))
 obtain⟨f0,f1,f2,f3,f4⟩:=hev wp hi.ext
 rw [hop] at f2
 clear hH hA hkn he hM hi hke hop hev hQ
 obtain⟨sm,hsm⟩:∃ s,zas E m=s:=⟨_,rfl⟩
 obtain⟨Wd,hWd⟩:∃ W,wp.drew=W:=⟨_,rfl⟩
 have hdr:Ext wp Wd:=by rw [← hWd];exact (Ext.refl _).drew
 have HWD:=zH hWd
 clear hWd
 have HI:=zH (HI.out.on hdr)
 obtain⟨f0,f1,f2,f3,f4⟩:=HEV.out Wd HI.out.ext
 have r1:=HI.out.row.cell (zgv (i:=m) (Nat.lt_succ_self m) hm)
 rw [hsm] at r1
 have HSM:=zH hsm
 clear hsm
 cases j with
 | none =>
  rw [show zfq none = -1 from rfl]
  clear r1 f0 f1 f4
  go_wp2_with fail
  refine wp_region_still_tail 36 (by kernel_rfl) (by kernel_rfl) ?_
  simp only [List.take_succ_cons,List.take_zero,List.drop_succ_cons,List.drop_zero]
  change wpStill _ _ wp.drew (fun a'=>wpList _ _ _ _ a' wp.drew) _ _
  rw [HWD.out]
  generalize hA:Act.mk _ _=A0;repeat (refine wpStill_step (fun K2 hK2=>?_);subst hA;go_simp;(try rw [if_neg (by decide)]);generalize hA:Act.mk _ _=A0;refine hK2 A0 ?_;clear hK2 K2)
  refine wpStill_nil ?_
  subst hA
  go_wp2_with fail
  exact HRR.out (HM.out.write HI.out HE.out HOP.out (zqy HM.out.last HE.out HKE.out HOP.out) (Nat.le_refl m))
 | some jj =>
  rw [show zfq (some jj)=(jj:Int) from rfl]
  have hjm:jj < m:=HM.out.low jj rfl
  obtain⟨f,hf,hf2⟩:=HM.out.last
  obtain⟨b2,o2,v2,hA2,hsk2,hev2⟩:=zlh HA.out (zet hf).1 (zet hf).2
  cases hA2
  obtain⟨k0,k1,k2,k3,k4⟩:=hev2 Wd HI.out.ext
  obtain⟨sj,hsj⟩:∃ s,zas E jj=s:=⟨_,rfl⟩
  have r2:=HI.out.row.cell (zgv (i:=jj) (Nat.lt_succ_of_lt hjm) hm)
  rw [hsj] at r2
  have HLS:=zse HM.out.last HE.out hf HKE.out HOP.out
  rw [HSM.out,hsj] at HLS
  have HLS:=zH HLS
  have hj0:((jj:Int) < 0)=False:=eq_false (by omega)
  have hjE:jj < E.length:=by omega
  clear hf hf2 hev2 hsj k0 k1 k2 k4 f0 f1 f4
  go_wp2_with fail
  by_cases h1:sj < sm
  ·have h1i:(sm:Int) > sj:=by omega
   refine wp_region_still_tail 36 (by kernel_rfl) (by kernel_rfl) ?_
   simp only [List.take_succ_cons,List.take_zero,List.drop_succ_cons,List.drop_zero]
   change wpStill _ _ wp.drew (fun a'=>wpList _ _ _ _ a' wp.drew) _ _
   rw [HWD.out]
   generalize hA:Act.mk _ _=A0;repeat (refine wpStill_step (fun K2 hK2=>?_);subst hA;go_simp;(try rw [if_neg (by decide)]);generalize hA:Act.mk _ _=A0;refine hK2 A0 ?_;clear hK2 K2)
   refine wpStill_nil ?_
   subst hA
   go_wp2_with fail
   exact HRR.out (HM.out.write HI.out HE.out HOP.out (by have h:=HLS.out;rw [if_pos (.inl h1)] at h;exact h) (Nat.le_refl m))
  ·have h1i:decide ((sj:Int) < sm)=false:=by simp;omega
   by_cases h2:sj=sm
   ·have h2i:((sm:Int) == sj)=true:=by simp [h2]
    rcases zei f.tx e.tx with ⟨h3,h4,h5,h6,-⟩ | h3 | ⟨h3,h4,h5,h6,-⟩
    ·skip
     refine wp_region_still_tail 36 (by kernel_rfl) (by kernel_rfl) ?_
     simp only [List.take_succ_cons,List.take_zero,List.drop_succ_cons,List.drop_zero]
     change wpStill _ _ wp.drew (fun a'=>wpList _ _ _ _ a' wp.drew) _ _
     rw [HWD.out]
     generalize hA:Act.mk _ _=A0;repeat (refine wpStill_step (fun K2 hK2=>?_);subst hA;go_simp;(try rw [if_neg (by decide)]);generalize hA:Act.mk _ _=A0;refine hK2 A0 ?_;clear hK2 K2)
     refine wpStill_nil ?_
     subst hA
     go_wp2_with fail
     exact HRR.out (HM.out.write HI.out HE.out HOP.out (by have h:=HLS.out;rw [if_pos (.inr ⟨h2,h3⟩)] at h;exact h) (Nat.le_refl m))
    ·have h4:=zam e.tx
     rw [h3] at k3 HLS
     refine wp_region_still_tail 36 (by kernel_rfl) (by kernel_rfl) ?_
     simp only [List.take_succ_cons,List.take_zero,List.drop_succ_cons,List.drop_zero]
     change wpStill _ _ wp.drew (fun a'=>wpList _ _ _ _ a' wp.drew) _ _
     rw [HWD.out]
     generalize hA:Act.mk _ _=A0;repeat (refine wpStill_step (fun K2 hK2=>?_);subst hA;go_simp;(try rw [if_neg (by decide)]);generalize hA:Act.mk _ _=A0;refine hK2 A0 ?_;clear hK2 K2)
     refine wpStill_nil ?_
     subst hA
     go_wp2_with fail
     exact HRR.out (HM.out.write HI.out HE.out HOP.out (by have h:=HLS.out;rw [if_neg (fun h=>h.elim h1 fun h=>by rw [h4] at h;cases h.2)] at h;exact h) (Nat.le_of_lt hjm))
    ·skip
     refine wp_region_still_tail 36 (by kernel_rfl) (by kernel_rfl) ?_
     simp only [List.take_succ_cons,List.take_zero,List.drop_succ_cons,List.drop_zero]
     change wpStill _ _ wp.drew (fun a'=>wpList _ _ _ _ a' wp.drew) _ _
     rw [HWD.out]
     generalize hA:Act.mk _ _=A0;repeat (refine wpStill_step (fun K2 hK2=>?_);subst hA;go_simp;(try rw [if_neg (by decide)]);generalize hA:Act.mk _ _=A0;refine hK2 A0 ?_;clear hK2 K2)
     refine wpStill_nil ?_
     subst hA
     go_wp2_with fail
     exact HRR.out (HM.out.write HI.out HE.out HOP.out (by have h:=HLS.out;rw [if_neg (fun h=>h.elim h1 fun h=>by rw [h3] at h;cases h.2)] at h;exact h) (Nat.le_of_lt hjm))
   ·have h2i:((sm:Int) == sj)=false:=by rw [beq_eq_false_iff_ne];omega
    refine wp_region_still_tail 36 (by kernel_rfl) (by kernel_rfl) ?_
    simp only [List.take_succ_cons,List.take_zero,List.drop_succ_cons,List.drop_zero]
    change wpStill _ _ wp.drew (fun a'=>wpList _ _ _ _ a' wp.drew) _ _
    rw [HWD.out]
    generalize hA:Act.mk _ _=A0;repeat (refine wpStill_step (fun K2 hK2=>?_);subst hA;go_simp;(try rw [if_neg (by decide)]);generalize hA:Act.mk _ _=A0;refine hK2 A0 ?_;clear hK2 K2)
    refine wpStill_nil ?_
    subst hA
    go_wp2_with fail
    exact HRR.out (HM.out.write HI.out HE.out HOP.out (by have h:=HLS.out;rw [if_neg (fun h=>h.elim h1 fun h=>h2 h.1)] at h;exact h) (Nat.le_of_lt hjm))
end
end Go.Proofs.YtdikcgmdmcfpfaaGreat
