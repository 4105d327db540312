/- gossamerlaw16.model: the walk. Printed by gen_model.py. -/
import Derived.Test.YtdikcgmdmcfpfaaGreatMo37
import Derived.Test.YtdikcgmdmcfpfaaGreatMo38
set_option linter.unusedVariables false
set_option linter.unusedSimpArgs false
set_option maxRecDepth 100000
set_option maxHeartbeats 40000000
namespace Go.Proofs.YtdikcgmdmcfpfaaGreat
section
open Go.RowKit Go.Shelf
attribute [local go_sem] zpk zpl
theorem zw7 {E:List Ev} {V:Vec} {va vk:Value} {S S':Nat→Prop} {w:World} (hH:HistOk E) (ha:Sl evT w S va E) (hk:Sl boolT w S' vk (E.map (zaf V))) :
  Calls Tryz.prog 50 #[va,vk] w fun r w'=>∃ a b tx is,r=.returned (.tuple #[I (sumM V E),.agg #[.bool a,.bool b],St tx,.bool is])∧(a=true↔zfp E V [97])∧(b=true↔zfp E V [98])∧(∃ j,zeh E V E.length j∧(tx,is)=zld E j)∧Ext w w':=by
 obtain⟨A,c,rfl,-,-⟩:=ha.form
 obtain⟨B,c2,rfl,-,-⟩:=hk.form
 have hml:E.length≤200:=hH.most
 have HH:=zH hH
 have HA:=zH ha
 have HKN:=zH hk
 have hmk:=run_make_row' (P:=Tryz.prog) 168 3 (I 0) 8 Tryz.underlying168 (by kernel_rfl) rfl .i64 .i64 E.length (by omega) (by omega)
 clear hH ha hk
 rw [List.length_map] at HKN
 go_enter Tryz.func50,Tryz.ntmps50
 simp only [List.length_map]
 have hx0:Ext w (((w.alloc (.cells #[.bool false,.bool false] 108)).alloc (.cells #[.bool false,.bool false] 108)).alloc (.cells (madeCells #[I 0] E.length) 3)):=(((Ext.refl w).alloc _).alloc _).alloc _
 have hz2:(w.alloc (.cells #[.bool false,.bool false] 108)).heap.size=w.heap.size+1:=by simp
 have hz3:((w.alloc (.cells #[.bool false,.bool false] 108)).alloc (.cells #[.bool false,.bool false] 108)).heap.size=w.heap.size+1+1:=by simp
 have HM0:Hid (ModAt w (((w.alloc (.cells #[.bool false,.bool false] 108)).alloc (.cells #[.bool false,.bool false] 108)).alloc (.cells (madeCells #[I 0] E.length) 3)) E V 0 none false false):=zH ⟨zsd E V,fun i h=>(by cases h),by rw [zwx,← hz3];exact zy7 _ _ _ _,by rw [← hz2];exact (zah _ _ [.bool false,.bool false]).alloc _,((zah w _ [.bool false,.bool false]).alloc _).alloc _,⟨fun h=>(by cases h),fun h=>absurd h (zl3 E V _)⟩,⟨fun h=>(by cases h),fun h=>absurd h (zl3 E V _)⟩,hx0⟩
 clear hx0 hz2 hz3
 go_wp2_with fail
 clear hmk
 go_loopw [8,11,12] (fun s q i wr=>∃ (m:Nat) (j:Option Nat) (a b:Bool),i=I m∧m≤E.length∧s=I (sumM V (E.take m))∧q=I (zfq j)∧ModAt w wr E V m j a b) (fun _ _ i _=>E.length - (intOf i).toNat)
 case atStart=>exact⟨0,none,false,false,rfl,Nat.zero_le _,rfl,rfl,HM0.out⟩
 case round =>
  obtain⟨m,j,a,b,rfl,hmn,rfl,rfl,hM⟩:=hrel
  have HM:=zH hM
  clear hM HM0
  by_cases hm:m < E.length
  ·obtain⟨e,he⟩:∃ e,E[m]? = some e:=⟨_,List.getElem?_eq_getElem hm⟩
   have HE:=zH he
   have HOK:=zH (HH.out.ok e (List.mem_of_getElem? he))
   have HKL:=zH (HH.out.len m e he)
   have HKV:Hid ((E.map (zaf V))[m]? = some (zaf V e)):=zH (by rw [List.getElem?_map,he];rfl)
   obtain⟨bE,oE,vE,rfl,hsk,hev⟩:=zlh HA.out (zet he).1 (zet he).2
   obtain⟨G,cG,rfl,-,-⟩:=hsk.form
   have HSK:=zH hsk
   have HEV:=zH hev
   clear he hsk hev
   refine wp_seq_k ?_
   intro K hK
   have HK:=zH hK
   clear hK
   go_wp2_with fail
   refine HK.out _ _ ?_
   clear HK K
   refine wp_seq_k ?_
   intro KR hKR
   have RESTR:∀ ⦃u13 u14 u15 u19 u20 u21 u22 u23 u24 u25 u26 u27 u28 u29 u30 u31 u32 u33 u34 u35 u36 u37 u38 u39 u40 u41 u42 u43 u44 u45 u46 u47 u48 u49 u50 u51 u52 u53 u54 u55 u56 u57 u58 u59 u60 u61 u62 u63 u64 u65 u66 u67 u68 u69 u70 u71 u72 u73 u74 u75 u76 u77 u78 u79 u80 u81 u82 u83 u84 u85 u86 u87 u88 u89 u90 u91 u92 u93 u94 u95 u96 u97 u98 u99 u100 u101 u102 u103 u104 u105 u106 u107 u108 u109 u110 u111 u112 u113 u114 u115 u116 u117 u118 u119 u120 u121 u122 u123 u124 u125 u126 u127 u128 u129 u130 u131 u132 u133 u134 u135 u136 u137 u138 u139 u140 u141 u142 u143 u144 u145 u146 u147 u148 u149 u150 u151 u152 u153 u154 u155 u156 u157 u158 u159 u160 u161 u162 u163 u164 u165 u166 u167 u168 u169 u170 u171 u172 u173 u174 u175 u176 u177 u178 u179 u180 u181 u182 u183 u184 u185 u186 u187 u188 u189 u190 u191 u192 u193 u194 u195 u196 u197:Value⦄ ⦃W':World⦄ ⦃j':Option Nat⦄ ⦃a' b':Bool⦄,ModAt w W' E V (m+1) j' a' b'→KR ⟨#[.slice (some ⟨bE,oE,none⟩) E.length c,.slice B E.length c2,undef,undef,.int .i64 0,.pointer (some ⟨w.heap.size,0,none⟩),.string { data:=#[] },.bool false,I (sumM V (E.take (m+1))),.pointer (some ⟨w.heap.size+1,0,none⟩),.slice (some ⟨w.heap.size+1+1,0,none⟩) E.length E.length,I (zfq j'),I m,u13,u14,u15,.slice (some ⟨bE,oE,none⟩) E.length c,.int .i64 (E.length:Int),.slice (some ⟨w.heap.size+1+1,0,none⟩) E.length E.length,u19,u20,u21,u22,u23,u24,u25,u26,u27,u28,u29,u30,u31,u32,u33,u34,u35,u36,u37,u38,u39,u40,u41,u42,u43,u44,u45,u46,u47,u48,u49,u50,u51,u52,u53,u54,u55,u56,u57,u58,u59,u60,u61,u62,u63,u64,u65,u66,u67,u68,u69,u70,u71,u72,u73,u74,u75,u76,u77,u78,u79,u80,u81,u82,u83,u84,u85,u86,u87,u88,u89,u90,u91,u92,u93,u94,u95,u96,u97,u98,u99,u100,u101,u102,u103,u104,u105,u106,u107,u108,u109,u110,u111,u112,u113,u114,u115,u116,u117,u118,u119,u120,u121,u122,u123,u124,u125,u126,u127,u128,u129,u130,u131,u132,u133,u134,u135,u136,u137,u138,u139,u140,u141,u142,u143,u144,u145,u146,u147,u148,u149,u150,u151,u152,u153,u154,u155,u156,u157,u158,u159,u160,u161,u162,u163,u164,u165,u166,u167,u168,u169,u170,u171,u172,u173,u174,u175,u176,u177,u178,u179,u180,u181,u182,u183,u184,u185,u186,u187,u188,u189,u190,u191,u192,u193,u194,u195,u196,u197,undef,undef,undef,undef,undef,undef,undef,undef,undef,undef,undef],[]⟩ W':=by
    intro u13 u14 u15 u19 u20 u21 u22 u23 u24 u25 u26 u27 u28 u29 u30 u31 u32 u33 u34 u35 u36 u37 u38 u39 u40 u41 u42 u43 u44 u45 u46 u47 u48 u49 u50 u51 u52 u53 u54 u55 u56 u57 u58 u59 u60 u61 u62 u63 u64 u65 u66 u67 u68 u69 u70 u71 u72 u73 u74 u75 u76 u77 u78 u79 u80 u81 u82 u83 u84 u85 u86 u87 u88 u89 u90 u91 u92 u93 u94 u95 u96 u97 u98 u99 u100 u101 u102 u103 u104 u105 u106 u107 u108 u109 u110 u111 u112 u113 u114 u115 u116 u117 u118 u119 u120 u121 u122 u123 u124 u125 u126 u127 u128 u129 u130 u131 u132 u133 u134 u135 u136 u137 u138 u139 u140 u141 u142 u143 u144 u145 u146 u147 u148 u149 u150 u151 u152 u153 u154 u155 u156 u157 u158 u159 u160 u161 u162 u163 u164 u165 u166 u167 u168 u169 u170 u171 u172 u173 u174 u175 u176 u177 u178 u179 u180 u181 u182 u183 u184 u185 u186 u187 u188 u189 u190 u191 u192 u193 u194 u195 u196 u197 W' j' a' b' h
    have HM2:=zH h
    clear h
    refine hKR _ _ ?_
    clear hKR KR
    go_wp2_with fail
    go_roundw
    case rel=>exact⟨m+1,j',a',b',by simp,hm,rfl,rfl,HM2.out⟩
    case measure=>simp [intOf];omega
   have HRR:=zH RESTR
   clear RESTR hKR
   refine wp_block ?_
   refine wp_seq_k ?_
   intro K1 hK1
   have REST1:∀ ⦃u13 u25 u26 u27 u28 u29 u30 u31 u32 u33 u34 u35 u36 u37 u38 u39 u40 u41 u42 u43 u44 u45 u46 u47 u48 u49 u50 u51 u52 u53 u54 u55 u56 u57:Value⦄ ⦃wq:World⦄,ModIn w wq (rowK E m (if e.op=4 then topK E e m else 0)) a b→K1 ⟨#[.slice (some ⟨bE,oE,none⟩) E.length c,.slice B E.length c2,undef,undef,.int .i64 0,.pointer (some ⟨w.heap.size,0,none⟩),.string { data:=#[] },.bool false,I (sumM V (E.take m)),.pointer (some ⟨w.heap.size+1,0,none⟩),.slice (some ⟨w.heap.size+1+1,0,none⟩) E.length E.length,I (zfq j),I m,u13,u14,u15,.slice (some ⟨bE,oE,none⟩) E.length c,.int .i64 (E.length:Int),.slice (some ⟨w.heap.size+1+1,0,none⟩) E.length E.length,I m,.slice (some ⟨bE,oE,none⟩) E.length c,.int .i64 (E.length:Int),.bool true,u23,u24,u25,u26,u27,u28,u29,u30,u31,u32,u33,u34,u35,u36,u37,u38,u39,u40,u41,u42,u43,u44,u45,u46,u47,u48,u49,u50,u51,u52,u53,u54,u55,u56,u57,u58,u59,u60,u61,u62,u63,u64,u65,u66,u67,u68,u69,u70,u71,u72,u73,u74,u75,u76,u77,u78,u79,u80,u81,u82,u83,u84,u85,u86,u87,u88,u89,u90,u91,u92,u93,u94,u95,u96,u97,u98,u99,u100,u101,u102,u103,u104,u105,u106,u107,u108,u109,u110,u111,u112,u113,u114,u115,u116,u117,u118,u119,u120,u121,u122,u123,u124,u125,u126,u127,u128,u129,u130,u131,u132,u133,u134,u135,u136,u137,u138,u139,u140,u141,u142,u143,u144,u145,u146,u147,u148,u149,u150,u151,u152,u153,u154,u155,u156,u157,u158,u159,u160,u161,u162,u163,u164,u165,u166,u167,u168,u169,u170,u171,u172,u173,u174,u175,u176,u177,u178,u179,u180,u181,u182,u183,u184,u185,u186,u187,u188,u189,u190,u191,u192,u193,u194,u195,u196,u197,undef,undef,undef,undef,undef,undef,undef,undef,undef,undef,undef],[]⟩ wq:=by
    intro u13 u25 u26 u27 u28 u29 u30 u31 u32 u33 u34 u35 u36 u37 u38 u39 u40 u41 u42 u43 u44 u45 u46 u47 u48 u49 u50 u51 u52 u53 u54 u55 u56 u57 wq h
    have HI:=zH h
    clear h
    refine hK1 _ _ ?_
    clear hK1 K1
    refine wp_seq_k ?_
    intro K2 hK2
    have REST2:∀ ⦃u58 u59 u60 u61 u62 u63 u64 u65 u66 u67 u68 u69:Value⦄ ⦃wp:World⦄,ModIn w wp (rowM E (m+1)) a b→K2 ⟨#[.slice (some ⟨bE,oE,none⟩) E.length c,.slice B E.length c2,undef,undef,.int .i64 0,.pointer (some ⟨w.heap.size,0,none⟩),.string { data:=#[] },.bool false,I (sumM V (E.take m)),.pointer (some ⟨w.heap.size+1,0,none⟩),.slice (some ⟨w.heap.size+1+1,0,none⟩) E.length E.length,I (zfq j),I m,u13,u14,u15,.slice (some ⟨bE,oE,none⟩) E.length c,.int .i64 (E.length:Int),.slice (some ⟨w.heap.size+1+1,0,none⟩) E.length E.length,I m,.slice (some ⟨bE,oE,none⟩) E.length c,.int .i64 (E.length:Int),.bool true,u23,u24,u25,u26,u27,u28,u29,u30,u31,u32,u33,u34,u35,u36,u37,u38,u39,u40,u41,u42,u43,u44,u45,u46,u47,u48,u49,u50,u51,u52,u53,u54,u55,u56,u57,u58,u59,u60,u61,u62,u63,u64,u65,u66,u67,u68,u69,u70,u71,u72,u73,u74,u75,u76,u77,u78,u79,u80,u81,u82,u83,u84,u85,u86,u87,u88,u89,u90,u91,u92,u93,u94,u95,u96,u97,u98,u99,u100,u101,u102,u103,u104,u105,u106,u107,u108,u109,u110,u111,u112,u113,u114,u115,u116,u117,u118,u119,u120,u121,u122,u123,u124,u125,u126,u127,u128,u129,u130,u131,u132,u133,u134,u135,u136,u137,u138,u139,u140,u141,u142,u143,u144,u145,u146,u147,u148,u149,u150,u151,u152,u153,u154,u155,u156,u157,u158,u159,u160,u161,u162,u163,u164,u165,u166,u167,u168,u169,u170,u171,u172,u173,u174,u175,u176,u177,u178,u179,u180,u181,u182,u183,u184,u185,u186,u187,u188,u189,u190,u191,u192,u193,u194,u195,u196,u197,undef,undef,undef,undef,undef,undef,undef,undef,undef,undef,undef],[]⟩ wp:=by
     intro u58 u59 u60 u61 u62 u63 u64 u65 u66 u67 u68 u69 wp h
     have HI:=zH h
     clear h
     refine hK2 _ _ ?_
     clear hK2 K2
     obtain⟨f0,f1,f2,f3,f4⟩:=HEV.out wp HI.out.ext
     obtain⟨g,og,rfl,hkc⟩:=zli HKN.out HI.out.ext HKV.out
     obtain⟨kn,hkn⟩:∃ k,zaf V e=k:=⟨_,rfl⟩
     rw [hkn] at hkc
     have hkf:=hkn
     have HKE:=zH hkn
     clear hkn
     refine wp_seq_k ?_
     intro K hK
     have HK:=zH hK
     clear hK
     cases kn with
     | false =>
      have HRR2:=HRR.out
      rw [zj1 HE.out (by simp [HKE.out])] at HRR2
      have HRR:=zH HRR2
      clear HRR2 hkf
      go_wp2_with fail
      exact HRR.out (HM.out.keep HI.out HE.out (by simp [HKE.out]) (by simp [HKE.out]))
     | true =>
      clear hkf
      go_wp2_with fail
      refine HK.out _ _ ?_
      clear HK K
      rcases HOK.out.kind with ⟨hky,hop⟩ | ⟨hky,hop | hop⟩ | ⟨hky,hop⟩
      ·rw [hop] at f2
       have HOP:=zH hop
       have sb:=zt7 HH.out V m
       have s1:=HOK.out.lo
       have s2:=HOK.out.hi
       have HRR2:=HRR.out
       rw [yad HE.out ⟨HKE.out,hop⟩] at HRR2
       have HRR:=zH HRR2
       clear HRR2 hop hky
       obtain⟨s,hs⟩:∃ s,sumM V (E.take m)=s:=⟨_,rfl⟩
       rw [hs] at HRR sb ⊢
       clear hs
       obtain⟨sb1,sb2⟩:=sb
       go_wp2_with fail
       exact HRR.out (HM.out.keep HI.out HE.out (by rw [HOP.out];simp) (by rw [HOP.out];simp))
      ·rw [hop] at f2
       have HOP:=zH hop
       have HRR2:=HRR.out
       rw [zj1 HE.out (by rw [hop];simp)] at HRR2
       have HRR:=zH HRR2
       clear HRR2 hop
       exact zw6 hml HH.out HA.out HKN.out HE.out hm HM.out HI.out HKE.out HOP.out HEV.out (by intros;rename_i h;exact HRR.out h)
      ·rw [hop] at f2
       have HOP:=zH hop
       have HRR2:=HRR.out
       rw [zj1 HE.out (by rw [hop];simp)] at HRR2
       have HRR:=zH HRR2
       clear HRR2 hop hky
       go_wp2_with fail
       exact HRR.out (HM.out.keep HI.out HE.out (by rw [HOP.out];simp) (by rw [HOP.out];simp))
      ·rw [hop] at f2
       have HOP:=zH hop
       have HRR2:=HRR.out
       rw [zj1 HE.out (by rw [hop];simp)] at HRR2
       have HRR:=zH HRR2
       clear HRR2 hop hky
       exact zsh hml HH.out HA.out HKN.out HE.out hm HM.out HI.out HKE.out HOP.out HEV.out (by intros;rename_i h;exact HRR.out h)
    have HR2:=zH REST2
    clear REST2 hK2
    obtain⟨f0,f1,f2,f3,f4⟩:=HEV.out wq HI.out.ext
    by_cases ho:e.op=4
    ·have ho2:((e.op:Int) == 4)=true:=by simp [ho]
     rw [if_pos ho] at HI
     have HST:=zH (zy1 HE.out HKL.out ho)
     obtain⟨t,ht⟩:∃ t,topK E e m=t:=⟨_,rfl⟩
     rw [ht] at HI HST
     clear ht
     have htb:(t:Int)≤200:=by have h1:=zjx E m;rw [HST.out] at h1;omega
     have c1:=HI.out.row.cell (zq0 (t:=t) hm)
     have c2:=HI.out.row.frozen m
     go_wp2_with fail
     exact HR2.out (by have h:=HI.out.set (m:=m) (by rw [zqz E (Nat.le_of_lt hm)];exact hm) (iI (t+1));rw [zq1,← HST.out,zo2 hm,HST.out] at h;exact h)
    ·have ho2:((e.op:Int) == 4)=false:=by rw [beq_eq_false_iff_ne];omega
     rw [if_neg ho] at HI
     go_wp2_with fail
     exact HR2.out (by have h:=HI.out;rw [← zt9 HE.out ho,zo2 hm] at h;exact h)
   have HR1:=zH REST1
   clear REST1 hK1
   go_wp2_with fail
   obtain⟨wo,hwo⟩:∃ wo:World,wo=wr:=⟨_,rfl⟩
   subst hwo
   go_loopw [13] (fun k wq=>∃ kk:Nat,k=I kk∧kk≤m∧(e.op ≠ 4→kk=0)∧ModIn w wq (rowK E m (topK E e kk)) a b) (fun k _=>m - (intOf k).toNat)
   case atStart=>exact⟨0,rfl,Nat.zero_le _,fun _=>rfl,by rw [zo3,zwy hm];exact HM.out.row,HM.out.box,HM.out.res,HM.out.ext⟩
   case round =>
    obtain⟨kk,rfl,hkk,hk0,hi⟩:=hrel
    have HI:=zH hi
    have HK0:=zH hk0
    clear hi hk0
    obtain⟨f0,f1,f2,f3,f4⟩:=HEV.out wr HI.out.ext
    rw [HKL.out] at f4
    by_cases hc:kk < m
    ·by_cases ho:e.op=4
     ·have ho2:((e.op:Int) == 4)=true:=by simp [ho]
      obtain⟨x,hxk⟩:∃ x,e.kn[kk]? = some x:=⟨_,List.getElem?_eq_getElem (by rw [HKL.out];exact hc)⟩
      obtain⟨G2,o2,hG,fb⟩:=zli HSK.out HI.out.ext hxk
      subst hG
      have HTS:=zH (zwz (E:=E) (e:=e) (by omega) hxk)
      obtain⟨u,hu⟩:∃ u,topK E e kk=u:=⟨_,rfl⟩
      obtain⟨v,hv⟩:∃ v,zas E kk=v:=⟨_,rfl⟩
      rw [hu] at HTS HI
      rw [hv] at HTS
      have hkE:kk < E.length:=Nat.lt_trans hc hm
      have hmx:max (u:Int) (v:Int)=((max u v:Nat):Int):=by omega
      obtain⟨Wd,hWd⟩:∃ W,wr.drew=W:=⟨_,rfl⟩
      have hdr:Ext wr Wd:=by rw [← hWd];exact (Ext.refl _).drew
      have HWD:=zH hWd
      clear hWd
      have HID:=zH (HI.out.on hdr)
      have da:=HID.out.row.cell (zq0 (t:=u) hm)
      have dk:=HID.out.row.cell (zy0 (t:=u) hc (Nat.le_of_lt hm))
      rw [hv] at dk
      have dz:=HID.out.row.frozen m
      clear hdr hu hv hxk
      cases x with
      | true =>
       go_wp2_with fail
       refine wp_region_still_tail 12 (by kernel_rfl) (by kernel_rfl) ?_
       simp only [List.take_succ_cons,List.take_zero,List.drop_succ_cons,List.drop_zero]
       change wpStill _ _ wr.drew (fun a'=>wpList _ _ _ _ a' wr.drew) _ _
       rw [HWD.out]
       generalize hA:Act.mk _ _=A0;repeat (refine wpStill_step (fun K2 hK2=>?_);subst hA;go_simp;(try rw [if_neg (by decide)]);generalize hA:Act.mk _ _=A0;refine hK2 A0 ?_;clear hK2 K2)
       refine wpStill_nil ?_
       subst hA
       go_wp2_with fail
       go_roundw
       case rel=>exact⟨kk+1,by simp,hc,fun h=>absurd ho h,by have h:=HID.out.set (m:=m) (by rw [zqz E (Nat.le_of_lt hm)];exact hm) (iI (max u v));rw [zq1] at h;rw [HTS.out];exact h⟩
       case measure=>simp [intOf];omega
      | false =>
       go_wp2_with fail
       go_roundw
       case rel=>exact⟨kk+1,by simp,hc,fun h=>absurd ho h,by have h:=HI.out;rw [HTS.out];simpa using h⟩
       case measure=>simp [intOf];omega
     ·have ho2:((e.op:Int) == 4)=false:=by rw [beq_eq_false_iff_ne];omega
      go_wp2_with fail
      exact HR1.out (by have h:=HI.out;rw [HK0.out ho,zo3] at h;rw [if_neg ho];exact h)
    ·obtain rfl:kk=m:=by omega
     go_wp2_with fail
     refine HR1.out ?_
     by_cases ho:e.op=4
     ·rw [if_pos ho];exact HI.out
     ·have h:=HI.out;rw [show topK E e kk=0 by rw [HK0.out ho];rfl] at h;rw [if_neg ho];exact h
  ·obtain rfl:m=E.length:=by omega
   have HP:=zH (show (a=true↔zfp E V [97])∧(b=true↔zfp E V [98]) from ⟨HM.out.ha.trans (zm9 E V _),HM.out.hb.trans (zm9 E V _)⟩)
   have HL:=zH HM.out.last
   have HX:=zH HM.out.ext
   simp only [List.take_length]
   have HRES:=zH HM.out.res
   have HBOX:=zH HM.out.box
   cases j with
   | none =>
    rw [show zfq none = -1 from rfl]
    obtain⟨Wd,hWd⟩:∃ W,wr.drew=W:=⟨_,rfl⟩
    have hdr:Ext wr Wd:=by rw [← hWd];exact (Ext.refl _).drew
    have HWD:=zH hWd
    clear hWd
    have b0:=(HBOX.out.ext hdr).cell (j:=0) rfl
    have b1:=(HBOX.out.ext hdr).cell (j:=1) rfl
    have r0:=(HRES.out.ext hdr).cell (j:=0) rfl
    have r1:=(HRES.out.ext hdr).cell (j:=1) rfl
    have z0:=(HRES.out.ext hdr).frozen 0
    have z1:=(HRES.out.ext hdr).frozen 1
    have HX:=zH (HX.out.trans hdr)
    clear hdr
    go_wp2_with fail
    refine wp_region_still_tail 3 (by kernel_rfl) (by kernel_rfl) ?_
    simp only [List.take_succ_cons,List.take_zero,List.drop_succ_cons,List.drop_zero]
    change wpStill _ _ wr.drew (fun a'=>wpList _ _ _ _ a' wr.drew) _ _
    rw [HWD.out]
    generalize hA:Act.mk _ _=A0;repeat (refine wpStill_step (fun K2 hK2=>?_);subst hA;go_simp;(try rw [if_neg (by decide)]);generalize hA:Act.mk _ _=A0;refine hK2 A0 ?_;clear hK2 K2)
    refine wpStill_nil ?_
    subst hA
    go_wp2_with fail
    (try simp only [Exit.inBlock,Exit.then])
    refine bodyPost_ret (v:=.tuple #[I (sumM V E),.agg #[.bool a,.bool b],St [],.bool false]) (by simp [results,Tryz.f50,go_sem,r0,r1]) rfl ?_
    exact⟨a,b,[],false,rfl,HP.out.1,HP.out.2,⟨none,HL.out,rfl⟩,(HX.out.set (p:=⟨w.heap.size,0,none⟩) (Nat.le_refl _) _).set (p:=⟨w.heap.size,1,none⟩) (Nat.le_refl _) _⟩
   | some jj =>
    rw [show zfq (some jj)=(jj:Int) from rfl]
    obtain⟨f,hf,hf2⟩:=HL.out
    have hjE:jj < E.length:=(List.getElem?_eq_some_iff.1 hf).1
    obtain⟨b2,o2,v2,rfl,-,hev2⟩:=zlh HA.out (zet hf).1 (zet hf).2
    have HEV2:=zH hev2
    have HFJ:=zH hf
    have HMI:Hid (ModIn w wr (rowM E E.length) a b):=zH ⟨HM.out.row,HBOX.out,HRES.out,HX.out⟩
    have hj0:((jj:Int) < 0)=False:=eq_false (by omega)
    clear hf hf2 hev2 HM
    go_wp2_with fail
    refine zep [.late (fun v _=>v=I (sumM V E)),.early (fun v _=>v=.agg #[.bool a,.bool b]),.late (fun v _=>v=.slice (some ⟨b2,o2,none⟩) E.length c),.late (fun v _=>v=I jj),.late (fun v _=>v=.pointer (some ⟨b2,o2+jj * 5,none⟩)),.late (fun v _=>v=.pointer (some ⟨b2,o2+jj * 5+3,none⟩)),.late (fun v _=>v=St f.tx),.late (fun v _=>v=I (sumM V E)),.store] 8 (fun W=>ModIn w W (rowM E E.length) a b) (fun W=>RowIs W w.heap.size 108 [.bool a,.bool b] []∧Ext w W) (fun _ _=>True) rfl (by kernel_rfl) (by kernel_rfl) ?hR ?hJ ?hstep ?hend
    case hR =>
     simp only [List.mem_cons,List.not_mem_nil,or_false,forall_eq_or_imp,forall_eq,HF.fact]
     exact⟨kP,kP,kP,kP,kP,kP,kP,kP,fun v _ _ _ _=>trivial⟩
    case hJ=>exact HMI.out.on (Ext.refl wr).drew
    case hstep =>
     simp only [List.length_cons,List.length_nil,Nat.reduceAdd,List.take_succ_cons,List.take_zero,zc5,and_true]
     refine ⟨?_,?_,?_,?_,?_,?_,?_,?_,?_⟩
     ·intro x W bb hj f
      have h:x 8=I (sumM V E):=f.1
      go_wp
      exact zae rfl hj
     ·intro x W hj f
      have h:x 9=.pointer (some ⟨w.heap.size+1,0,none⟩):=f.1
      have b0:=hj.box.cell (j:=0) rfl
      have b1:=hj.box.cell (j:=1) rfl
      go_wp
      exact zae rfl hj
     ·intro x W bb hj f
      have h:x 0=.slice (some ⟨b2,o2,none⟩) E.length c:=f.1
      go_wp
      exact zae rfl hj
     ·intro x W bb hj f
      have h:x 11=I jj:=f.1
      go_wp
      exact zae rfl hj
     ·intro x W bb hj f
      have h:x 204=.slice (some ⟨b2,o2,none⟩) E.length c:=f.1
      have h2:x 205=I jj:=f.2.1
      go_wp
      exact zae rfl hj
     ·intro x W bb hj f
      have h:x 206=.pointer (some ⟨b2,o2+jj * 5,none⟩):=f.1
      go_wp
      exact zae rfl hj
     ·intro x W bb hj f
      have h:x 207=.pointer (some ⟨b2,o2+jj * 5+3,none⟩):=f.1
      have hx:Ext w W:=by cases bb;exact hj.ext;exact hj.2
      obtain⟨-,-,-,k3,-⟩:=HEV2.out W hx
      go_wp
      exact zae rfl hj
     ·intro x W bb hj f
      have h:x 202=I (sumM V E):=f.1
      go_wp
      exact zae rfl hj
     ·intro x W hj f
      have h:x 5=.pointer (some ⟨w.heap.size,0,none⟩):=f.1
      have h2:x 203=.agg #[.bool a,.bool b]:=f.2.1
      have r0:=hj.res.cell (j:=0) rfl
      have r1:=hj.res.cell (j:=1) rfl
      have z0:=hj.res.frozen 0
      have z1:=hj.res.frozen 1
      go_wp
      exact zae (v:=undef) trivial ⟨(hj.res.set (j:=0) (by simp) (.bool a)).set (j:=1) (by simp) (.bool b),(hj.ext.set (p:=⟨w.heap.size,0,none⟩) (Nat.le_refl _) _).set (p:=⟨w.heap.size,1,none⟩) (Nat.le_refl _) _⟩
    case hend =>
     intro x W hj fs
     have h4:x 4=I (sumM V E):=fs.2.2.2.2.2.2.2.1
     have h208:x 208=St f.tx:=fs.2.2.2.2.2.2.1
     obtain⟨hr,hx⟩:=hj
     have r0:=hr.cell (j:=0) rfl
     have r1:=hr.cell (j:=1) rfl
     clear fs
     simp only [List.length_cons,List.length_nil,Nat.reduceAdd,List.take_succ_cons,List.take_zero,List.filterMap_cons,List.filterMap_nil,List.drop_succ_cons,List.drop_zero,zay,Act.put,List.setIfInBounds_toArray,List.set_cons_succ,List.set_cons_zero,h4,h208]
     go_wp
     go_wp2_with fail
     (try simp only [Exit.inBlock,Exit.then])
     refine bodyPost_ret (v:=.tuple #[I (sumM V E),.agg #[.bool a,.bool b],St f.tx,.bool true]) (by simp [results,Tryz.f50,go_sem,r0,r1]) rfl ?_
     exact⟨a,b,f.tx,true,rfl,HP.out.1,HP.out.2,⟨some jj,HL.out,by simp [zld,HFJ.out]⟩,hx⟩
end
end Go.Proofs.YtdikcgmdmcfpfaaGreat
