/- Laws. -/
import Derived.Test.YtblkikjmocnllaaGreatDoorQz10
import Derived.Test.YtblkikjmocnllaaGreatDoorQz12
import Derived.Test.YtblkikjmocnllaaGreatDoorQz11
set_option linter.unusedVariables false
set_option linter.unusedSimpArgs false
set_option maxRecDepth 100000
set_option maxHeartbeats 40000000
namespace Go.Proofs.YtblkikjmocnllaaGreatDoor
section
open Go.RowKit Go.Shelf
theorem cmpI_nat (a b:Nat):cmpI (a:Int) (b:Int)=if a < b then -1 else if b < a then 1 else 0:=by
 unfold cmpI
 by_cases h:a < b
 ·rw [if_pos h,if_pos (by omega)]
 ·rw [if_neg h,if_neg (by omega)]
  by_cases h2:b < a
  ·rw [if_pos h2,if_pos (by omega)]
  ·rw [if_neg h2,if_neg (by omega)]
theorem cmpL_cons (a b:Nat) (r s:List Nat):cmpL (a :: r) (b :: s)=if cmpI (a:Int) b=0 then cmpL r s else cmpI (a:Int) b:=by
 rw [cmpI_nat,cmpL]
 by_cases h:a < b
 ·simp [h]
 ·by_cases h2:b < a
  ·simp [h,h2]
  ·simp [h,h2]
theorem cmpL_nil (l:List Nat):cmpL [] l=if 0 < l.length then -1 else 0:=by cases l <;> rfl
theorem compare_int {S S':Nat->Prop} {va vb:Value} {A B:List Nat} {w:World} (ha:Sl intT w S va A) (hb:Sl intT w S' vb B) :
  Calls Tryz.prog 118 #[va,vb] w fun e w'=>e=.returned (I (cmpL A B))/\w=w':=by
 have ha':=ha
 have hb':=hb
 obtain⟨Aa,ca,rfl,h1,h2⟩:=ha.form
 obtain⟨Ab,cb,rfl,h3,h4⟩:=hb.form
 clear ha hb
 obtain⟨K,hK⟩:∃ K,cmpL A B=K:=⟨_,rfl⟩
 rw [hK]
 have HC:=Lib.hid icmp_any
 have HAT:=Lib.hid (fun (pre post:List Nat) (m:Nat) (wr:World) (h:Ext w wr) (hl:A=pre++m :: post)=>int_at ha' h hl)
 have HBT:=Lib.hid (fun (pre post:List Nat) (m:Nat) (wr:World) (h:Ext w wr) (hl:B=pre++m :: post)=>int_at hb' h hl)
 have HK:=Lib.hid hK
 clear ha' hb' hK
 go_enter Tryz.func118,Tryz.ntmps118
 go_wp2_with fail
 go_loopw [11] (fun i wr=>∃ pre pa pb,A=pre++pa/\B=pre++pb/\i=I pre.length/\w=wr) (fun i _=>A.length - (intOf i).toNat)
 case atStart=>exact⟨[],A,B,rfl,rfl,rfl,rfl⟩
 case round =>
  obtain⟨pre,pa,pb,hla,hlb,rfl,rfl⟩:=hrel
  have hk:=HK.out
  rw [hla,hlb,cmpL_pre] at hk
  cases pa with
  | nil =>
   have hlen:(A.length:Int)=pre.length:=by rw [hla];simp
   have hlb2:(B.length:Int)=pre.length+pb.length:=by rw [hlb];simp
   rw [cmpL_nil] at hk
   have hlt:¬ (pre.length:Int) < A.length:=by omega
   by_cases hp:0 < pb.length
   ·have HF:=Lib.hid (show K = -1 by rw [<- hk,if_pos hp])
    have hq:(A.length:Int) < B.length:=by omega
    clear hk hla hlb hlen hlb2 hp
    go_wp2_with fail
    go_ret
    exact⟨by rw [HF.out];rfl,rfl⟩
   ·have HF:=Lib.hid (show K=0 by rw [<- hk,if_neg hp])
    have hq:¬ (A.length:Int) < B.length:=by omega
    clear hk hla hlb hlen hlb2 hp
    go_wp2_with fail
    go_ret
    exact⟨by rw [HF.out];rfl,rfl⟩
  | cons x pa =>
   obtain⟨b1,o1,rfl,hxa⟩:=HAT.out pre pa x w (Ext.refl _) hla
   have hlt:(pre.length:Int) < A.length:=by rw [hla];simp;omega
   cases pb with
   | nil =>
    have HF:=Lib.hid (show K=1 by rw [<- hk];rfl)
    have hq:(pre.length:Int) ≥ B.length:=by rw [hlb];simp
    clear hk hla hlb
    go_wp2_with fail
    go_ret
    exact⟨by rw [HF.out];rfl,rfl⟩
   | cons y pb =>
    obtain⟨b2,o2,rfl,hya⟩:=HBT.out pre pb y w (Ext.refl _) hlb
    have hq:¬ (pre.length:Int) ≥ B.length:=by rw [hlb];simp;omega
    have HLA:=Lib.hid hla
    have HLB:=Lib.hid hlb
    rw [cmpL_cons] at hk
    by_cases hc:cmpI (x:Int) y=0
    ·have hxy:x=y:=by
      rw [cmpI_nat] at hc
      split at hc
      ·cases hc
      ·split at hc
       ·cases hc
       ·omega
     have HXY:=Lib.hid hxy
     clear hk hla hlb hxy
     go_wp2_with fail
     refine (HC.out _ _ _).mono ?_
     rintro e w2 ⟨rfl,hw⟩
     subst hw
     rw [hc]
     go_wp2_with fail
     go_roundw
     case rel=>exact⟨pre++[x],pa,pb,by rw [HLA.out];simp,by rw [HLB.out,HXY.out];simp,by simp,trivial⟩
     case measure=>simp [intOf];omega
    ·rw [if_neg hc] at hk
     have HF:=Lib.hid hk
     have hne:(cmpI (x:Int) y != 0)=true:=by simpa using hc
     clear hk hla hlb
     go_wp2_with fail
     refine (HC.out _ _ _).mono ?_
     rintro e w2 ⟨rfl,hw⟩
     subst hw
     go_wp2_with fail
     go_ret
     exact⟨by rw [<- HF.out];rfl,rfl⟩
theorem arr_sl {w W:World} {p:Str} {g T:Nat} {S:Nat->Prop} (h:RowIs w g T (arrC (splitP p)) []) (he:Ext w W) (hS:S g) {k:Nat} (hk:k<=deepP p):Sl intT W S (.slice (some ⟨g,0,none⟩) k 8) ((splitP p).take k):=by
 have h8:=splitP_len p
 have hl:((splitP p).take k).length=k:=by rw [List.length_take];unfold deepP at hk;omega
 refine ⟨some ⟨g,0,none⟩,8,by rw [hl],by rw [hl];unfold deepP at hk;omega,by omega,fun pre x post e=>?_⟩
 refine ⟨g,0,intC x,rfl,hS,rfl,fun j u hj=>?_⟩
 have hj0:j=0:=by
  have:=(List.getElem?_eq_some_iff.1 hj).1
  simp [intC] at this
  exact this
 subst hj0
 simp only [intC,List.getElem?_cons_zero,Option.some.injEq] at hj
 subst hj
 have hp:pre.length < ((splitP p).take k).length:=by rw [e];simp
 have hx:(splitP p)[pre.length]? = some x:=by
  have:((splitP p).take k)[pre.length]? = some x:=by rw [e];simp
  rw [List.getElem?_take] at this
  split at this
  ·exact this
  ·cases this
 have hx':(arrC (splitP p))[pre.length]? = some (I x):=by
  unfold arrC
  rw [List.getElem?_map,List.getElem?_append_left (List.getElem?_eq_some_iff.1 hx).1,hx]
  rfl
 have:=he.cell (h.cell hx')
 simpa [intT,flat] using this
def cmpPath (a b:Str):Int :=
 if deepP a=0/\deepP b=0 then cmpS a b else if deepP a=0 then -1 else if deepP b=0 then 1 else cmpL (splitP a) (splitP b)
def underP (p a:Str):Bool:=decide (0 < deepP a) && decide (deepP a < deepP p) && decide ((splitP p).take (deepP a)=splitP a)
theorem pcmp_anyD (a b:Str) (ha:a.length < 4611686018427387904) (hb:b.length < 4611686018427387904) (w:World):Calls Tryz.prog 48 #[St a,St b] w fun e w'=>e=.returned (I (cmpPath a b))/\Ext w w'/\w.drawn<=w'.drawn:=by
 obtain⟨n0,n1,n2,n3,n4,n5,n6,n7,hea,HA⟩:=split_namedD a ha
 obtain⟨m0,m1,m2,m3,m4,m5,m6,m7,heb,HB⟩:=split_namedD b hb
 have HA:=Lib.hid HA
 have HB:=Lib.hid HB
 have HC:=Lib.hid (scmp_any a b)
 have h8a:deepP a<=8:=splitP_len a
 have h8b:deepP b<=8:=splitP_len b
 have hAT:=fun (w W:World) (g:Nat) (h:RowIs w g 129 (arrC (splitP a)) []) (he:Ext w W)=>arr_sl (S:=fun _=>True) h he trivial (Nat.le_refl (deepP a))
 have hBT:=fun (w W:World) (g:Nat) (h:RowIs w g 129 (arrC (splitP b)) []) (he:Ext w W)=>arr_sl (S:=fun _=>True) h he trivial (Nat.le_refl (deepP b))
 rw [hea] at hAT
 rw [heb] at hBT
 rw [List.take_length] at hAT hBT
 have HAT:=Lib.hid hAT
 have HBT:=Lib.hid hBT
 obtain⟨K,hK⟩:∃ K,cmpPath a b=K:=⟨_,rfl⟩
 rw [hK]
 have HK:=Lib.hid hK
 clear hAT hBT hea heb hK
 have hda:deepP a=0 ∨ 0 < deepP a:=Nat.eq_zero_or_pos _
 have hdb:deepP b=0 ∨ 0 < deepP b:=Nat.eq_zero_or_pos _
 unfold cmpPath at HK
 obtain⟨da,hda'⟩:∃ d,deepP a=d:=⟨_,rfl⟩
 obtain⟨db,hdb'⟩:∃ d,deepP b=d:=⟨_,rfl⟩
 rw [hda'] at HK HA HAT hda h8a
 rw [hdb'] at HK HB HBT hdb h8b
 clear hda' hdb'
 go_enter Tryz.func48,Tryz.ntmps48
 go_wp2_with fail
 refine (HA.out _).mono ?_
 rintro e w1 ⟨rfl,hx1,hd1⟩
 have r1:=rowNew w1 129 [I n0,I n1,I n2,I n3,I n4,I n5,I n6,I n7]
 have hxa:=hx1.alloc (.cells #[I n0,I n1,I n2,I n3,I n4,I n5,I n6,I n7] 129)
 have hd2:w.drawn<=(w1.alloc (.cells #[I n0,I n1,I n2,I n3,I n4,I n5,I n6,I n7] 129)).drawn:=hd1
 clear hd1
 go_wp2_with fail
 generalize w1.alloc (.cells #[I n0,I n1,I n2,I n3,I n4,I n5,I n6,I n7] 129)=W1 at *
 refine (HB.out _).mono ?_
 rintro e w2 ⟨rfl,hx2,hd3⟩
 have r2:=rowNew w2 129 [I m0,I m1,I m2,I m3,I m4,I m5,I m6,I m7]
 have hxb:=hx2.alloc (.cells #[I m0,I m1,I m2,I m3,I m4,I m5,I m6,I m7] 129)
 have HX:=Lib.hid (hxa.trans hxb)
 have HS1:=Lib.hid (HAT.out _ _ _ r1 hxb)
 have HS2:=Lib.hid (HBT.out _ _ _ r2 (Ext.refl _))
 have HDR:=Lib.hid (show w.drawn<=(w2.alloc (.cells #[I m0,I m1,I m2,I m3,I m4,I m5,I m6,I m7] 129)).drawn from Nat.le_trans hd2 hd3)
 clear r1 r2 hxa hxb hx1 hx2 hd2 hd3
 generalize hW2:w2.alloc (.cells #[I m0,I m1,I m2,I m3,I m4,I m5,I m6,I m7] 129)=W2 at *
 rcases hda with rfl | hda
 ·rcases hdb with rfl | hdb
  ·have HF:=Lib.hid (show cmpS a b=K from HK.out)
   clear HK
   go_wp2_with fail
   refine (HC.out _).mono ?_
   rintro e w3 ⟨rfl,rfl⟩
   go_wp2_with fail
   go_ret
   exact⟨by rw [<- HF.out];rfl,HX.out,HDR.out⟩
  ·have HF:=Lib.hid (show -1=K by rw [<- HK.out,if_neg (by omega),if_pos rfl])
   have e0:((db:Int) == 0)=false:=by rw [beq_eq_false_iff_ne];omega
   clear HK
   go_wp2_with fail
   go_ret
   exact⟨by rw [<- HF.out];rfl,HX.out,HDR.out⟩
 ·have e1:((da:Int) == 0)=false:=by rw [beq_eq_false_iff_ne];omega
  rcases hdb with rfl | hdb
  ·have HF:=Lib.hid (show 1=K by rw [<- HK.out,if_neg (by omega),if_neg (by omega),if_pos rfl])
   clear HK
   go_wp2_with fail
   go_ret
   exact⟨by rw [<- HF.out];rfl,HX.out,HDR.out⟩
  ·have HF:=Lib.hid (show cmpL (splitP a) (splitP b)=K by rw [<- HK.out,if_neg (by omega),if_neg (by omega),if_neg (by omega)])
   have e0:((db:Int) == 0)=false:=by rw [beq_eq_false_iff_ne];omega
   clear HK
   go_wp2_with fail
   have hia:(da:Int)<=8:=by omega
   have hib:(db:Int)<=8:=by omega
   go_quiet ((go_at_call 118;exact Calls.quiet_of_same ((compare_int (HS1.out.ext (by decide) ((Ext.refl _).drewN _)) (HS2.out.ext (by decide) ((Ext.refl _).drewN _))).mono fun e w' h=>⟨h.1,h.2.symm⟩)))
   go_wp2
   go_ret
   exact⟨by rw [<- HF.out];rfl,HX.out.drewN _,Nat.le_trans HDR.out (Nat.le_add_right _ _)⟩
theorem pcmp_any (a b:Str) (ha:a.length < 4611686018427387904) (hb:b.length < 4611686018427387904) (w:World):Calls Tryz.prog 48 #[St a,St b] w fun e w'=>e=.returned (I (cmpPath a b))/\Ext w w' :=
 (pcmp_anyD a b ha hb w).mono fun _ _ h=>⟨h.1,h.2.1⟩
theorem grow_of {w w':World} (h:Ext w w') (hd:w.drawn<=w'.drawn):∃ q os,w'=Go.Sort.grow (w.drewN q) os:=by
 refine ⟨w'.drawn - w.drawn,w'.heap.extract w.heap.size w'.heap.size,?_⟩
 obtain⟨heap,tape,drawn,os,output⟩:=w'
 obtain⟨heap0,tape0,drawn0,os0,output0⟩:=w
 have h1:=h.os
 have h2:=h.tape
 have h3:=h.output
 have h4:=h.size
 have h5:=h.block
 simp only at h1 h2 h3 h4 h5 hd
 subst h1 h2 h3
 simp only [Go.Sort.grow,World.drewN]
 congr 1
 ·apply Array.ext_getElem?
  intro i
  rw [Array.getElem?_append]
  split
  ·rename_i hi
   exact h5 i hi
  ·rename_i hi
   rw [Array.getElem?_extract]
   by_cases h6:i < heap.size
   ·rw [if_pos (by omega),show heap0.size+(i - heap0.size)=i by omega]
   ·rw [if_neg (by omega),Array.getElem?_eq_none (by omega)]
 ·omega
theorem under_any (a b:Str) (ha:a.length < 4611686018427387904) (hb:b.length < 4611686018427387904) (w:World):Calls Tryz.prog 121 #[St a,St b] w fun e w'=>e=.returned (.bool (underP a b))/\Ext w w':=by
 obtain⟨n0,n1,n2,n3,n4,n5,n6,n7,hea,HA⟩:=split_named a ha
 obtain⟨m0,m1,m2,m3,m4,m5,m6,m7,heb,HB⟩:=split_named b hb
 have HA:=Lib.hid HA
 have HB:=Lib.hid HB
 have h8a:deepP a<=8:=splitP_len a
 have h8b:deepP b<=8:=splitP_len b
 have hAT:=fun (w W:World) (g:Nat) (h:RowIs w g 129 (arrC (splitP a)) []) (he:Ext w W)=>arr_sl (S:=fun _=>True) h he trivial (k:=min (deepP b) (deepP a)) (Nat.min_le_right _ _)
 have hBT:=fun (w W:World) (g:Nat) (h:RowIs w g 129 (arrC (splitP b)) []) (he:Ext w W)=>arr_sl (S:=fun _=>True) h he trivial (Nat.le_refl (deepP b))
 rw [hea] at hAT
 rw [heb] at hBT
 rw [List.take_length] at hBT
 have HAT:=Lib.hid hAT
 have HBT:=Lib.hid hBT
 obtain⟨K,hK⟩:∃ K,underP a b=K:=⟨_,rfl⟩
 rw [hK]
 have HK:=Lib.hid hK
 clear hAT hBT hea heb hK
 unfold underP at HK
 obtain⟨da,hda'⟩:∃ d,deepP a=d:=⟨_,rfl⟩
 obtain⟨db,hdb'⟩:∃ d,deepP b=d:=⟨_,rfl⟩
 rw [hda'] at HK HA HAT h8a
 rw [hdb'] at HK HB HBT HAT h8b
 clear hda' hdb'
 go_enter Tryz.func121,Tryz.ntmps121
 go_wp2_with fail
 refine (HA.out _).mono ?_
 rintro e w1 ⟨rfl,hx1⟩
 have r1:=rowNew w1 129 [I n0,I n1,I n2,I n3,I n4,I n5,I n6,I n7]
 have hxa:=hx1.alloc (.cells #[I n0,I n1,I n2,I n3,I n4,I n5,I n6,I n7] 129)
 go_wp2_with fail
 generalize w1.alloc (.cells #[I n0,I n1,I n2,I n3,I n4,I n5,I n6,I n7] 129)=W1 at *
 refine (HB.out _).mono ?_
 rintro e w2 ⟨rfl,hx2⟩
 have r2:=rowNew w2 129 [I m0,I m1,I m2,I m3,I m4,I m5,I m6,I m7]
 have hxb:=hx2.alloc (.cells #[I m0,I m1,I m2,I m3,I m4,I m5,I m6,I m7] 129)
 have HX:=Lib.hid (hxa.trans hxb)
 have HS1:=Lib.hid (HAT.out _ _ _ r1 hxb)
 have HS2:=Lib.hid (HBT.out _ _ _ r2 (Ext.refl _))
 clear r1 r2 hxa hxb hx1 hx2
 generalize hW2:w2.alloc (.cells #[I m0,I m1,I m2,I m3,I m4,I m5,I m6,I m7] 129)=W2 at *
 by_cases h0:0 < db
 ·have k0:(0:Int) < db:=by omega
  by_cases h1:db < da
  ·have k1:(db:Int) < da:=by omega
   have HF:=Lib.hid (show decide ((splitP a).take db=splitP b)=K by rw [<- HK.out,decide_eq_true h0,decide_eq_true h1];rfl)
   have hmin:min db da=db:=Nat.min_eq_left (by omega)
   have HS1:=Lib.hid (show Sl intT W2 (fun _=>True) (.slice (some ⟨w1.heap.size,0,none⟩) db 8) ((splitP a).take db) by have:=HS1.out;rwa [hmin] at this)
   have hia:(db:Int)<=8:=by omega
   clear HK hmin
   go_wp2_with fail
   go_quiet ((go_at_call 160;exact Calls.quiet_of (equal_int (HS1.out.ext (by decide) ((Ext.refl _).drewN _)) (HS2.out.ext (by decide) ((Ext.refl _).drewN _)))))
   go_wp2
   go_ret
   exact⟨by rw [<- HF.out];rfl,HX.out.drewN _⟩
  ·have k1:decide ((db:Int) < da)=false:=by simp;omega
   have k2:decide (db < da)=false:=by simp;omega
   have HF:=Lib.hid (show false=K by rw [<- HK.out,decide_eq_false h1];simp)
   clear HK h1
   go_wp2_with fail
   go_quiet (fail)
   go_wp2
   go_ret
   exact⟨by rw [<- HF.out];rfl,HX.out.drewN _⟩
 ·have k0:decide ((0:Int) < db)=false:=by simp;omega
  have k2:decide (0 < db)=false:=by simp;omega
  have HF:=Lib.hid (show false=K by rw [<- HK.out,decide_eq_false h0];simp)
  clear HK h0
  go_wp2_with fail
  go_quiet (fail)
  go_wp2
  go_ret
  exact⟨by rw [<- HF.out];rfl,HX.out.drewN _⟩
end
section
open Go.RowKit
theorem digV_from (s:Str) (n:Nat):digV s n=n * 10 ^ s.length+digV s 0:=by
 induction s generalizing n with
 | nil=>simp [digV]
 | cons b s ih =>
  rw [digV,digV,ih,ih (10 * 0+_),List.length_cons,Nat.pow_succ]
  simp only [Nat.mul_zero,Nat.zero_add]
  rw [Nat.add_mul]
  have:10 * n * 10 ^ s.length=n * (10 ^ s.length * 10):=by rw [Nat.mul_comm 10 n,Nat.mul_assoc,Nat.mul_comm 10 (10 ^ s.length)]
  omega
theorem digV_lt0 {s:Str} (hs:s.all digB=true):digV s 0 < 10 ^ s.length:=by
 have:=digV_lt s 0 1 (by omega) hs
 omega
theorem digB_iff {b:UInt8}:digB b=true↔48<=b.toNat/\b.toNat<=57:=by simp [digB]
theorem digV_inj:∀ {a b:Str},a.length=b.length->a.all digB=true->b.all digB=true->digV a 0=digV b 0->a=b
 | [],[],_,_,_,_=>rfl
 | [],_ :: _,h,_,_,_=>by simp at h
 | _ :: _,[],h,_,_,_=>by simp at h
 | x :: a,y :: b,h,ha,hb,he=>by
  simp only [List.all_cons,Bool.and_eq_true] at ha hb
  simp only [List.length_cons,Nat.add_right_cancel_iff] at h
  rw [digV,digV,digV_from a,digV_from b,h] at he
  have h1:=digV_lt0 ha.2
  have h2:=digV_lt0 hb.2
  rw [h] at h1
  have hx:=digB_iff.1 ha.1
  have hy:=digB_iff.1 hb.1
  have hd:x.toNat - 48=y.toNat - 48:=by
   simp only [Nat.mul_zero,Nat.zero_add] at he
   rcases Nat.lt_trichotomy (x.toNat - 48) (y.toNat - 48) with h3 | h3 | h3
   ·exfalso
    have:(x.toNat - 48+1) * 10 ^ b.length<=(y.toNat - 48) * 10 ^ b.length:=Nat.mul_le_mul_right _ h3
    rw [Nat.add_mul] at this
    omega
   ·exact h3
   ·exfalso
    have:(y.toNat - 48+1) * 10 ^ b.length<=(x.toNat - 48) * 10 ^ b.length:=Nat.mul_le_mul_right _ h3
    rw [Nat.add_mul] at this
    omega
  have hxy:x=y:=UInt8.toNat_inj.1 (by omega)
  rw [hd] at he
  rw [hxy,digV_inj h ha.2 hb.2 (by omega)]
theorem numS_ne {s:Str} (h:numS s ≠ 0):∃ b r,s=b :: r/\b ≠ 48/\s.all digB=true/\numS s=digV s 0:=by
 unfold numS at h ⊢
 split at h
 ·exact absurd rfl h
 ·rename_i hc
  rw [if_neg hc]
  split at h
  ·exact absurd rfl h
  ·rename_i hv
   rw [if_neg hv]
   simp only [Bool.or_eq_true,not_or,Bool.not_eq_true,List.isEmpty_eq_false_iff] at hc
   cases s with
   | nil=>exact absurd rfl hc.1.1.1
   | cons b r =>
    refine ⟨b,r,rfl,?_,by simpa using hc.2,rfl⟩
    have:=hc.1.2
    simpa using this
theorem numS_inj {a b:Str} (h:numS a=numS b) (h0:numS a ≠ 0):a=b:=by
 obtain⟨x,r,rfl,hx,ha,ea⟩:=numS_ne h0
 obtain⟨y,s,rfl,hy,hb,eb⟩:=numS_ne (s:=b) (by rw [<- h];exact h0)
 rw [ea,eb] at h
 have low:∀ {x:UInt8} {r:Str},x ≠ 48->(x :: r).all digB=true->10 ^ r.length<=digV (x :: r) 0:=fun {x r} hx ha=>by
  simp only [List.all_cons,Bool.and_eq_true] at ha
  have h1:=digB_iff.1 ha.1
  have h2:x.toNat ≠ 48:=fun e=>hx (UInt8.toNat_inj.1 (by rw [e];rfl))
  rw [digV,digV_from]
  have:1 * 10 ^ r.length<=(10 * 0+(x.toNat - 48)) * 10 ^ r.length:=Nat.mul_le_mul_right _ (by omega)
  omega
 refine digV_inj ?_ ha hb h
 have l1:=low hx ha
 have l2:=low hy hb
 have u1:=digV_lt0 ha
 have u2:=digV_lt0 hb
 rw [List.length_cons] at u1 u2 ⊢
 rw [List.length_cons]
 rcases Nat.lt_trichotomy r.length s.length with h3 | h3 | h3
 ·exfalso
  have:=Nat.pow_le_pow_right (n:=10) (by omega) (show r.length+1<=s.length from h3)
  omega
 ·omega
 ·exfalso
  have:=Nat.pow_le_pow_right (n:=10) (by omega) (show s.length+1<=r.length from h3)
  omega
def joinC (c:UInt8):List Str->Str
 | []=>[]
 | [f]=>f
 | f :: g :: fs=>f++c :: joinC c (g :: fs)
theorem joinC_split (c:UInt8):∀ s:Str,joinC c (splitC c s)=s
 | []=>rfl
 | b :: r=>by
  have ih:=joinC_split c r
  unfold splitC
  split
  ·rename_i e
   cases h:splitC c r with
   | nil=>exact absurd h (splitC_ne c r)
   | cons f fs=>rw [h] at ih;rw [joinC,ih,e];rfl
  ·cases h:splitC c r with
   | nil=>exact absurd h (splitC_ne c r)
   | cons f fs =>
    rw [h] at ih
    cases fs with
    | nil=>simp only [joinC] at ih ⊢;rw [ih]
    | cons g gs=>simp only [joinC] at ih ⊢;rw [List.cons_append,ih]
theorem map_numS_inj:∀ {a b:List Str},a.map numS=b.map numS->(∀ n ∈ a.map numS,n ≠ 0)->a=b
 | [],[],_,_=>rfl
 | [],_ :: _,h,_=>by simp at h
 | _ :: _,[],h,_=>by simp at h
 | x :: a,y :: b,h,h0=>by
  simp only [List.map_cons,List.cons.injEq] at h
  rw [numS_inj h.1 (h0 _ (by simp)),map_numS_inj h.2 (fun n hn=>h0 n (by simp [hn]))]
theorem splitP_some {p:Str} (h:splitP p ≠ []):splitP p=(splitC 46 p).map numS/\∀ n ∈ (splitC 46 p).map numS,n ≠ 0:=by
 unfold splitP at h ⊢
 simp only at h ⊢
 split at h
 ·rename_i hc
  rw [if_pos hc]
  simp only [Bool.and_eq_true] at hc
  exact⟨rfl,fun n hn=>by have:=List.all_eq_true.1 hc.1.1 n hn;simpa using this⟩
 ·exact absurd rfl h
theorem splitP_inj {a b:Str} (h:splitP a=splitP b) (h0:splitP a ≠ []):a=b:=by
 obtain⟨e1,n1⟩:=splitP_some h0
 obtain⟨e2,n2⟩:=splitP_some (p:=b) (by rw [<- h];exact h0)
 rw [e1,e2] at h
 rw [<- joinC_split 46 a,<- joinC_split 46 b,map_numS_inj h n1]
theorem cmpL_anti:∀ a b:List Nat,cmpL b a = -cmpL a b
 | [],[]=>rfl
 | [],_ :: _=>rfl
 | _ :: _,[]=>rfl
 | x :: a,y :: b=>by
  unfold cmpL
  by_cases h:x < y
  ·rw [if_neg (by omega),if_pos h,if_pos h];rfl
  ·by_cases h2:y < x
   ·rw [if_pos h2,if_neg h,if_pos h2]
   ·rw [if_neg h2,if_neg h,if_neg h,if_neg h2]
    exact cmpL_anti a b
theorem cmpL_eq:∀ {a b:List Nat},cmpL a b=0↔a=b
 | [],[]=>by simp [cmpL]
 | [],_ :: _=>by simp [cmpL]
 | _ :: _,[]=>by simp [cmpL]
 | x :: a,y :: b=>by
  unfold cmpL
  by_cases h:x < y
  ·rw [if_pos h];simp [show x ≠ y by omega]
  ·by_cases h2:y < x
   ·rw [if_neg h,if_pos h2];simp [show x ≠ y by omega]
   ·rw [if_neg h,if_neg h2,cmpL_eq,show x=y by omega];simp
theorem cmpL_trans:∀ {a b c:List Nat},cmpL a b < 0->cmpL b c < 0->cmpL a c < 0
 | [],[],_,h,_=>by simp [cmpL] at h
 | [],_ :: _,[],_,h=>by simp [cmpL] at h
 | [],_ :: _,_ :: _,_,_=>by simp [cmpL]
 | _ :: _,[],_,h,_=>by simp [cmpL] at h
 | _ :: _,_ :: _,[],_,h=>by simp [cmpL] at h
 | x :: a,y :: b,z :: c,h1,h2=>by
  unfold cmpL at *
  by_cases e1:x < y
  ·by_cases e2:y < z
   ·rw [if_pos (by omega)];omega
   ·rw [if_neg e2] at h2
    by_cases e3:z < y
    ·rw [if_pos e3] at h2;omega
    ·rw [if_pos (by omega)];omega
  ·rw [if_neg e1] at h1
   by_cases e2:y < x
   ·rw [if_pos e2] at h1;omega
   ·rw [if_neg e2] at h1
    by_cases e3:y < z
    ·rw [if_pos (by omega)];omega
    ·rw [if_neg e3] at h2
     by_cases e4:z < y
     ·rw [if_pos e4] at h2;omega
     ·rw [if_neg e4] at h2
      rw [if_neg (by omega),if_neg (by omega)]
      exact cmpL_trans h1 h2
theorem cmpS_anti (a b:Str):cmpS b a = -cmpS a b:=by
 unfold cmpS
 rcases str_cases a b with ⟨h1,h2,h3,h4,h5⟩ | rfl | ⟨h1,h2,h3,h4,h5⟩
 ·simp [h1,h2,h4]
 ·simp [ltS_irrefl]
 ·simp [h1,h2,h3]
theorem cmpPath_anti (a b:Str):cmpPath b a = -cmpPath a b:=by
 unfold cmpPath
 by_cases ha:deepP a=0 <;> by_cases hb:deepP b=0
 ·rw [if_pos ⟨hb,ha⟩,if_pos ⟨ha,hb⟩,cmpS_anti]
 ·rw [if_neg (by omega),if_neg hb,if_pos ha,if_neg (by omega),if_pos ha];rfl
 ·rw [if_neg (by omega),if_pos hb,if_neg (by omega),if_neg ha,if_pos hb]
 ·rw [if_neg (by omega),if_neg hb,if_neg ha,if_neg (by omega),if_neg ha,if_neg hb,cmpL_anti]
theorem cmpPath_eq {a b:Str}:cmpPath a b=0↔a=b:=by
 unfold cmpPath
 by_cases ha:deepP a=0 <;> by_cases hb:deepP b=0
 ·rw [if_pos ⟨ha,hb⟩];exact cmpS_eq
 ·rw [if_neg (by omega),if_pos ha]
  constructor
  ·intro h;omega
  ·rintro rfl;exact absurd ha hb
 ·rw [if_neg (by omega),if_neg ha,if_pos hb]
  constructor
  ·intro h;omega
  ·rintro rfl;exact absurd hb ha
 ·rw [if_neg (by omega),if_neg ha,if_neg hb,cmpL_eq]
  exact⟨fun h=>splitP_inj h (fun e=>ha (by simp [deepP,e])),fun h=>by rw [h]⟩
theorem cmpPath_trans {a b c:Str} (h1:cmpPath a b < 0) (h2:cmpPath b c < 0):cmpPath a c < 0:=by
 unfold cmpPath at *
 by_cases ha:deepP a=0 <;> by_cases hb:deepP b=0 <;> by_cases hc:deepP c=0
 ·rw [if_pos ⟨ha,hb⟩] at h1
  rw [if_pos ⟨hb,hc⟩] at h2
  rw [if_pos ⟨ha,hc⟩]
  exact cmpS_lt.2 (ltS_trans (cmpS_lt.1 h1) (cmpS_lt.1 h2))
 ·rw [if_neg (by omega),if_pos ha];omega
 ·rw [if_neg (by omega),if_neg hb,if_pos hc] at h2;omega
 ·rw [if_neg (by omega),if_pos ha];omega
 ·rw [if_neg (by omega),if_neg ha,if_pos hb] at h1;omega
 ·rw [if_neg (by omega),if_neg ha,if_pos hb] at h1;omega
 ·rw [if_neg (by omega),if_neg hb,if_pos hc] at h2;omega
 ·rw [if_neg (by omega),if_neg ha,if_neg hb] at h1
  rw [if_neg (by omega),if_neg hb,if_neg hc] at h2
  rw [if_neg (by omega),if_neg ha,if_neg hc]
  exact cmpL_trans h1 h2
def ltP (a b:Str):Bool:=decide (cmpPath a b < 0)
theorem ltP_swo:Go.Sort.SWO ltP where
 irrefl x:=by simp [ltP,cmpPath_eq.2]
 trans x y z h1 h2:=by
  simp only [ltP,decide_eq_true_eq] at *
  exact cmpPath_trans h1 h2
 ntrans x y z h1 h2:=by
  simp only [ltP,decide_eq_false_iff_not] at *
  intro h
  rcases Int.lt_trichotomy (cmpPath x y) 0 with h3 | h3 | h3
  ·exact h1 h3
  ·rw [cmpPath_eq.1 h3] at h;exact h2 h
  ·have h4:cmpPath y x < 0:=by rw [cmpPath_anti];omega
   exact h2 (cmpPath_trans h4 h)
theorem ltP_anti (a b:Str) (h1:ltP a b=false) (h2:ltP b a=false):a=b:=by
 simp only [ltP,decide_eq_false_iff_not] at *
 rw [cmpPath_anti] at h2
 exact cmpPath_eq.1 (by omega)
end
end Go.Proofs.YtblkikjmocnllaaGreatDoor
