/- slices.SortFunc, slices.SortedFunc at places. -/
import Derived.Test.YtaabaflgeljbjaaGreatPr19
import Derived.Test.YtaabaflgeljbjaaGreatPr15
set_option linter.unusedVariables false
set_option linter.unusedSimpArgs false
set_option maxRecDepth 100000
set_option maxHeartbeats 40000000
namespace Go.Proofs.YtaabaflgeljbjaaGreat
section
open Go.RowKit Go.Shelf Go.Sort
theorem zwz (W:World) (q r:Nat) (os os':Array Obj):Go.Sort.grow ((Go.Sort.grow (W.drewN q) os).drewN r) os'=Go.Sort.grow (W.drewN (q+r)) (os++os'):=by
 simp [Go.Sort.grow,World.drewN,Array.append_assoc,Nat.add_assoc]
theorem zue (a b:zan) (W:World):Calls Tryz.prog 194 #[zar a,zar b] W fun e w'=>e=.returned (I (cmpP a b))/\∃ q os,w'=Go.Sort.grow (W.drewN q) os:=by
 have H1:=zH zhl;have H2:=zH zmq
 have hw0:(W.alloc (.cells #[St a.1,St a.2.1,U a.2.2] 220)).alloc (.cells #[St b.1,St b.2.1,U b.2.2] 220)=Go.Sort.grow (W.drewN 0) #[.cells #[St a.1,St a.2.1,U a.2.2] 220,.cells #[St b.1,St b.2.1,U b.2.2] 220]:=by
  rw [Go.Sort.alloc_eq_grow,Go.Sort.alloc_eq_grow]
  rfl
 by_cases h:cmpS a.1 b.1=0
 ·have hc:cmpP a b=cmpD a.2 b.2:=by unfold cmpP;rw [h];simp [orI]
  have HC:=zH hc;have h1:(cmpS a.1 b.1 != 0)=false:=by simp [h]
  have HW:=zH hw0;clear hc hw0;go_enter Tryz.func194,Tryz.ntmps194;go_wp2_with fail;refine (H1.out _ _ _).mono ?_;rintro e w' ⟨rfl,rfl⟩;rw [h];clear h h1;go_wp2_with fail;refine (H2.out _ _ _).mono ?_;rintro e w' ⟨rfl,q,os,rfl⟩;go_wp2;go_ret;exact⟨by rw [HC.out];rfl,_,_,by rw [HW.out,zwz]⟩
 ·have hc:cmpP a b=cmpS a.1 b.1:=by unfold cmpP;simp [orI,h]
  have HC:=zH hc;have HW:=zH hw0;have h1:(cmpS a.1 b.1 != 0)=true:=by simp [h]
  have h2:(cmpS a.1 b.1 == 0)=false:=by simp [h]
  obtain⟨z,hz⟩:∃ z,cmpS a.1 b.1=z:=⟨_,rfl⟩
  have HZ:=zH hz;rw [hz] at h h1 h2;clear hc hw0 hz;go_enter Tryz.func194,Tryz.ntmps194;go_wp2_with fail;refine (H1.out _ _ _).mono ?_;rintro e w' ⟨rfl,rfl⟩;rw [HZ.out];go_wp2;go_ret;exact⟨by rw [HC.out,HZ.out];rfl,_,_,HW.out⟩
theorem zuf {v:Value} {l:List zan} {w:World} {base:Nat} (hv:Own w base 220 3 v l.length (l.flatMap zcm)) (hbase:base<=w.heap.size) (hl:l.length<=1099511627776) :
  Calls Tryz.prog 230 #[v,.func (.func 194) #[] #[]] w fun e w'=>e=.returned (.tuple #[]) /\
   Own w' base 220 3 v (zco (ltOf cmpP) l).length ((zco (ltOf cmpP) l).flatMap zcm)/\Below base w w':=by
 rcases Nat.eq_zero_or_pos l.length with h0 | h0
 ·obtain rfl:l = []:=List.eq_nil_of_length_eq_zero h0;obtain⟨A,c,rfl,-,-⟩:=hv.form;have hcon:=AnyF.slices_SortFunc_none Tryz.sortPlace A c (.func (.func 194) #[] #[]) w;exact Calls.mono hcon fun e w' ⟨he,hw⟩=>⟨he,by rw [hw];exact hv,by rw [hw];exact Below.refl _ _⟩
 ·obtain⟨gb,cap,tail,rfl,hgb,hrow,hnc,hcm,hcl⟩:=hv.row h0;have eg:∀ args w,(callFunc 194 args).run Tryz.prog w=.ok (.enter 194 args) w:=enters_of Tryz.func194 (by kernel_rfl) rfl;have hH:Go.Sort.HoldsK zcm 3 w gb 0 l.toArray:=zjp (F:=Go.Sort.flatK zcm 3 l.toArray) (by rw [zi4 (enc:=zcm) (k:=3) (fun _=>rfl) (by decide)];exact hrow)
  have hcon:=AnyQ.slices_SortFunc Tryz.sortPlace 3 Tryz.isAgg220 Tryz.sizeOf220 zcm (fun _=>rfl) (fun x v hv=>by simp [zcm] at hv;rcases hv with rfl | rfl | rfl <;> rfl) cmpP zhm 194 #[] gb 0 cap l.toArray w eg
   (fun _ _ _ _ x y=>zue x y _) hH hrow.lt (by simp;omega)
  refine hcon.mono ?_;rintro e w' ⟨rfl,d',n,os,hp,hs,rfl⟩;have hd:=ztu zhm zjs hp hs;have hsz:d'.size=l.length:=by simpa using hp.1
  obtain⟨h1,h2⟩:=znr (enc:=zcm) (k:=3) (fun _=>rfl) (by decide) (d':=d') (n:=n) (os:=os) hrow hgb hsz;rw [hd] at h1;have hil:(zco (ltOf cmpP) l).length=l.length:=(zbq l).length_eq;refine ⟨rfl,?_,h2⟩;rw [hil];refine h1.own hgb hnc hcm ?_ ?_ ?_
  ·rw [List.length_append,zg6,hil];rw [List.length_append,zg6] at hcl;exact hcl
  ·rw [List.take_of_length_le (by rw [zg6,hil];exact Nat.le_refl _)]
  ·rw [zg6,hil]
theorem zsr {p B:Nat} {ks:List zan} {w:World} (hB:w.cell? ⟨B,0,none⟩=some (.map (some p))) (hm:SetOf zar w p ks) (hL:ks.length<=1099511627776) :
  Calls Tryz.prog 192 #[.func (.func 231) #[] #[.pointer (some ⟨B,0,none⟩)],.func (.func 194) #[] #[]] w fun e w'=>∃ v',e=.returned v'/\Own w' w.heap.size 220 3 v' (zco (ltOf cmpP) ks).length ((zco (ltOf cmpP) ks).flatMap zcm)/\Ext w w':=by
 have H:=zH (zq9 hB hm hL);clear hB hm;go_enter Tryz.func192,Tryz.ntmps192;go_wp2_with fail;refine H.out.mono ?_;rintro e w1 ⟨v',ys,rfl,hp,hv,hx⟩;have H2:=zH (zuf hv hx.size (by have:=hp.length_eq;omega));have HP:=zH hp;clear hv hp;go_wp2_with fail;refine H2.out.mono ?_;rintro e w2 ⟨rfl,hv2,hx2⟩;rw [zld zhm zjs HP.out] at hv2;have HV:=zH hv2;clear hv2;go_wp2_with fail;go_ret;exact⟨_,rfl,HV.out,Below.trans hx hx2⟩
end
end Go.Proofs.YtaabaflgeljbjaaGreat
