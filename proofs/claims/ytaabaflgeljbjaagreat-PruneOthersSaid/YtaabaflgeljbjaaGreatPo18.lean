/- Contracts and plain laws. -/
import Derived.Test.YtaabaflgeljbjaaGreatPo05
import Derived.Test.YtaabaflgeljbjaaGreatPo04
import Derived.Test.YtaabaflgeljbjaaGreatPo17
import Derived.Test.YtaabaflgeljbjaaGreatPo13
set_option linter.unusedVariables false
set_option linter.unusedSimpArgs false
set_option maxRecDepth 100000
set_option maxHeartbeats 40000000
namespace Go.Proofs.YtaabaflgeljbjaaGreat
section
open Go.RowKit
theorem zhm:∀ a b:Str,Lib.compareBytes a b=cmpS a b
 | [],[]=>rfl
 | [],_ :: _=>rfl
 | _ :: _,[]=>rfl
 | a :: x,b :: y=>by
  have ih:=zhm x y;rcases ztr a b with h | rfl | h
  ·have h2:¬ b < a:=UInt8.lt_asymm h;have h3:a ≠ b:=UInt8.ne_of_lt h;simp [Lib.compareBytes,cmpS,ltS,Op.bytesLess,h]
  ·simp only [cmpS,ltS] at ih;simp [Lib.compareBytes,cmpS,ltS,Op.bytesLess,ih]
  ·have h2:¬ a < b:=UInt8.lt_asymm h;have h3:a ≠ b:=(UInt8.ne_of_lt h).symm;simp [Lib.compareBytes,cmpS,ltS,Op.bytesLess,h,h2,h3]
theorem zii (a b:Str) (w:World):Calls Tryz.prog 87 #[St a,St b] w fun e w'=>e=.returned (I (cmpS a b))/\w=w':=by
 refine (Any.strings_Compare Tryz.lays106 ⟨a.toArray⟩ ⟨b.toArray⟩ w).mono ?_;rintro e w' ⟨rfl,rfl⟩;refine ⟨?_,rfl⟩;exact congrArg (fun z=>Ending.returned (I z)) (zhm a b)
theorem zuc (x:Nat) (w:World):Calls Tryz.prog 172 #[U x] w fun e w'=>e=.returned (.bool false)/\w=w':=by
 go_enter Tryz.func172,Tryz.ntmps172;go_wp2;go_ret;exact⟨rfl,rfl⟩
theorem zoo (a b:Nat) (w:World):Calls Tryz.prog 131 #[U a,U b] w fun e w'=>e=.returned (I (cmpN a b))/\w=w':=by
 have H:=zH zuc
 by_cases h1:a < b
 ·have k1:(a:Int) < b:=by omega
  go_enter Tryz.func131,Tryz.ntmps131
  go_wp2_with (go_at_call 172;refine (H.out _ _).mono ?_;rintro e w' ⟨rfl,rfl⟩)
  go_ret;exact⟨by simp [cmpN,h1],rfl⟩
 ·have k1:¬ (a:Int) < b:=by omega
  by_cases h2:b < a
  ·have k2:(a:Int) > b:=(by omega);go_enter Tryz.func131,Tryz.ntmps131
   go_wp2_with (go_at_call 172;refine (H.out _ _).mono ?_;rintro e w' ⟨rfl,rfl⟩)
   go_ret;exact⟨by simp [cmpN,h1,h2],rfl⟩
  ·have k2:¬ (a:Int) > b:=(by omega);go_enter Tryz.func131,Tryz.ntmps131
   go_wp2_with (go_at_call 172;refine (H.out _ _).mono ?_;rintro e w' ⟨rfl,rfl⟩)
   go_ret;exact⟨by simp [cmpN,h1,h2],rfl⟩
theorem zud (a b:Int) {g c:Nat} {w:World} (h0:w.cell? ⟨g,0,none⟩=some (I a)) (h1:w.cell? ⟨g,1,none⟩=some (I b)) :
  Calls Tryz.prog 130 #[.slice (some ⟨g,0,none⟩) 2 c] w fun e w'=>e=.returned (I (orI a b))/\w=w':=by
 go_enter Tryz.func130,Tryz.ntmps130;go_wp2
 go_loop [8] (fun i=>i=I 0 ∨ (i=I 1/\a=0) ∨ (i=I 2/\a=0/\b=0)) (fun i=>2 - (intOf i).toNat)
 case atStart=>exact .inl rfl
 case round =>
  rcases hrel with rfl | ⟨rfl,h⟩ | ⟨rfl,h,h'⟩
  ·by_cases ha:a=0
   ·subst ha;go_wp2
    go_round
    case rel=>simp
    case measure=>simp [intOf]
   ·have ha':(a != 0)=true:=(by simpa using ha);have ha2:(a == 0)=false:=(by simpa using ha);go_wp2;go_ret;exact⟨by simp [orI,ha],rfl⟩
  ·by_cases hb:b=0
   ·subst hb;go_wp2
    go_round
    case rel=>simp [h]
    case measure=>simp [intOf]
   ·have ha':(b != 0)=true:=(by simpa using hb);have ha2:(b == 0)=false:=(by simpa using hb);go_wp2;go_ret;exact⟨by simp [orI,h],rfl⟩
  ·go_wp2;go_ret;exact⟨by simp [orI,h,h'],rfl⟩
end
section
open Go.RowKit
theorem zkj (W:World) (a b c:Obj):(((W.alloc a).alloc b).alloc c).drew=Go.Sort.grow (W.drewN 1) #[a,b,c]:=by
 rw [Go.Sort.alloc_eq_grow,Go.Sort.alloc_eq_grow,Go.Sort.alloc_eq_grow]
 rfl
theorem zv8 (W:World) (q:Nat) (os:Array Obj):Ext W (Go.Sort.grow (W.drewN q) os) :=
 ⟨rfl,rfl,rfl,by simp [Go.Sort.grow],fun k hk=>by
  unfold Go.Sort.grow;rw [Array.getElem?_append_left (by exact hk)]
  rfl⟩
theorem zue (a b:Mark) (W:World):Calls Tryz.prog 129 #[.agg #[St a.1,U a.2],.agg #[St b.1,U b.2]] W fun e w'=>e=.returned (I (cmpM a b))/\∃ q os,w'=Go.Sort.grow (W.drewN q) os:=by
 have H1:=zH zii;have H2:=zH zoo;have H3:=zH @zud;go_enter Tryz.func129,Tryz.ntmps129;go_wp2_with fail
 go_region_held3 (fun w'=>w'.cell? ⟨W.heap.size,0,none⟩=some (St a.1)/\w'.cell? ⟨W.heap.size,1,none⟩=some (U a.2)/\w'.cell? ⟨W.heap.size+1,0,none⟩=some (St b.1)/\w'.cell? ⟨W.heap.size+1,1,none⟩=some (U b.2)) (first | (simp [go_sem];done)) (first | (go_at_call 87;refine (H1.out _ _ _).mono ?_;rintro e w' ⟨rfl,rfl⟩) | (go_at_call 131;refine (H2.out _ _ _).mono ?_;rintro e w' ⟨rfl,rfl⟩) | (go_at_call 130;refine (H3.out (cmpS a.1 b.1) (cmpN b.2 a.2) (by simp [go_sem]) (by simp [go_sem])).mono ?_;rintro e w' ⟨rfl,rfl⟩))
 go_wp2;go_ret;exact⟨rfl,1,_,zkj _ _ _ _⟩
theorem zuf {v:Value} {l:List Mark} {w:World} {base:Nat} (hv:Own w base 97 2 v l.length (l.flatMap zae)) (hbase:base<=w.heap.size) (hl:l.length<=1099511627776) :
  Calls Tryz.prog 128 #[v,.func (.func 129) #[] #[]] w fun e w'=>e=.returned (.tuple #[]) /\
   Own w' base 97 2 v (zb7 (ltOf cmpM) l).length ((zb7 (ltOf cmpM) l).flatMap zae)/\Below base w w':=by
 rcases Nat.eq_zero_or_pos l.length with h0 | h0
 ·obtain rfl:l = []:=List.eq_nil_of_length_eq_zero h0;obtain⟨A,c,rfl,-,-⟩:=hv.form;have hcon:=AnyF.slices_SortFunc_none Tryz.sortMark A c (.func (.func 129) #[] #[]) w;exact Calls.mono hcon fun e w' ⟨he,hw⟩=>⟨he,by rw [hw];exact hv,by rw [hw];exact Below.refl _ _⟩
 ·obtain⟨gb,cap,tail,rfl,hgb,hrow,hnc,hcm,hcl⟩:=hv.row h0;have eg:∀ args w,(callFunc 129 args).run Tryz.prog w=.ok (.enter 129 args) w:=enters_of Tryz.func129 (by kernel_rfl) rfl;have hH:Go.Sort.HoldsK zae 2 w gb 0 l.toArray:=zi9 (F:=Go.Sort.flatK zae 2 l.toArray) (by rw [zg4 (enc:=zae) (k:=2) (fun _=>rfl) (by decide)];exact hrow)
  have hcon:=AnyQ.slices_SortFunc Tryz.sortMark 2 Tryz.isAgg97 Tryz.sizeOf97 zae (fun _=>rfl) (fun x v hv=>by simp [zae] at hv;rcases hv with rfl | rfl <;> rfl) cmpM zie 129 #[] gb 0 cap l.toArray w eg
   (fun _ _ _ _ x y=>zue x y _) hH hrow.lt (by simp;omega)
  refine hcon.mono ?_;rintro e w' ⟨rfl,d',n,os,hp,hs,rfl⟩;have hd:=zq9 zie zms hp hs;have hsz:d'.size=l.length:=by simpa using hp.1
  obtain⟨h1,h2⟩:=zll (enc:=zae) (k:=2) (fun _=>rfl) (by decide) (d':=d') (n:=n) (os:=os) hrow hgb hsz;rw [hd] at h1;have hil:(zb7 (ltOf cmpM) l).length=l.length:=(zbh l).length_eq;refine ⟨rfl,?_,h2⟩;rw [hil];refine h1.own hgb hnc hcm ?_ ?_ ?_
  ·rw [List.length_append,zbr,hil];rw [List.length_append,zbr] at hcl;exact hcl
  ·rw [List.take_of_length_le (by rw [zbr,hil];exact Nat.le_refl _)]
  ·rw [zbr,hil]
theorem zug (m:Mark) (W:World):Calls Tryz.prog 127 #[.agg #[St m.1,U m.2]] W fun e w'=>e=.returned (.bool (noM m))/\Ext W w':=by
 obtain⟨s,n⟩:=m
 cases s with
 | nil=>go_enter Tryz.func127,Tryz.ntmps127;go_wp2;go_ret;exact⟨by simp [noM],(Ext.refl _).alloc _⟩
 | cons a r =>
  cases n with
  | zero=>go_enter Tryz.func127,Tryz.ntmps127;go_wp2;go_ret;exact⟨by simp [noM],(Ext.refl _).alloc _⟩
  | succ n=>have h0:(((n+1:Nat):Int) == 0)=false:=(by rw [beq_eq_false_iff_ne];omega);have h1:((n:Int)+1 == 0)=false:=(by rw [beq_eq_false_iff_ne];omega);go_enter Tryz.func127,Tryz.ntmps127;go_wp2;go_ret;exact⟨by simp [noM],(Ext.refl _).alloc _⟩
theorem zrx (base:Nat):PredM Tryz.prog 127 #[] base (fun _=>True) noM where
 enters:=enters_of Tryz.func127 (by kernel_rfl) rfl
 keep _ _ _ _:=trivial
 does m W _:=zug m W
theorem zd1 (l:List Mark):(za8 l).length<=l.length:=by
 have h1:∀ (a:Mark) (l:List Mark),(za1 a l).length<=l.length:=by
  intro a l
  induction l generalizing a with
  | nil=>simp [za1]
  | cons b r ih=>unfold za1;split;exact Nat.le_succ_of_le (ih b);simpa using ih b
 have h2:∀ l:List Mark,(zbm l).length<=l.length:=by
  intro l
  cases l with
  | nil=>simp [zbm]
  | cons a r=>simpa [zbm] using h1 a r
 refine Nat.le_trans (h2 _) ?_;rw [(zbh _).length_eq];exact List.length_filter_le _ _
theorem zhb {S:Nat->Prop} {v:Value} {l:List Mark} {w:World} (hv:Sl zap w S v l) (hl:l.length<=1099511627776) :
  Calls Tryz.prog 83 #[v] w fun e w'=>∃ v',e=.returned v'/\Own w' w.heap.size 97 2 v' (za8 l).length ((za8 l).flatMap zae)/\Ext w w':=by
 have H1:=zH (zfi hv hl);clear hv;go_enter Tryz.func83,Tryz.ntmps83;go_wp2_with fail;refine H1.out.mono ?_;rintro e w1 ⟨v1,rfl,hv1,hx1⟩;have H2:=zH (zki (own_markT.1 hv1) (zrx w.heap.size) trivial hx1.size);clear hv1;go_wp2_with fail;refine H2.out.mono ?_;rintro e w2 ⟨v2,rfl,hv2,hx2⟩;have hfl:(l.filter fun m=>!noM m).length<=1099511627776:=Nat.le_trans (List.length_filter_le _ _) hl;have hx12:Ext w w2:=Below.trans hx1 hx2;have H3:=zH (zuf hv2 hx12.size hfl);clear hv2;go_wp2_with fail;refine H3.out.mono ?_;rintro e w3 ⟨rfl,hv3,hx3⟩;have hx13:Ext w w3:=Below.trans hx12 hx3;have H4:=zH (zon hv3 hx13.size);clear hv3;go_wp2_with fail;refine H4.out.mono ?_;rintro e w4 ⟨v4,rfl,hv4,hx4⟩;have HV:=zH hv4;clear hv4;go_wp2_with fail;go_ret;exact⟨_,rfl,HV.out,Below.trans hx13 hx4⟩
end
section
open Go.RowKit
abbrev zez (c:Cell):Value:=.agg #[U c.1,St c.2.1,.bool c.2.2]
def mayC (c:Cell):Bool:=if c.1=0 then c.2.1.isEmpty && !c.2.2 else decide (c.1<=281474976710656) && decide (c.2.1.length<=4096) && !(c.2.2 && !c.2.1.isEmpty)
def zbv (c:Cell):Str × Bool:=if c.1=0 ∨ c.2.2=true then ([],false) else (c.2.1,true)
theorem zwg (c:Cell) (w:World):Calls Tryz.prog 80 #[zez c] w fun e w'=>e=.returned (.bool (mayC c))/\Ext w w':=by
 obtain⟨n,s,g⟩:=c
 cases n with
 | zero =>
  cases s with
  | nil =>
   cases g <;>
   ·go_enter Tryz.func80,Tryz.ntmps80;go_wp2;go_ret;exact⟨by simp [mayC],(Ext.refl _).alloc _⟩
  | cons x r =>
   have e1:((x :: r).toArray == (#[]:Array UInt8))=false:=by simp
   cases g <;>
   ·go_enter Tryz.func80,Tryz.ntmps80;go_wp2;go_ret;exact⟨by simp [mayC],(Ext.refl _).alloc _⟩
 | succ n =>
  have h0:(((n+1:Nat):Int) == 0)=false:=by rw [beq_eq_false_iff_ne];omega
  have h1:((n:Int)+1 == 0)=false:=by rw [beq_eq_false_iff_ne];omega
  by_cases r1:n+1<=281474976710656
  ·have r2:((n:Int)+1<=281474976710656):=by omega
   by_cases r3:s.length<=4096
   ·have r4:(s.length:Int)<=4096:=by omega
    by_cases hs:s = []
    ·subst hs
     cases g <;>
     ·go_enter Tryz.func80,Tryz.ntmps80;go_wp2;go_ret;exact⟨by simp [mayC];omega,(Ext.refl _).alloc _⟩
    ·have e1:(s.toArray == (#[]:Array UInt8))=false:=(by simpa using hs);have e2:s.isEmpty=false:=(by simpa using hs);have HM:=zH (show mayC (n+1,s,g) = !g by simp [mayC,r1,r3,hs]);clear hs r1 r3
     cases g <;>
     ·go_enter Tryz.func80,Tryz.ntmps80;go_wp2;go_ret;exact⟨by rw [HM.out];first | rfl | simp [e2],(Ext.refl _).alloc _⟩
   ·have r4:¬ (s.length:Int)<=4096:=(by omega);go_enter Tryz.func80,Tryz.ntmps80;go_wp2;go_ret;exact⟨by simp [mayC];omega,(Ext.refl _).alloc _⟩
  ·have r2:¬ ((n:Int)+1<=281474976710656):=(by omega);go_enter Tryz.func80,Tryz.ntmps80;go_wp2;go_ret;exact⟨by simp [mayC];omega,(Ext.refl _).alloc _⟩
theorem zur (c:Cell) (w:World):Calls Tryz.prog 105 #[zez c] w fun e w'=>e=.returned (.tuple #[St (zbv c).1,.bool (zbv c).2])/\Ext w w':=by
 obtain⟨n,s,g⟩:=c
 cases n with
 | zero =>
  cases g <;>
  ·go_enter Tryz.func105,Tryz.ntmps105;go_wp2
   go_ret2
   exact⟨by simp [zbv],(Ext.refl _).alloc _⟩
 | succ n =>
  have h0:(((n+1:Nat):Int) == 0)=false:=by rw [beq_eq_false_iff_ne];omega
  have h1:((n:Int)+1 == 0)=false:=by rw [beq_eq_false_iff_ne];omega
  cases g <;>
  ·go_enter Tryz.func105,Tryz.ntmps105;go_wp2
   go_ret2
   exact⟨by simp [zbv],(Ext.refl _).alloc _⟩
end
end Go.Proofs.YtaabaflgeljbjaaGreat
