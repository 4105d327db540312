/- Laws. -/
import Derived.Test.YtaabaflgeljbjaaGreatPr05
import Derived.Test.YtaabaflgeljbjaaGreatPr04
import Derived.Test.YtaabaflgeljbjaaGreatPr13
import Derived.Test.YtaabaflgeljbjaaGreatPr12
set_option linter.unusedVariables false
set_option linter.unusedSimpArgs false
set_option maxRecDepth 100000
set_option maxHeartbeats 40000000
namespace Go.Proofs.YtaabaflgeljbjaaGreat
section
open Go.RowKit
theorem zjr:∀ a b:Str,Lib.compareBytes a b=cmpS a b
 | [],[]=>rfl
 | [],_ :: _=>rfl
 | _ :: _,[]=>rfl
 | a :: x,b :: y=>by
  have ih:=zjr x y;rcases zv8 a b with h | rfl | h
  ·have h2:¬ b < a:=UInt8.lt_asymm h;have h3:a ≠ b:=UInt8.ne_of_lt h;simp [Lib.compareBytes,cmpS,ltS,Op.bytesLess,h]
  ·simp only [cmpS,ltS] at ih;simp [Lib.compareBytes,cmpS,ltS,Op.bytesLess,ih]
  ·have h2:¬ a < b:=UInt8.lt_asymm h;have h3:a ≠ b:=(UInt8.ne_of_lt h).symm;simp [Lib.compareBytes,cmpS,ltS,Op.bytesLess,h,h2,h3]
theorem zhl (a b:Str) (w:World):Calls Tryz.prog 87 #[St a,St b] w fun e w'=>e=.returned (I (cmpS a b))/\w=w':=by
 refine (Any.strings_Compare Tryz.lays106 ⟨a.toArray⟩ ⟨b.toArray⟩ w).mono ?_;rintro e w' ⟨rfl,rfl⟩;refine ⟨?_,rfl⟩;exact congrArg (fun z=>Ending.returned (I z)) (zjr a b)
theorem zwj (x:Nat) (w:World):Calls Tryz.prog 172 #[U x] w fun e w'=>e=.returned (.bool false)/\w=w':=by
 go_enter Tryz.func172,Tryz.ntmps172;go_wp2;go_ret;exact⟨rfl,rfl⟩
theorem zt6 (x:Int) (w:World):Calls Tryz.prog 233 #[I x] w fun e w'=>e=.returned (.bool false)/\w=w':=by
 go_enter Tryz.func233,Tryz.ntmps233;go_wp2;go_ret;exact⟨rfl,rfl⟩
theorem zm8 (a b:Nat) (w:World):Calls Tryz.prog 131 #[U a,U b] w fun e w'=>e=.returned (I (cmpN a b))/\w=w':=by
 have H:=zH zwj
 by_cases h1:a < b
 ·have k1:(a:Int) < b:=by omega
  go_enter Tryz.func131,Tryz.ntmps131
  go_wp2_with (go_at_call 172;refine (H.out _ _).mono ?_;rintro e w' ⟨rfl,rfl⟩)
  go_ret;exact⟨by simp [cmpN,h1],rfl⟩
 ·have k1:¬ (a:Int) < b:=by omega
  by_cases h2:b < a
  ·have k2:(a:Int) > b:=(by omega);go_enter Tryz.func131,Tryz.ntmps131
   go_wp2_with (go_at_call 172;refine (H.out _ _).mono ?_;rintro e w' ⟨rfl,rfl⟩)
   go_ret;exact⟨by simp [cmpN,h1,h2],rfl⟩
  ·have k2:¬ (a:Int) > b:=(by omega);go_enter Tryz.func131,Tryz.ntmps131
   go_wp2_with (go_at_call 172;refine (H.out _ _).mono ?_;rintro e w' ⟨rfl,rfl⟩)
   go_ret;exact⟨by simp [cmpN,h1,h2],rfl⟩
def cmpI (a b:Int):Int:=if a < b then -1 else if b < a then 1 else 0
theorem zy2 (a b:Int) (w:World):Calls Tryz.prog 207 #[I a,I b] w fun e w'=>e=.returned (I (cmpI a b))/\w=w':=by
 have H:=zH zt6
 by_cases h1:a < b
 ·go_enter Tryz.func207,Tryz.ntmps207
  go_wp2_with (go_at_call 233;refine (H.out _ _).mono ?_;rintro e w' ⟨rfl,rfl⟩)
  go_ret;exact⟨by simp [cmpI,h1],rfl⟩
 ·by_cases h2:b < a
  ·have k2:a > b:=(by omega);go_enter Tryz.func207,Tryz.ntmps207
   go_wp2_with (go_at_call 233;refine (H.out _ _).mono ?_;rintro e w' ⟨rfl,rfl⟩)
   go_ret;exact⟨by simp [cmpI,h1,h2],rfl⟩
  ·have k2:¬ a > b:=(by omega);go_enter Tryz.func207,Tryz.ntmps207
   go_wp2_with (go_at_call 233;refine (H.out _ _).mono ?_;rintro e w' ⟨rfl,rfl⟩)
   go_ret;exact⟨by unfold cmpI;rw [if_neg (by omega),if_neg (by omega)];rfl,rfl⟩
theorem zwk (a b:Int) {g c:Nat} {w:World} (h0:w.cell? ⟨g,0,none⟩=some (I a)) (h1:w.cell? ⟨g,1,none⟩=some (I b)) :
  Calls Tryz.prog 130 #[.slice (some ⟨g,0,none⟩) 2 c] w fun e w'=>e=.returned (I (orI a b))/\w=w':=by
 go_enter Tryz.func130,Tryz.ntmps130;go_wp2
 go_loop [8] (fun i=>i=I 0 ∨ (i=I 1/\a=0) ∨ (i=I 2/\a=0/\b=0)) (fun i=>2 - (intOf i).toNat)
 case atStart=>exact .inl rfl
 case round =>
  rcases hrel with rfl | ⟨rfl,h⟩ | ⟨rfl,h,h'⟩
  ·by_cases ha:a=0
   ·subst ha;go_wp2
    go_round
    case rel=>simp
    case measure=>simp [intOf]
   ·have ha':(a != 0)=true:=(by simpa using ha);have ha2:(a == 0)=false:=(by simpa using ha);go_wp2;go_ret;exact⟨by simp [orI,ha],rfl⟩
  ·by_cases hb:b=0
   ·subst hb;go_wp2
    go_round
    case rel=>simp [h]
    case measure=>simp [intOf]
   ·have ha':(b != 0)=true:=(by simpa using hb);have ha2:(b == 0)=false:=(by simpa using hb);go_wp2;go_ret;exact⟨by simp [orI,h],rfl⟩
  ·go_wp2;go_ret;exact⟨by simp [orI,h,h'],rfl⟩
theorem zmo (W:World) (a b c:Obj):(((W.alloc a).alloc b).alloc c).drew=Go.Sort.grow (W.drewN 1) #[a,b,c]:=by
 rw [Go.Sort.alloc_eq_grow,Go.Sort.alloc_eq_grow,Go.Sort.alloc_eq_grow]
 rfl
theorem zy3 (W:World) (q:Nat) (os:Array Obj):Ext W (Go.Sort.grow (W.drewN q) os) :=
 ⟨rfl,rfl,rfl,by simp [Go.Sort.grow],fun k hk=>by
  unfold Go.Sort.grow;rw [Array.getElem?_append_left (by exact hk)]
  rfl⟩
theorem zwl (a b:Mark) (W:World):Calls Tryz.prog 129 #[.agg #[St a.1,U a.2],.agg #[St b.1,U b.2]] W fun e w'=>e=.returned (I (cmpM a b))/\∃ q os,w'=Go.Sort.grow (W.drewN q) os:=by
 have H1:=zH zhl;have H2:=zH zm8;have H3:=zH @zwk;go_enter Tryz.func129,Tryz.ntmps129;go_wp2_with fail
 go_region_held3 (fun w'=>w'.cell? ⟨W.heap.size,0,none⟩=some (St a.1)/\w'.cell? ⟨W.heap.size,1,none⟩=some (U a.2)/\w'.cell? ⟨W.heap.size+1,0,none⟩=some (St b.1)/\w'.cell? ⟨W.heap.size+1,1,none⟩=some (U b.2)) (first | (simp [go_sem];done)) (first | (go_at_call 87;refine (H1.out _ _ _).mono ?_;rintro e w' ⟨rfl,rfl⟩) | (go_at_call 131;refine (H2.out _ _ _).mono ?_;rintro e w' ⟨rfl,rfl⟩) | (go_at_call 130;refine (H3.out (cmpS a.1 b.1) (cmpN b.2 a.2) (by simp [go_sem]) (by simp [go_sem])).mono ?_;rintro e w' ⟨rfl,rfl⟩))
 go_wp2;go_ret;exact⟨rfl,1,_,zmo _ _ _ _⟩
theorem zwm {v:Value} {l:List Mark} {w:World} {base:Nat} (hv:Own w base 97 2 v l.length (l.flatMap zaj)) (hbase:base<=w.heap.size) (hl:l.length<=1099511627776) :
  Calls Tryz.prog 128 #[v,.func (.func 129) #[] #[]] w fun e w'=>e=.returned (.tuple #[]) /\
   Own w' base 97 2 v (zco (ltOf cmpM) l).length ((zco (ltOf cmpM) l).flatMap zaj)/\Below base w w':=by
 rcases Nat.eq_zero_or_pos l.length with h0 | h0
 ·obtain rfl:l = []:=List.eq_nil_of_length_eq_zero h0;obtain⟨A,c,rfl,-,-⟩:=hv.form;have hcon:=AnyF.slices_SortFunc_none Tryz.sortMark A c (.func (.func 129) #[] #[]) w;exact Calls.mono hcon fun e w' ⟨he,hw⟩=>⟨he,by rw [hw];exact hv,by rw [hw];exact Below.refl _ _⟩
 ·obtain⟨gb,cap,tail,rfl,hgb,hrow,hnc,hcm,hcl⟩:=hv.row h0;have eg:∀ args w,(callFunc 129 args).run Tryz.prog w=.ok (.enter 129 args) w:=enters_of Tryz.func129 (by kernel_rfl) rfl;have hH:Go.Sort.HoldsK zaj 2 w gb 0 l.toArray:=zjp (F:=Go.Sort.flatK zaj 2 l.toArray) (by rw [zi4 (enc:=zaj) (k:=2) (fun _=>rfl) (by decide)];exact hrow)
  have hcon:=AnyQ.slices_SortFunc Tryz.sortMark 2 Tryz.isAgg97 Tryz.sizeOf97 zaj (fun _=>rfl) (fun x v hv=>by simp [zaj] at hv;rcases hv with rfl | rfl <;> rfl) cmpM zkn 129 #[] gb 0 cap l.toArray w eg
   (fun _ _ _ _ x y=>zwl x y _) hH hrow.lt (by simp;omega)
  refine hcon.mono ?_;rintro e w' ⟨rfl,d',n,os,hp,hs,rfl⟩;have hd:=ztu zkn zo8 hp hs;have hsz:d'.size=l.length:=by simpa using hp.1
  obtain⟨h1,h2⟩:=znr (enc:=zaj) (k:=2) (fun _=>rfl) (by decide) (d':=d') (n:=n) (os:=os) hrow hgb hsz;rw [hd] at h1;have hil:(zco (ltOf cmpM) l).length=l.length:=(zbq l).length_eq;refine ⟨rfl,?_,h2⟩;rw [hil];refine h1.own hgb hnc hcm ?_ ?_ ?_
  ·rw [List.length_append,zb4,hil];rw [List.length_append,zb4] at hcl;exact hcl
  ·rw [List.take_of_length_le (by rw [zb4,hil];exact Nat.le_refl _)]
  ·rw [zb4,hil]
theorem zwn (m:Mark) (W:World):Calls Tryz.prog 127 #[.agg #[St m.1,U m.2]] W fun e w'=>e=.returned (.bool (noM m))/\Ext W w':=by
 obtain⟨s,n⟩:=m
 cases s with
 | nil=>go_enter Tryz.func127,Tryz.ntmps127;go_wp2;go_ret;exact⟨by simp [noM],(Ext.refl _).alloc _⟩
 | cons a r =>
  cases n with
  | zero=>go_enter Tryz.func127,Tryz.ntmps127;go_wp2;go_ret;exact⟨by simp [noM],(Ext.refl _).alloc _⟩
  | succ n=>have h0:(((n+1:Nat):Int) == 0)=false:=(by rw [beq_eq_false_iff_ne];omega);have h1:((n:Int)+1 == 0)=false:=(by rw [beq_eq_false_iff_ne];omega);go_enter Tryz.func127,Tryz.ntmps127;go_wp2;go_ret;exact⟨by simp [noM],(Ext.refl _).alloc _⟩
theorem zt7 (base:Nat):PredM Tryz.prog 127 #[] base (fun _=>True) noM where
 enters:=enters_of Tryz.func127 (by kernel_rfl) rfl
 keep _ _ _ _:=trivial
 does m W _:=zwn m W
theorem zeo (l:List Mark):(zbu l).length<=l.length:=by
 have h1:∀ (a:Mark) (l:List Mark),(za6 a l).length<=l.length:=by
  intro a l
  induction l generalizing a with
  | nil=>simp [za6]
  | cons b r ih=>unfold za6;split;exact Nat.le_succ_of_le (ih b);simpa using ih b
 have h2:∀ l:List Mark,(zb0 l).length<=l.length:=by
  intro l
  cases l with
  | nil=>simp [zb0]
  | cons a r=>simpa [zb0] using h1 a r
 refine Nat.le_trans (h2 _) ?_;rw [(zbq _).length_eq];exact List.length_filter_le _ _
theorem zi9 {S:Nat->Prop} {v:Value} {l:List Mark} {w:World} (hv:Sl markT w S v l) (hl:l.length<=1099511627776) :
  Calls Tryz.prog 83 #[v] w fun e w'=>∃ v',e=.returned v'/\Own w' w.heap.size 97 2 v' (zbu l).length ((zbu l).flatMap zaj)/\Ext w w':=by
 have H1:=zH (zik hv hl);clear hv;go_enter Tryz.func83,Tryz.ntmps83;go_wp2_with fail;refine H1.out.mono ?_;rintro e w1 ⟨v1,rfl,hv1,hx1⟩;have H2:=zH (zmn (own_markT.1 hv1) (zt7 w.heap.size) trivial hx1.size);clear hv1;go_wp2_with fail;refine H2.out.mono ?_;rintro e w2 ⟨v2,rfl,hv2,hx2⟩;have hfl:(l.filter fun m=>!noM m).length<=1099511627776:=Nat.le_trans (List.length_filter_le _ _) hl;have hx12:Ext w w2:=Below.trans hx1 hx2;have H3:=zH (zwm hv2 hx12.size hfl);clear hv2;go_wp2_with fail;refine H3.out.mono ?_;rintro e w3 ⟨rfl,hv3,hx3⟩;have hx13:Ext w w3:=Below.trans hx12 hx3;have H4:=zH (zq3 hv3 hx13.size);clear hv3;go_wp2_with fail;refine H4.out.mono ?_;rintro e w4 ⟨v4,rfl,hv4,hx4⟩;have HV:=zH hv4;clear hv4;go_wp2_with fail;go_ret;exact⟨_,rfl,HV.out,Below.trans hx13 hx4⟩
abbrev zdc (c:Cell):Value:=.agg #[U c.1,St c.2.1,.bool c.2.2]
def zbv (c:Cell):Int:=if c.2.2 then 0 else 1
def cmpC (a b:Cell):Int:=orI (cmpN a.1 b.1) (orI (cmpI (zbv a) (zbv b)) (cmpS a.2.1 b.2.1))
def ze0 (a b:Cell):Cell:=if cmpC a b < 0 then b else a
def mayC (c:Cell):Bool:=if c.1=0 then c.2.1.isEmpty && !c.2.2 else decide (c.1<=281474976710656) && decide (c.2.1.length<=4096) && !(c.2.2 && !c.2.1.isEmpty)
def zio (c:Cell):Str × Bool:=if c.1=0 ∨ c.2.2=true then ([],false) else (c.2.1,true)
theorem zw6 (c:Cell) (W:World):Calls Tryz.prog 208 #[zdc c] W fun e w'=>e=.returned (I (zbv c))/\Ext W w':=by
 obtain⟨n,s,g⟩:=c;cases g
 ·go_enter Tryz.func208,Tryz.ntmps208;go_wp2;go_ret;exact⟨rfl,(Ext.refl _).alloc _⟩
 ·go_enter Tryz.func208,Tryz.ntmps208;go_wp2;go_ret;exact⟨rfl,(Ext.refl _).alloc _⟩
abbrev BoxC (W:World) (b:Nat) (c:Cell):Prop:=W.cell? ⟨b,0,none⟩=some (U c.1)/\W.cell? ⟨b,1,none⟩=some (St c.2.1)/\W.cell? ⟨b,2,none⟩=some (.bool c.2.2)
theorem zw7 {a b:Cell} {ba bb:Nat} {W:World} (ha:BoxC W ba a) (hb:BoxC W bb b):Calls Tryz.prog 205 #[.pointer (some ⟨ba,0,none⟩),.pointer (some ⟨bb,0,none⟩)] W fun e w'=>e=.returned (I (cmpN a.1 b.1))/\Ext W w':=by
 have H2:=zH zm8;obtain⟨h1,-,-⟩:=ha;obtain⟨h2,-,-⟩:=hb;go_enter Tryz.func205,Tryz.ntmps205;go_wp2_with fail;refine (H2.out _ _ _).mono ?_;rintro e w' ⟨rfl,rfl⟩;go_wp2;go_ret;exact⟨rfl,Ext.refl _⟩
theorem zw8 {a b:Cell} {ba bb:Nat} {W:World} (ha:BoxC W ba a) (hb:BoxC W bb b):Calls Tryz.prog 206 #[.pointer (some ⟨ba,0,none⟩),.pointer (some ⟨bb,0,none⟩)] W fun e w'=>e=.returned (I (cmpI (zbv a) (zbv b)))/\Ext W w':=by
 have H1:=zH zw6;have H2:=zH zy2;obtain⟨h0,h1,h2⟩:=ha;obtain⟨k0,k1,k2⟩:=hb;go_enter Tryz.func206,Tryz.ntmps206;go_wp2_with fail
 go_region_held3 (fun w'=>w'.cell? ⟨ba,0,none⟩=some (U a.1)/\w'.cell? ⟨ba,1,none⟩=some (St a.2.1)/\w'.cell? ⟨ba,2,none⟩=some (.bool a.2.2)/\w'.cell? ⟨bb,0,none⟩=some (U b.1)/\w'.cell? ⟨bb,1,none⟩=some (St b.2.1)/\w'.cell? ⟨bb,2,none⟩=some (.bool b.2.2)/\Ext W w')
  (first | exact⟨by simpa [go_sem] using h0,by simpa [go_sem] using h1,by simpa [go_sem] using h2,by simpa [go_sem] using k0,by simpa [go_sem] using k1,by simpa [go_sem] using k2,(Ext.refl _).drew⟩ | exact⟨hb1.cell ‹_/\_/\_/\_/\_/\_/\Ext W _›.1,hb1.cell ‹_/\_/\_/\_/\_/\_/\Ext W _›.2.1,hb1.cell ‹_/\_/\_/\_/\_/\_/\Ext W _›.2.2.1,hb1.cell ‹_/\_/\_/\_/\_/\_/\Ext W _›.2.2.2.1,hb1.cell ‹_/\_/\_/\_/\_/\_/\Ext W _›.2.2.2.2.1,hb1.cell ‹_/\_/\_/\_/\_/\_/\Ext W _›.2.2.2.2.2.1,‹_/\_/\_/\_/\_/\_/\Ext W _›.2.2.2.2.2.2.trans hb1⟩ | exact ‹_/\_/\_/\_/\_/\_/\Ext W _›)
  (first | (go_at_call 208;refine (H1.out _ _).mono ?_;rintro e w1 ⟨rfl,hb1⟩) | (go_at_call 207;refine (H2.out _ _ _).mono ?_;rintro e w' ⟨rfl,rfl⟩))
 go_wp2;go_ret;exact⟨rfl,‹_/\_/\_/\_/\_/\_/\Ext W _›.2.2.2.2.2.2⟩
theorem zw9 {a b:Cell} {ba bb:Nat} {W:World} (ha:BoxC W ba a) (hb:BoxC W bb b):Calls Tryz.prog 209 #[.pointer (some ⟨ba,0,none⟩),.pointer (some ⟨bb,0,none⟩)] W fun e w'=>e=.returned (I (cmpS a.2.1 b.2.1))/\Ext W w':=by
 have H2:=zH zhl;obtain⟨-,h1,-⟩:=ha;obtain⟨-,h2,-⟩:=hb;go_enter Tryz.func209,Tryz.ntmps209;go_wp2_with fail;refine (H2.out _ _ _).mono ?_;rintro e w' ⟨rfl,rfl⟩;go_wp2;go_ret;exact⟨rfl,Ext.refl _⟩
abbrev capC (w:World):Array Value:=#[.pointer (some ⟨w.heap.size,0,none⟩),.pointer (some ⟨w.heap.size+1,0,none⟩)]
abbrev CmpAt (w W:World) (a b:Cell):Prop:=(BoxC W w.heap.size a/\BoxC W (w.heap.size+1) b)/\(W.cell? ⟨w.heap.size+2,0,none⟩=some (.func (.func 205) #[] (capC w))/\W.cell? ⟨w.heap.size+2,1,none⟩=some (.func (.func 206) #[] (capC w))/\W.cell? ⟨w.heap.size+2,2,none⟩=some (.func (.func 209) #[] (capC w)))/\Ext w W
theorem zjf (b:Int):orI 0 b=b:=by simp [orI]
theorem zxa {a:Int} (h:a ≠ 0) (b:Int):orI a b=a:=by simp [orI,h]
theorem CmpAt.ext {w W W':World} {a b:Cell} (h:CmpAt w W a b) (k:Ext W W'):CmpAt w W' a b :=
 ⟨⟨⟨k.cell h.1.1.1,k.cell h.1.1.2.1,k.cell h.1.1.2.2⟩,⟨k.cell h.1.2.1,k.cell h.1.2.2.1,k.cell h.1.2.2.2⟩⟩,⟨k.cell h.2.1.1,k.cell h.2.1.2.1,k.cell h.2.1.2.2⟩,h.2.2.trans k⟩
theorem zze (a b:Cell) (w:World):Calls Tryz.prog 159 #[zdc a,zdc b] w fun e w'=>e=.returned (I (cmpC a b))/\Ext w w':=by
 have e1:∀ args w,(callFunc 205 args).run Tryz.prog w=.ok (.enter 205 args) w:=enters_of Tryz.func205 (by kernel_rfl) rfl;have e2:∀ args w,(callFunc 206 args).run Tryz.prog w=.ok (.enter 206 args) w:=enters_of Tryz.func206 (by kernel_rfl) rfl;have e3:∀ args w,(callFunc 209 args).run Tryz.prog w=.ok (.enter 209 args) w:=enters_of Tryz.func209 (by kernel_rfl) rfl;go_enter Tryz.func159,Tryz.ntmps159;go_wp2_with fail
 go_loopw [15] (fun i wr=>∃ k:Nat,i=I k/\((k=0) ∨ (k=1/\cmpN a.1 b.1=0) ∨ (k=2/\cmpN a.1 b.1=0/\cmpI (zbv a) (zbv b)=0) ∨ (k=3/\cmpC a b=0))/\CmpAt w wr a b) (fun i _=>3 - (intOf i).toNat)
 case atStart=>exact⟨0,rfl,.inl rfl,⟨⟨by simp [go_sem],by simp [go_sem],by simp [go_sem]⟩,⟨by simp [go_sem],by simp [go_sem],by simp [go_sem]⟩⟩,⟨by simp [go_sem],by simp [go_sem],by simp [go_sem]⟩,(((Ext.refl w).alloc _).alloc _).alloc _⟩
 case round =>
  obtain⟨k,rfl,hk,hC⟩:=hrel;have H1:=zH (zw7 hC.1.1 hC.1.2);have H2:=zH (zw8 hC.1.1 hC.1.2);have H3:=zH (zw9 hC.1.1 hC.1.2);have HC:=zH hC;obtain⟨-,⟨f0,f1,f2⟩,-⟩:=hC;rcases hk with rfl | ⟨rfl,q1⟩ | ⟨rfl,q1,q2⟩ | ⟨rfl,q⟩
  ·clear H2 H3
   by_cases hz:cmpN a.1 b.1=0
   ·have HZ:=zH hz;rw [hz] at H1;clear hz;go_wp2_with fail;refine H1.out.mono ?_;rintro e w1 ⟨rfl,hb1⟩;go_wp2;go_roundw
    case rel=>exact⟨1,rfl,.inr (.inl ⟨rfl,HZ.out⟩),HC.out.ext hb1⟩
    case measure=>simp [intOf]
   ·have hz':(cmpN a.1 b.1 == 0)=false:=(by rw [beq_eq_false_iff_ne];exact hz);have HZ:=zH hz;clear hz;go_wp2_with fail;refine H1.out.mono ?_;rintro e w1 ⟨rfl,hb1⟩;go_wp2;go_ret;exact⟨by rw [cmpC,zxa HZ.out];rfl,HC.out.2.2.trans hb1⟩
  ·clear H1 H3;have Q1:=zH q1;clear q1
   by_cases hz:cmpI (zbv a) (zbv b)=0
   ·have HZ:=zH hz;rw [hz] at H2;clear hz;go_wp2_with fail;refine H2.out.mono ?_;rintro e w1 ⟨rfl,hb1⟩;go_wp2;go_roundw
    case rel=>exact⟨2,rfl,.inr (.inr (.inl ⟨rfl,Q1.out,HZ.out⟩)),HC.out.ext hb1⟩
    case measure=>simp [intOf]
   ·have hz':(cmpI (zbv a) (zbv b) == 0)=false:=(by rw [beq_eq_false_iff_ne];exact hz);have HZ:=zH hz;clear hz;go_wp2_with fail;refine H2.out.mono ?_;rintro e w1 ⟨rfl,hb1⟩;go_wp2;go_ret;exact⟨by rw [cmpC,Q1.out,zjf,zxa HZ.out];rfl,HC.out.2.2.trans hb1⟩
  ·clear H1 H2;have Q1:=zH q1;have Q2:=zH q2;clear q1 q2
   by_cases hz:cmpS a.2.1 b.2.1=0
   ·have HZ:=zH hz;rw [hz] at H3;clear hz;go_wp2_with fail;refine H3.out.mono ?_;rintro e w1 ⟨rfl,hb1⟩;go_wp2;go_roundw
    case rel=>exact⟨3,rfl,.inr (.inr (.inr ⟨rfl,by rw [cmpC,Q1.out,zjf,Q2.out,zjf,HZ.out]⟩)),HC.out.ext hb1⟩
    case measure=>simp [intOf]
   ·have hz':(cmpS a.2.1 b.2.1 == 0)=false:=(by rw [beq_eq_false_iff_ne];exact hz);have HZ:=zH hz;clear hz;go_wp2_with fail;refine H3.out.mono ?_;rintro e w1 ⟨rfl,hb1⟩;go_wp2;go_ret;exact⟨by rw [cmpC,Q1.out,zjf,Q2.out,zjf];rfl,HC.out.2.2.trans hb1⟩
  ·clear H1 H2 H3;have HQ:=zH q;clear q;go_wp2_with fail;go_ret;exact⟨by rw [HQ.out];rfl,HC.out.2.2⟩
theorem zxb (a b:Cell) (w:World):Calls Tryz.prog 113 #[zdc a,zdc b] w fun e w'=>e=.returned (zdc (ze0 a b))/\Ext w w':=by
 have H1:=zH zze
 by_cases h:cmpC a b < 0
 ·have HJ:=zH (show ze0 a b=b by simp [ze0,h]);go_enter Tryz.func113,Tryz.ntmps113;go_wp2_with fail;refine (H1.out _ _ _).mono ?_;rintro e w1 ⟨rfl,hb1⟩;have c0:w1.cell? ⟨w.heap.size+1,0,none⟩=some (U b.1):=hb1.cell (by simp [go_sem]);have c1:w1.cell? ⟨w.heap.size+1,1,none⟩=some (St b.2.1):=hb1.cell (by simp [go_sem]);have c2:w1.cell? ⟨w.heap.size+1,2,none⟩=some (.bool b.2.2):=hb1.cell (by simp [go_sem]);have d0:w1.cell? ⟨w.heap.size+2,0,none⟩=some (U 0):=hb1.cell (by simp [go_sem]);have d1:w1.cell? ⟨w.heap.size+2,1,none⟩=some (St []):=hb1.cell (by simp [go_sem]);have d2:w1.cell? ⟨w.heap.size+2,2,none⟩=some (.bool false):=hb1.cell (by simp [go_sem]);have ff:∀ o,w1.frozen? ⟨w.heap.size+2,o,none⟩=false:=fun o=>(hb1.frozen (by simp)).trans (by simp [go_sem])
  have f0:=ff 0;have f1:=ff 1;have f2:=ff 2;go_wp2
  (try simp only [Exit.inBlock,Exit.then])
  refine bodyPost_ret (v:=zdc b) (by simp [results,Tryz.f113,go_sem,c0,c1,c2,d0,d1,d2]) rfl ?_;exact⟨by rw [HJ.out],((((((Ext.refl w).alloc _).alloc _).alloc _).trans hb1).set (by simp;omega) _ |>.set (by simp;omega) _ |>.set (by simp;omega) _)⟩
 ·have HJ:=zH (show ze0 a b=a by simp [ze0,h]);go_enter Tryz.func113,Tryz.ntmps113;go_wp2_with fail;refine (H1.out _ _ _).mono ?_;rintro e w1 ⟨rfl,hb1⟩;have c0:w1.cell? ⟨w.heap.size,0,none⟩=some (U a.1):=hb1.cell (by simp [go_sem]);have c1:w1.cell? ⟨w.heap.size,1,none⟩=some (St a.2.1):=hb1.cell (by simp [go_sem]);have c2:w1.cell? ⟨w.heap.size,2,none⟩=some (.bool a.2.2):=hb1.cell (by simp [go_sem]);have d0:w1.cell? ⟨w.heap.size+2,0,none⟩=some (U 0):=hb1.cell (by simp [go_sem]);have d1:w1.cell? ⟨w.heap.size+2,1,none⟩=some (St []):=hb1.cell (by simp [go_sem]);have d2:w1.cell? ⟨w.heap.size+2,2,none⟩=some (.bool false):=hb1.cell (by simp [go_sem]);have ff:∀ o,w1.frozen? ⟨w.heap.size+2,o,none⟩=false:=fun o=>(hb1.frozen (by simp)).trans (by simp [go_sem])
  have f0:=ff 0;have f1:=ff 1;have f2:=ff 2;go_wp2
  (try simp only [Exit.inBlock,Exit.then])
  refine bodyPost_ret (v:=zdc a) (by simp [results,Tryz.f113,go_sem,c0,c1,c2,d0,d1,d2]) rfl ?_;exact⟨by rw [HJ.out],((((((Ext.refl w).alloc _).alloc _).alloc _).trans hb1).set (by simp;omega) _ |>.set (by simp;omega) _ |>.set (by simp;omega) _)⟩
theorem zzf (c:Cell) (w:World):Calls Tryz.prog 80 #[zdc c] w fun e w'=>e=.returned (.bool (mayC c))/\Ext w w':=by
 obtain⟨n,s,g⟩:=c
 cases n with
 | zero =>
  cases s with
  | nil =>
   cases g <;>
   ·go_enter Tryz.func80,Tryz.ntmps80;go_wp2;go_ret;exact⟨by simp [mayC],(Ext.refl _).alloc _⟩
  | cons x r =>
   have e1:((x :: r).toArray == (#[]:Array UInt8))=false:=by simp
   cases g <;>
   ·go_enter Tryz.func80,Tryz.ntmps80;go_wp2;go_ret;exact⟨by simp [mayC],(Ext.refl _).alloc _⟩
 | succ n =>
  have h0:(((n+1:Nat):Int) == 0)=false:=by rw [beq_eq_false_iff_ne];omega
  have h1:((n:Int)+1 == 0)=false:=by rw [beq_eq_false_iff_ne];omega
  by_cases r1:n+1<=281474976710656
  ·have r2:((n:Int)+1<=281474976710656):=by omega
   by_cases r3:s.length<=4096
   ·have r4:(s.length:Int)<=4096:=by omega
    by_cases hs:s = []
    ·subst hs
     cases g <;>
     ·go_enter Tryz.func80,Tryz.ntmps80;go_wp2;go_ret;exact⟨by simp [mayC];omega,(Ext.refl _).alloc _⟩
    ·have e1:(s.toArray == (#[]:Array UInt8))=false:=(by simpa using hs);have e2:s.isEmpty=false:=(by simpa using hs);have HM:=zH (show mayC (n+1,s,g) = !g by simp [mayC,r1,r3,hs]);clear hs r1 r3
     cases g <;>
     ·go_enter Tryz.func80,Tryz.ntmps80;go_wp2;go_ret;exact⟨by rw [HM.out];first | rfl | simp [e2],(Ext.refl _).alloc _⟩
   ·have r4:¬ (s.length:Int)<=4096:=(by omega);go_enter Tryz.func80,Tryz.ntmps80;go_wp2;go_ret;exact⟨by simp [mayC];omega,(Ext.refl _).alloc _⟩
  ·have r2:¬ ((n:Int)+1<=281474976710656):=(by omega);go_enter Tryz.func80,Tryz.ntmps80;go_wp2;go_ret;exact⟨by simp [mayC];omega,(Ext.refl _).alloc _⟩
theorem zxc (c:Cell) (w:World):Calls Tryz.prog 105 #[zdc c] w fun e w'=>e=.returned (.tuple #[St (zio c).1,.bool (zio c).2])/\Ext w w':=by
 obtain⟨n,s,g⟩:=c
 cases n with
 | zero =>
  cases g <;>
  ·go_enter Tryz.func105,Tryz.ntmps105;go_wp2
   go_ret2
   exact⟨by simp [zio],(Ext.refl _).alloc _⟩
 | succ n =>
  have h0:(((n+1:Nat):Int) == 0)=false:=by rw [beq_eq_false_iff_ne];omega
  have h1:((n:Int)+1 == 0)=false:=by rw [beq_eq_false_iff_ne];omega
  cases g <;>
  ·go_enter Tryz.func105,Tryz.ntmps105;go_wp2
   go_ret2
   exact⟨by simp [zio],(Ext.refl _).alloc _⟩
end
end Go.Proofs.YtaabaflgeljbjaaGreat
