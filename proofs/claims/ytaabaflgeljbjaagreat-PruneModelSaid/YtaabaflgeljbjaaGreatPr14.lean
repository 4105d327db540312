/- Laws. -/
import Derived.Test.YtaabaflgeljbjaaGreatPr05
import Derived.Test.YtaabaflgeljbjaaGreatPr04
import Derived.Test.YtaabaflgeljbjaaGreatPr13
import Derived.Test.YtaabaflgeljbjaaGreatPr12
set_option linter.unusedVariables false
set_option linter.unusedSimpArgs false
set_option maxRecDepth 100000
set_option maxHeartbeats 40000000
namespace Go.Proofs.YtaabaflgeljbjaaGreat
open Go.Value renaming pointer→Xa,bool→Xb
open Go.Ending renaming returned→Xc
open Go renaming World→Xd
open Ext renaming refl→Xe
section
open Go.RowKit
theorem zjr:∀a b:Str,Lib.compareBytes a b=cmpS a b
 | [],[]=>rfl
 | [],_::_=>rfl
 | _::_,[]=>rfl
 | a::x,b::y=>by
  have e:=zjr x y;rcases zv8 a b with h|rfl|h
  ·have c:¬b<a:=UInt8.lt_asymm h;have d:a≠b:=UInt8.ne_of_lt h;simp[Lib.compareBytes,cmpS,ltS,Op.bytesLess,h]
  ·simp only[cmpS,ltS]at e;simp[Lib.compareBytes,cmpS,ltS,Op.bytesLess,e]
  have c:¬a<b:=UInt8.lt_asymm h;have d:a≠b:=(UInt8.ne_of_lt h).symm;simp[Lib.compareBytes,cmpS,ltS,Op.bytesLess,h,c,d]
theorem zhl (a b:Str)(w:Xd):Calls Tryz.prog 87 #[St a,St b] w fun e w'=>e=Xc (I (cmpS a b))/\w=w':=by
 refine(Any.strings_Compare Tryz.lays106 ⟨a.toArray⟩ ⟨b.toArray⟩ w).mono ?_;rintro e w'⟨rfl,rfl⟩;refine⟨?_,rfl⟩;exact congrArg (fun z=>Ending.returned (I z)) (zjr a b)
theorem zwj (x:Nat)(w:Xd):Calls Tryz.prog 172 #[U x] w fun e w'=>e=Xc (Xb false)/\w=w':=by
 go_enter Tryz.func172,Tryz.ntmps172;go_wp2;go_ret;exact⟨rfl,rfl⟩
theorem zt6 (x:Int)(w:Xd):Calls Tryz.prog 233 #[I x] w fun e w'=>e=Xc (Xb false)/\w=w':=by
 go_enter Tryz.func233,Tryz.ntmps233;go_wp2;go_ret;exact⟨rfl,rfl⟩
theorem zm8 (a b:Nat)(w:Xd):Calls Tryz.prog 131 #[U a,U b] w fun e w'=>e=Xc (I (cmpN a b))/\w=w':=by
 have c:=zH zwj
 by_cases h1:a<b
 ·have f:(a:Int)<b:=by omega
  go_enter Tryz.func131,Tryz.ntmps131
  go_wp2_with (go_at_call 172;refine(c.out _ _).mono ?_;rintro e w'⟨rfl,rfl⟩)
  go_ret;exact⟨by simp[cmpN,h1],rfl⟩
 have f:¬(a:Int)<b:=by omega
 by_cases d:b<a
 ·have g:(a:Int)>b:=(by omega);go_enter Tryz.func131,Tryz.ntmps131
  go_wp2_with (go_at_call 172;refine(c.out _ _).mono ?_;rintro e w'⟨rfl,rfl⟩)
  go_ret;exact⟨by simp[cmpN,h1,d],rfl⟩
 have g:¬(a:Int)>b:=(by omega);go_enter Tryz.func131,Tryz.ntmps131
 go_wp2_with (go_at_call 172;refine(c.out _ _).mono ?_;rintro e w'⟨rfl,rfl⟩)
 go_ret;exact⟨by simp[cmpN,h1,d],rfl⟩
def cmpI (a b:Int):Int:=if a<b then -1 else if b<a then 1 else 0
theorem zy2 (a b:Int)(w:Xd):Calls Tryz.prog 207 #[I a,I b] w fun e w'=>e=Xc (I (cmpI a b))/\w=w':=by
 have c:=zH zt6
 by_cases h1:a<b
 ·go_enter Tryz.func207,Tryz.ntmps207
  go_wp2_with (go_at_call 233;refine(c.out _ _).mono ?_;rintro e w'⟨rfl,rfl⟩)
  go_ret;exact⟨by simp[cmpI,h1],rfl⟩
 by_cases d:b<a
 ·have f:a>b:=(by omega);go_enter Tryz.func207,Tryz.ntmps207
  go_wp2_with (go_at_call 233;refine(c.out _ _).mono ?_;rintro e w'⟨rfl,rfl⟩)
  go_ret;exact⟨by simp[cmpI,h1,d],rfl⟩
 have f:¬a>b:=(by omega);go_enter Tryz.func207,Tryz.ntmps207
 go_wp2_with (go_at_call 233;refine(c.out _ _).mono ?_;rintro e w'⟨rfl,rfl⟩)
 go_ret;exact⟨by unfold cmpI;rw[zN (by omega),zN (by omega)];rfl,rfl⟩
theorem zwk (a b:Int){g c:Nat}{w:Xd}(h0:w.cell? ⟨g,0,none⟩=some (I a))(h1:w.cell? ⟨g,1,none⟩=some (I b)) :
  Calls Tryz.prog 130 #[.slice (some ⟨g,0,none⟩) 2 c] w fun e w'=>e=Xc (I (orI a b))/\w=w':=by
 go_enter Tryz.func130,Tryz.ntmps130;go_wp2
 go_loop [8] (fun i=>i=I 0 ∨ (i=I 1/\a=0) ∨ (i=I 2/\a=0/\b=0)) (fun i=>2-(intOf i).toNat)
 case atStart=>exact .inl rfl
 rcases hrel with rfl|⟨rfl,h⟩|⟨rfl,h,h'⟩
 ·by_cases ha:a=0
  ·subst ha;go_wp2
   go_round
   case rel=>simp
   case measure=>simp[intOf]
  have d:(a !=0)=true:=(by simpa using ha);have f:(a==0)=false:=(by simpa using ha);go_wp2;go_ret;exact⟨by simp[orI,ha],rfl⟩
 ·by_cases hb:b=0
  ·subst hb;go_wp2
   go_round
   case rel=>simp[h]
   case measure=>simp[intOf]
  have d:(b !=0)=true:=(by simpa using hb);have f:(b==0)=false:=(by simpa using hb);go_wp2;go_ret;exact⟨by simp[orI,h],rfl⟩
 go_wp2;go_ret;exact⟨by simp[orI,h,h'],rfl⟩
theorem zmo (W:Xd)(a b c:Obj):(((W.alloc a).alloc b).alloc c).drew=Go.Sort.grow (W.drewN 1) #[a,b,c]:=by
 rw[Go.Sort.alloc_eq_grow,Go.Sort.alloc_eq_grow,Go.Sort.alloc_eq_grow]
 rfl
theorem zy3 (W:Xd)(q:Nat)(os:Array Obj):Ext W (Go.Sort.grow (W.drewN q) os) :=
 ⟨rfl,rfl,rfl,by simp[Go.Sort.grow],fun k hk=>by
  unfold Go.Sort.grow;rw[Array.getElem?_append_left (by exact hk)]
  rfl⟩
theorem zwl (a b:Mark)(W:Xd):Calls Tryz.prog 129 #[.agg #[St a.1,U a.2],.agg #[St b.1,U b.2]] W fun e w'=>e=Xc (I (cmpM a b))/\∃q os,w'=Go.Sort.grow (W.drewN q) os:=by
 have c:=zH zhl;have d:=zH zm8;have f:=zH @zwk;go_enter Tryz.func129,Tryz.ntmps129;go_wp2_with fail
 go_region_held3 (fun w'=>w'.cell? ⟨W.heap.size,0,none⟩=some (St a.1)/\w'.cell? ⟨W.heap.size,1,none⟩=some (U a.2)/\w'.cell? ⟨W.heap.size+1,0,none⟩=some (St b.1)/\w'.cell? ⟨W.heap.size+1,1,none⟩=some (U b.2)) (first|(simp[go_sem];done)) (first|(go_at_call 87;refine(c.out _ _ _).mono ?_;rintro e w'⟨rfl,rfl⟩)|(go_at_call 131;refine(d.out _ _ _).mono ?_;rintro e w'⟨rfl,rfl⟩)|(go_at_call 130;refine(f.out (cmpS a.1 b.1) (cmpN b.2 a.2) (by simp[go_sem]) (by simp[go_sem])).mono ?_;rintro e w'⟨rfl,rfl⟩))
 go_wp2;go_ret;exact⟨rfl,1,_,zmo _ _ _ _⟩
theorem zwm {v:Value}{l:List Mark}{w:Xd}{base:Nat}(a:Own w base 97 2 v l.length (l.flatMap zaj))(D:base<=w.heap.size)(E:l.length<=1099511627776) :
  Calls Tryz.prog 128 #[v,.func (.func 129) #[] #[]] w fun e w'=>e=Xc (.tuple #[]) /\
   Own w' base 97 2 v (zco (ltOf cmpM) l).length ((zco (ltOf cmpM) l).flatMap zaj)/\Below base w w':=by
 rcases Nat.eq_zero_or_pos l.length with h0|h0
 ·obtain rfl:l = []:=List.eq_nil_of_length_eq_zero h0;obtain⟨A,c,rfl,-,-⟩:=a.form;have d:=AnyF.slices_SortFunc_none Tryz.sortMark A c (.func (.func 129) #[] #[]) w;exact Calls.mono d fun e w' ⟨u,m⟩=>⟨u,by rw[m];exact a,by rw[m];exact Below.refl _ _⟩
 obtain⟨g,o,tail,rfl,i,f,z,s,h⟩:=a.row h0;have p:∀args w,(callFunc 129 args).run Tryz.prog w=.ok (.enter 129 args) w:=enters_of Tryz.func129 (by kernel_rfl) rfl;have r:Go.Sort.HoldsK zaj 2 w g 0 l.toArray:=zjp (F:=Go.Sort.flatK zaj 2 l.toArray) (by rw[zi4 (enc:=zaj) (k:=2) (fun _=>rfl) (by decide)];exact f)
 have d:=AnyQ.slices_SortFunc Tryz.sortMark 2 Tryz.isAgg97 Tryz.sizeOf97 zaj (fun _=>rfl) (fun x v a=>by simp[zaj]at a;rcases a with rfl|rfl<;>rfl) cmpM zkn 129 #[] g 0 o l.toArray w p
  (fun _ _ _ _ x y=>zwl x y _) r f.lt (by simp;omega)
 refine d.mono ?_;rintro e w'⟨rfl,d',n,os,j,B,rfl⟩;have t:=ztu zkn zo8 j B;have C:d'.size=l.length:=by simpa using j.1
 obtain⟨h1,q⟩:=znr (enc:=zaj) (k:=2) (fun _=>rfl) (by decide) (d':=d') (n:=n) (os:=os) f i C;rw[t]at h1;have b:(zco (ltOf cmpM) l).length=l.length:=(zbq l).length_eq;refine⟨rfl,?_,q⟩;rw[b];refine h1.own i z s ?_ ?_ ?_
 ·rw[List.length_append,zb4,b];rw[List.length_append,zb4]at h;exact h
 ·rw[List.take_of_length_le (by rw[zb4,b];exact Nat.le_refl _)]
 rw[zb4,b]
theorem zwn (m:Mark)(W:Xd):Calls Tryz.prog 127 #[.agg #[St m.1,U m.2]] W fun e w'=>e=Xc (Xb (noM m))/\Ext W w':=by
 obtain⟨s,n⟩:=m
 cases s
 case nil=>go_enter Tryz.func127,Tryz.ntmps127;go_wp2;go_ret;exact⟨by simp[noM],(Xe _).alloc _⟩
 rename_i a r
 cases n with
 | zero=>go_enter Tryz.func127,Tryz.ntmps127;go_wp2;go_ret;exact⟨by simp[noM],(Xe _).alloc _⟩
 | succ n=>have h0:(((n+1:Nat):Int)==0)=false:=(by rw[beq_eq_false_iff_ne];omega);have h1:((n:Int)+1==0)=false:=(by rw[beq_eq_false_iff_ne];omega);go_enter Tryz.func127,Tryz.ntmps127;go_wp2;go_ret;exact⟨by simp[noM],(Xe _).alloc _⟩
theorem zt7 (base:Nat):PredM Tryz.prog 127 #[] base (fun _=>True) noM where
 enters:=enters_of Tryz.func127 (by kernel_rfl) rfl
 keep _ _ _ _:=trivial
 does m W _:=zwn m W
theorem zeo (l:List Mark):(zbu l).length<=l.length:=by
 have h1:∀(a:Mark) (l:List Mark),(za6 a l).length<=l.length:=by
  intro a l
  induction l generalizing a with
  | nil=>simp[za6]
  | cons b r c=>unfold za6;split;exact Nat.le_succ_of_le (c b);simpa using c b
 have d:∀l:List Mark,(zb0 l).length<=l.length:=by
  intro l
  cases l with
  | nil=>simp[zb0]
  | cons a r=>simpa[zb0]using h1 a r
 refine Nat.le_trans (d _) ?_;rw[(zbq _).length_eq];exact List.length_filter_le _ _
theorem zi9 {S:Nat->Prop}{v:Value}{l:List Mark}{w:Xd}(b:Sl markT w S v l)(a:l.length<=1099511627776) :
  Calls Tryz.prog 83 #[v] w fun e w'=>∃v',e=Xc v'/\Own w' w.heap.size 97 2 v' (zbu l).length ((zbu l).flatMap zaj)/\Ext w w':=by
 have k:=zH (zik b a);clear b;go_enter Tryz.func83,Tryz.ntmps83;go_wp2_with fail;refine k.out.mono ?_;rintro e A⟨v1,rfl,c,h⟩;have n:=zH (zmn (own_markT.1 c) (zt7 w.heap.size) trivial h.size);clear c;go_wp2_with fail;refine n.out.mono ?_;rintro e x⟨v2,rfl,d,s⟩;have r:(l.filter fun m=>!noM m).length<=1099511627776:=Nat.le_trans (List.length_filter_le _ _) a;have i:Ext w x:=Below.trans h s;have o:=zH (zwm d i.size r);clear d;go_wp2_with fail;refine o.out.mono ?_;rintro e y⟨rfl,f,t⟩;have j:Ext w y:=Below.trans i t;have p:=zH (zq3 f j.size);clear f;go_wp2_with fail;refine p.out.mono ?_;rintro e B⟨z,rfl,g,u⟩;have q:=zH g;clear g;go_wp2_with fail;go_ret;exact⟨_,rfl,q.out,Below.trans j u⟩
abbrev zdc (c:Cell):Value:=.agg #[U c.1,St c.2.1,Xb c.2.2]
def zbv (c:Cell):Int:=if c.2.2 then 0 else 1
def cmpC (a b:Cell):Int:=orI (cmpN a.1 b.1) (orI (cmpI (zbv a) (zbv b)) (cmpS a.2.1 b.2.1))
def ze0 (a b:Cell):Cell:=if cmpC a b<0 then b else a
def mayC (c:Cell):Bool:=if c.1=0 then c.2.1.isEmpty && !c.2.2 else decide (c.1<=281474976710656)&&decide (c.2.1.length<=4096) && !(c.2.2 && !c.2.1.isEmpty)
def zio (c:Cell):Str×Bool:=if c.1=0 ∨ c.2.2=true then([],false)else(c.2.1,true)
theorem zw6 (c:Cell)(W:Xd):Calls Tryz.prog 208 #[zdc c] W fun e w'=>e=Xc (I (zbv c))/\Ext W w':=by
 obtain⟨n,s,g⟩:=c;cases g
 ·go_enter Tryz.func208,Tryz.ntmps208;go_wp2;go_ret;exact⟨rfl,(Xe _).alloc _⟩
 go_enter Tryz.func208,Tryz.ntmps208;go_wp2;go_ret;exact⟨rfl,(Xe _).alloc _⟩
abbrev BoxC (W:Xd)(b:Nat)(c:Cell):Prop:=W.cell? ⟨b,0,none⟩=some (U c.1)/\W.cell? ⟨b,1,none⟩=some (St c.2.1)/\W.cell? ⟨b,2,none⟩=some (Xb c.2.2)
theorem zw7 {a b:Cell}{c d:Nat}{W:Xd}(ha:BoxC W c a)(hb:BoxC W d b):Calls Tryz.prog 205 #[Xa (some ⟨c,0,none⟩),Xa (some ⟨d,0,none⟩)] W fun e w'=>e=Xc (I (cmpN a.1 b.1))/\Ext W w':=by
 have f:=zH zm8;obtain⟨h1,-,-⟩:=ha;obtain⟨g,-,-⟩:=hb;go_enter Tryz.func205,Tryz.ntmps205;go_wp2_with fail;refine(f.out _ _ _).mono ?_;rintro e w'⟨rfl,rfl⟩;go_wp2;go_ret;exact⟨rfl,Xe _⟩
theorem zw8 {a b:Cell}{d f:Nat}{W:Xd}(ha:BoxC W d a)(hb:BoxC W f b):Calls Tryz.prog 206 #[Xa (some ⟨d,0,none⟩),Xa (some ⟨f,0,none⟩)] W fun e w'=>e=Xc (I (cmpI (zbv a) (zbv b)))/\Ext W w':=by
 have g:=zH zw6;have h:=zH zy2;obtain⟨h0,h1,i⟩:=ha;obtain⟨j,k,l⟩:=hb;go_enter Tryz.func206,Tryz.ntmps206;go_wp2_with fail
 go_region_held3 (fun w'=>w'.cell? ⟨d,0,none⟩=some (U a.1)/\w'.cell? ⟨d,1,none⟩=some (St a.2.1)/\w'.cell? ⟨d,2,none⟩=some (Xb a.2.2)/\w'.cell? ⟨f,0,none⟩=some (U b.1)/\w'.cell? ⟨f,1,none⟩=some (St b.2.1)/\w'.cell? ⟨f,2,none⟩=some (Xb b.2.2)/\Ext W w')
  (first|exact⟨by simpa[go_sem]using h0,by simpa[go_sem]using h1,by simpa[go_sem]using i,by simpa[go_sem]using j,by simpa[go_sem]using k,by simpa[go_sem]using l,(Xe _).drew⟩|exact⟨c.cell ‹_/\_/\_/\_/\_/\_/\Ext W _›.1,c.cell ‹_/\_/\_/\_/\_/\_/\Ext W _›.2.1,c.cell ‹_/\_/\_/\_/\_/\_/\Ext W _›.2.2.1,c.cell ‹_/\_/\_/\_/\_/\_/\Ext W _›.2.2.2.1,c.cell ‹_/\_/\_/\_/\_/\_/\Ext W _›.2.2.2.2.1,c.cell ‹_/\_/\_/\_/\_/\_/\Ext W _›.2.2.2.2.2.1,‹_/\_/\_/\_/\_/\_/\Ext W _›.2.2.2.2.2.2.trans c⟩|exact ‹_/\_/\_/\_/\_/\_/\Ext W _›)
  (first|(go_at_call 208;refine(g.out _ _).mono ?_;rintro e m⟨rfl,c⟩)|(go_at_call 207;refine(h.out _ _ _).mono ?_;rintro e w'⟨rfl,rfl⟩))
 go_wp2;go_ret;exact⟨rfl,‹_/\_/\_/\_/\_/\_/\Ext W _›.2.2.2.2.2.2⟩
theorem zw9 {a b:Cell}{c d:Nat}{W:Xd}(ha:BoxC W c a)(hb:BoxC W d b):Calls Tryz.prog 209 #[Xa (some ⟨c,0,none⟩),Xa (some ⟨d,0,none⟩)] W fun e w'=>e=Xc (I (cmpS a.2.1 b.2.1))/\Ext W w':=by
 have f:=zH zhl;obtain⟨-,h1,-⟩:=ha;obtain⟨-,g,-⟩:=hb;go_enter Tryz.func209,Tryz.ntmps209;go_wp2_with fail;refine(f.out _ _ _).mono ?_;rintro e w'⟨rfl,rfl⟩;go_wp2;go_ret;exact⟨rfl,Xe _⟩
abbrev capC (w:Xd):Array Value:=#[Xa (some ⟨w.heap.size,0,none⟩),Xa (some ⟨w.heap.size+1,0,none⟩)]
abbrev CmpAt (w W:Xd)(a b:Cell):Prop:=(BoxC W w.heap.size a/\BoxC W (w.heap.size+1) b)/\(W.cell? ⟨w.heap.size+2,0,none⟩=some (.func (.func 205) #[] (capC w))/\W.cell? ⟨w.heap.size+2,1,none⟩=some (.func (.func 206) #[] (capC w))/\W.cell? ⟨w.heap.size+2,2,none⟩=some (.func (.func 209) #[] (capC w)))/\Ext w W
theorem zjf (b:Int):orI 0 b=b:=by simp[orI]
theorem zxa {a:Int}(h:a≠0)(b:Int):orI a b=a:=by simp[orI,h]
theorem CmpAt.ext {w W d:Xd}{a b:Cell}(c:CmpAt w W a b)(k:Ext W d):CmpAt w d a b :=
 ⟨⟨⟨k.cell c.1.1.1,k.cell c.1.1.2.1,k.cell c.1.1.2.2⟩,⟨k.cell c.1.2.1,k.cell c.1.2.2.1,k.cell c.1.2.2.2⟩⟩,⟨k.cell c.2.1.1,k.cell c.2.1.2.1,k.cell c.2.1.2.2⟩,c.2.2.trans k⟩
theorem zze (a b:Cell)(w:Xd):Calls Tryz.prog 159 #[zdc a,zdc b] w fun e w'=>e=Xc (I (cmpC a b))/\Ext w w':=by
 have t:∀args w,(callFunc 205 args).run Tryz.prog w=.ok (.enter 205 args) w:=enters_of Tryz.func205 (by kernel_rfl) rfl;have u:∀args w,(callFunc 206 args).run Tryz.prog w=.ok (.enter 206 args) w:=enters_of Tryz.func206 (by kernel_rfl) rfl;have v:∀args w,(callFunc 209 args).run Tryz.prog w=.ok (.enter 209 args) w:=enters_of Tryz.func209 (by kernel_rfl) rfl;go_enter Tryz.func159,Tryz.ntmps159;go_wp2_with fail
 go_loopw [15] (fun i wr=>∃k:Nat,i=I k/\((k=0) ∨ (k=1/\cmpN a.1 b.1=0) ∨ (k=2/\cmpN a.1 b.1=0/\cmpI (zbv a) (zbv b)=0) ∨ (k=3/\cmpC a b=0))/\CmpAt w wr a b) (fun i _=>3-(intOf i).toNat)
 case atStart=>exact⟨0,rfl,.inl rfl,⟨⟨by simp[go_sem],by simp[go_sem],by simp[go_sem]⟩,⟨by simp[go_sem],by simp[go_sem],by simp[go_sem]⟩⟩,⟨by simp[go_sem],by simp[go_sem],by simp[go_sem]⟩,(((Xe w).alloc _).alloc _).alloc _⟩
 obtain⟨k,rfl,hk,g⟩:=hrel;have j:=zH (zw7 g.1.1 g.1.2);have l:=zH (zw8 g.1.1 g.1.2);have m:=zH (zw9 g.1.1 g.1.2);have h:=zH g;obtain⟨-,⟨f0,f1,x⟩,-⟩:=g;rcases hk with rfl|⟨rfl,q1⟩|⟨rfl,q1,q2⟩|⟨rfl,q⟩
 ·clear l m
  by_cases c:cmpN a.1 b.1=0
  ·have f:=zH c;rw[c]at j;clear c;go_wp2_with fail;refine j.out.mono ?_;rintro e o⟨rfl,d⟩;go_wp2;go_roundw
   case rel=>exact⟨1,rfl,.inr (.inl ⟨rfl,f.out⟩),h.out.ext d⟩
   case measure=>simp[intOf]
  have r:(cmpN a.1 b.1==0)=false:=(by rw[beq_eq_false_iff_ne];exact c);have f:=zH c;clear c;go_wp2_with fail;refine j.out.mono ?_;rintro e o⟨rfl,d⟩;go_wp2;go_ret;exact⟨by rw[cmpC,zxa f.out];rfl,h.out.2.2.trans d⟩
 ·clear j m;have n:=zH q1;clear q1
  by_cases c:cmpI (zbv a) (zbv b)=0
  ·have f:=zH c;rw[c]at l;clear c;go_wp2_with fail;refine l.out.mono ?_;rintro e o⟨rfl,d⟩;go_wp2;go_roundw
   case rel=>exact⟨2,rfl,.inr (.inr (.inl ⟨rfl,n.out,f.out⟩)),h.out.ext d⟩
   case measure=>simp[intOf]
  have r:(cmpI (zbv a) (zbv b)==0)=false:=(by rw[beq_eq_false_iff_ne];exact c);have f:=zH c;clear c;go_wp2_with fail;refine l.out.mono ?_;rintro e o⟨rfl,d⟩;go_wp2;go_ret;exact⟨by rw[cmpC,n.out,zjf,zxa f.out];rfl,h.out.2.2.trans d⟩
 ·clear j l;have n:=zH q1;have p:=zH q2;clear q1 q2
  by_cases c:cmpS a.2.1 b.2.1=0
  ·have f:=zH c;rw[c]at m;clear c;go_wp2_with fail;refine m.out.mono ?_;rintro e o⟨rfl,d⟩;go_wp2;go_roundw
   case rel=>exact⟨3,rfl,.inr (.inr (.inr ⟨rfl,by rw[cmpC,n.out,zjf,p.out,zjf,f.out]⟩)),h.out.ext d⟩
   case measure=>simp[intOf]
  have r:(cmpS a.2.1 b.2.1==0)=false:=(by rw[beq_eq_false_iff_ne];exact c);have f:=zH c;clear c;go_wp2_with fail;refine m.out.mono ?_;rintro e o⟨rfl,d⟩;go_wp2;go_ret;exact⟨by rw[cmpC,n.out,zjf,p.out,zjf];rfl,h.out.2.2.trans d⟩
 clear j l m;have s:=zH q;clear q;go_wp2_with fail;go_ret;exact⟨by rw[s.out];rfl,h.out.2.2⟩
theorem zxb (a b:Cell)(w:Xd):Calls Tryz.prog 113 #[zdc a,zdc b] w fun e w'=>e=Xc (zdc (ze0 a b))/\Ext w w':=by
 have j:=zH zze
 by_cases k:cmpC a b<0
 ·have g:=zH (show ze0 a b=b by simp[ze0,k]);go_enter Tryz.func113,Tryz.ntmps113;go_wp2_with fail;refine(j.out _ _ _).mono ?_;rintro e d⟨rfl,c⟩;have h:d.cell? ⟨w.heap.size+1,0,none⟩=some (U b.1):=c.cell (by simp[go_sem]);have c1:d.cell? ⟨w.heap.size+1,1,none⟩=some (St b.2.1):=c.cell (by simp[go_sem]);have c2:d.cell? ⟨w.heap.size+1,2,none⟩=some (Xb b.2.2):=c.cell (by simp[go_sem]);have d0:d.cell? ⟨w.heap.size+2,0,none⟩=some (U 0):=c.cell (by simp[go_sem]);have d1:d.cell? ⟨w.heap.size+2,1,none⟩=some (St []):=c.cell (by simp[go_sem]);have i:d.cell? ⟨w.heap.size+2,2,none⟩=some (Xb false):=c.cell (by simp[go_sem]);have f:∀o,d.frozen? ⟨w.heap.size+2,o,none⟩=false:=fun o=>(c.frozen (by simp)).trans (by simp[go_sem])
  have f0:=f 0;have f1:=f 1;have l:=f 2;go_wp2
  (try simp only[Exit.inBlock,Exit.then])
  refine bodyPost_ret (v:=zdc b) (by simp[results,Tryz.f113,go_sem,h,c1,c2,d0,d1,i]) rfl ?_;exact⟨by rw[g.out],((((((Xe w).alloc _).alloc _).alloc _).trans c).set (by simp;omega) _ |>.set (by simp;omega) _ |>.set (by simp;omega) _)⟩
 have g:=zH (show ze0 a b=a by simp[ze0,k]);go_enter Tryz.func113,Tryz.ntmps113;go_wp2_with fail;refine(j.out _ _ _).mono ?_;rintro e d⟨rfl,c⟩;have h:d.cell? ⟨w.heap.size,0,none⟩=some (U a.1):=c.cell (by simp[go_sem]);have c1:d.cell? ⟨w.heap.size,1,none⟩=some (St a.2.1):=c.cell (by simp[go_sem]);have c2:d.cell? ⟨w.heap.size,2,none⟩=some (Xb a.2.2):=c.cell (by simp[go_sem]);have d0:d.cell? ⟨w.heap.size+2,0,none⟩=some (U 0):=c.cell (by simp[go_sem]);have d1:d.cell? ⟨w.heap.size+2,1,none⟩=some (St []):=c.cell (by simp[go_sem]);have i:d.cell? ⟨w.heap.size+2,2,none⟩=some (Xb false):=c.cell (by simp[go_sem]);have f:∀o,d.frozen? ⟨w.heap.size+2,o,none⟩=false:=fun o=>(c.frozen (by simp)).trans (by simp[go_sem])
 have f0:=f 0;have f1:=f 1;have l:=f 2;go_wp2
 (try simp only[Exit.inBlock,Exit.then])
 refine bodyPost_ret (v:=zdc a) (by simp[results,Tryz.f113,go_sem,h,c1,c2,d0,d1,i]) rfl ?_;exact⟨by rw[g.out],((((((Xe w).alloc _).alloc _).alloc _).trans c).set (by simp;omega) _ |>.set (by simp;omega) _ |>.set (by simp;omega) _)⟩
theorem zzf (c:Cell)(w:Xd):Calls Tryz.prog 80 #[zdc c] w fun e w'=>e=Xc (Xb (mayC c))/\Ext w w':=by
 obtain⟨n,s,g⟩:=c
 cases n
 case zero=>
  cases s
  case nil=>
   cases g <;>
   ·go_enter Tryz.func80,Tryz.ntmps80;go_wp2;go_ret;exact⟨by simp[mayC],(Xe _).alloc _⟩
  rename_i x r
  have f:((x::r).toArray==(#[]:Array UInt8))=false:=by simp
  cases g <;>
  ·go_enter Tryz.func80,Tryz.ntmps80;go_wp2;go_ret;exact⟨by simp[mayC],(Xe _).alloc _⟩
 rename_i n
 have h0:(((n+1:Nat):Int)==0)=false:=by rw[beq_eq_false_iff_ne];omega
 have h1:((n:Int)+1==0)=false:=by rw[beq_eq_false_iff_ne];omega
 by_cases r1:n+1<=281474976710656
 ·have i:((n:Int)+1<=281474976710656):=by omega
  by_cases b:s.length<=4096
  ·have j:(s.length:Int)<=4096:=by omega
   by_cases a:s = []
   ·subst a
    cases g <;>
    ·go_enter Tryz.func80,Tryz.ntmps80;go_wp2;go_ret;exact⟨by simp[mayC];omega,(Xe _).alloc _⟩
   have f:(s.toArray==(#[]:Array UInt8))=false:=(by simpa using a);have h:s.isEmpty=false:=(by simpa using a);have d:=zH (show mayC (n+1,s,g) = !g by simp[mayC,r1,b,a]);clear a r1 b
   cases g <;>
   ·go_enter Tryz.func80,Tryz.ntmps80;go_wp2;go_ret;exact⟨by rw[d.out];first|rfl|simp[h],(Xe _).alloc _⟩
  have j:¬(s.length:Int)<=4096:=(by omega);go_enter Tryz.func80,Tryz.ntmps80;go_wp2;go_ret;exact⟨by simp[mayC];omega,(Xe _).alloc _⟩
 have i:¬((n:Int)+1<=281474976710656):=(by omega);go_enter Tryz.func80,Tryz.ntmps80;go_wp2;go_ret;exact⟨by simp[mayC];omega,(Xe _).alloc _⟩
theorem zxc (c:Cell)(w:Xd):Calls Tryz.prog 105 #[zdc c] w fun e w'=>e=Xc (.tuple #[St (zio c).1,Xb (zio c).2])/\Ext w w':=by
 obtain⟨n,s,g⟩:=c
 cases n
 case zero=>
  cases g <;>
  ·go_enter Tryz.func105,Tryz.ntmps105;go_wp2
   go_ret2
   exact⟨by simp[zio],(Xe _).alloc _⟩
 rename_i n
 have h0:(((n+1:Nat):Int)==0)=false:=by rw[beq_eq_false_iff_ne];omega
 have h1:((n:Int)+1==0)=false:=by rw[beq_eq_false_iff_ne];omega
 cases g <;>
 ·go_enter Tryz.func105,Tryz.ntmps105;go_wp2
  go_ret2
  exact⟨by simp[zio],(Xe _).alloc _⟩
end
end Go.Proofs.YtaabaflgeljbjaaGreat
