/- slices.SortFunc, slices.SortedFunc at places. -/
import Derived.Test.YtaabaflgeljbjaaGreatPr19
import Derived.Test.YtaabaflgeljbjaaGreatPr15
set_option linter.unusedVariables false
set_option linter.unusedSimpArgs false
set_option maxRecDepth 100000
set_option maxHeartbeats 40000000
namespace Go.Proofs.YtaabaflgeljbjaaGreat
section
open Go.RowKit Go.Shelf Go.Sort
theorem zwz (W:World)(q r:Nat)(os a:Array Obj):Go.Sort.grow ((Go.Sort.grow (W.drewN q) os).drewN r) a=Go.Sort.grow (W.drewN (q+r)) (os++a):=by
 simp[Go.Sort.grow,World.drewN,Array.append_assoc,Nat.add_assoc]
theorem zue (a b:zan)(W:World):Calls Tryz.prog 194 #[zar a,zar b] W fun e w'=>e=.returned (I (cmpP a b))/\∃q os,w'=Go.Sort.grow (W.drewN q) os:=by
 have j:=zH zhl;have l:=zH zmq
 have f:(W.alloc (.cells #[St a.1,St a.2.1,U a.2.2] 220)).alloc (.cells #[St b.1,St b.2.1,U b.2.2] 220)=Go.Sort.grow (W.drewN 0) #[.cells #[St a.1,St a.2.1,U a.2.2] 220,.cells #[St b.1,St b.2.1,U b.2.2] 220]:=by
  rw[Go.Sort.alloc_eq_grow,Go.Sort.alloc_eq_grow]
  rfl
 by_cases c:cmpS a.1 b.1=0
 ·have d:cmpP a b=cmpD a.2 b.2:=by unfold cmpP;rw[c];simp[orI]
  have g:=zH d;have h1:(cmpS a.1 b.1 !=0)=false:=by simp[c]
  have h:=zH f;clear d f;go_enter Tryz.func194,Tryz.ntmps194;go_wp2_with fail;refine(j.out _ _ _).mono ?_;rintro e w'⟨rfl,rfl⟩;rw[c];clear c h1;go_wp2_with fail;refine(l.out _ _ _).mono ?_;rintro e w'⟨rfl,q,os,rfl⟩;go_wp2;go_ret;exact⟨by rw[g.out];rfl,_,_,by rw[h.out,zwz]⟩
 have d:cmpP a b=cmpS a.1 b.1:=by unfold cmpP;simp[orI,c]
 have g:=zH d;have h:=zH f;have h1:(cmpS a.1 b.1 !=0)=true:=by simp[c]
 have m:(cmpS a.1 b.1==0)=false:=by simp[c]
 obtain⟨z,i⟩:∃z,cmpS a.1 b.1=z:=⟨_,rfl⟩
 have k:=zH i;rw[i]at c h1 m;clear d f i;go_enter Tryz.func194,Tryz.ntmps194;go_wp2_with fail;refine(j.out _ _ _).mono ?_;rintro e w'⟨rfl,rfl⟩;rw[k.out];go_wp2;go_ret;exact⟨by rw[g.out,k.out];rfl,_,_,h.out⟩
theorem zuf {v:Value}{l:List zan}{w:World}{base:Nat}(a:Own w base 220 3 v l.length (l.flatMap zcm))(D:base<=w.heap.size)(E:l.length<=1099511627776) :
  Calls Tryz.prog 230 #[v,.func (.func 194) #[] #[]] w fun e w'=>e=.returned (.tuple #[]) /\
   Own w' base 220 3 v (zco (ltOf cmpP) l).length ((zco (ltOf cmpP) l).flatMap zcm)/\Below base w w':=by
 rcases Nat.eq_zero_or_pos l.length with h0|h0
 ·obtain rfl:l = []:=List.eq_nil_of_length_eq_zero h0;obtain⟨A,c,rfl,-,-⟩:=a.form;have d:=AnyF.slices_SortFunc_none Tryz.sortPlace A c (.func (.func 194) #[] #[]) w;exact Calls.mono d fun e w' ⟨u,m⟩=>⟨u,by rw[m];exact a,by rw[m];exact Below.refl _ _⟩
 obtain⟨g,o,tail,rfl,i,f,z,s,h⟩:=a.row h0;have p:∀args w,(callFunc 194 args).run Tryz.prog w=.ok (.enter 194 args) w:=enters_of Tryz.func194 (by kernel_rfl) rfl;have r:Go.Sort.HoldsK zcm 3 w g 0 l.toArray:=zjp (F:=Go.Sort.flatK zcm 3 l.toArray) (by rw[zi4 (enc:=zcm) (k:=3) (fun _=>rfl) (by decide)];exact f)
 have d:=AnyQ.slices_SortFunc Tryz.sortPlace 3 Tryz.isAgg220 Tryz.sizeOf220 zcm (fun _=>rfl) (fun x v a=>by simp[zcm]at a;rcases a with rfl|rfl|rfl<;>rfl) cmpP zhm 194 #[] g 0 o l.toArray w p
  (fun _ _ _ _ x y=>zue x y _) r f.lt (by simp;omega)
 refine d.mono ?_;rintro e w'⟨rfl,d',n,os,j,B,rfl⟩;have t:=ztu zhm zjs j B;have C:d'.size=l.length:=by simpa using j.1
 obtain⟨h1,q⟩:=znr (enc:=zcm) (k:=3) (fun _=>rfl) (by decide) (d':=d') (n:=n) (os:=os) f i C;rw[t]at h1;have b:(zco (ltOf cmpP) l).length=l.length:=(zbq l).length_eq;refine⟨rfl,?_,q⟩;rw[b];refine h1.own i z s ?_ ?_ ?_
 ·rw[List.length_append,zg6,b];rw[List.length_append,zg6]at h;exact h
 ·rw[List.take_of_length_le (by rw[zg6,b];exact Nat.le_refl _)]
 rw[zg6,b]
theorem zsr {p B:Nat}{a:List zan}{w:World}(d:w.cell? ⟨B,0,none⟩=some (.map (some p)))(f:SetOf zar w p a)(m:a.length<=1099511627776) :
  Calls Tryz.prog 192 #[.func (.func 231) #[] #[.pointer (some ⟨B,0,none⟩)],.func (.func 194) #[] #[]] w fun e w'=>∃v',e=.returned v'/\Own w' w.heap.size 220 3 v' (zco (ltOf cmpP) a).length ((zco (ltOf cmpP) a).flatMap zcm)/\Ext w w':=by
 have i:=zH (zq9 d f m);clear d f;go_enter Tryz.func192,Tryz.ntmps192;go_wp2_with fail;refine i.out.mono ?_;rintro e o⟨v',r,rfl,b,g,h⟩;have j:=zH (zuf g h.size (by have:=b.length_eq;omega));have k:=zH b;clear g b;go_wp2_with fail;refine j.out.mono ?_;rintro e q⟨rfl,c,n⟩;rw[zld zhm zjs k.out]at c;have l:=zH c;clear c;go_wp2_with fail;go_ret;exact⟨_,rfl,l.out,Below.trans h n⟩
end
end Go.Proofs.YtaabaflgeljbjaaGreat
