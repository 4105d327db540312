/- Laws. -/
import Derived.Test.YtaabaflgeljbjaaGreatPr05
import Derived.Test.YtaabaflgeljbjaaGreatPr04
set_option linter.unusedVariables false
set_option linter.unusedSimpArgs false
set_option maxRecDepth 100000
set_option maxHeartbeats 40000000
namespace Go.Proofs.YtaabaflgeljbjaaGreat
section
open Go.RowKit
theorem zi8:∀ (l:List Mark) (a x m:Mark),za6 a (l++[x,m])=za6 a (l++[x])++(if m.1 == x.1 then [] else [m])
 | [],a,x,m=>by
  simp only [List.nil_append,za6]
  by_cases h1:x.1 == a.1 <;> by_cases h2:m.1 == x.1 <;> simp [h1,h2]
 | b :: l,a,x,m=>by
  simp only [List.cons_append,za6];have ih:=zi8 l b x m
  by_cases h1:b.1 == a.1 <;> simp [h1,ih]
theorem zga (q:List Mark) (x m:Mark):zb0 (q++[x]++[m])=zb0 (q++[x])++(if m.1 == x.1 then [] else [m]):=by
 cases q with
 | nil=>simp only [List.nil_append,List.cons_append,zb0,za6]
 | cons a q=>simpa [zb0] using zi8 q a x m
theorem zwi (a b:Mark) (W:World):Calls Tryz.prog 133 #[.agg #[St a.1,U a.2],.agg #[St b.1,U b.2]] W fun e w'=>e=.returned (.bool (a.1 == b.1))/\Ext W w':=by
 go_enter Tryz.func133,Tryz.ntmps133;go_wp2;go_ret;exact⟨rfl,((Ext.refl _).alloc _).alloc _⟩
theorem zq3 {v:Value} {l:List Mark} {w:World} {base:Nat} (hv:Own w base 97 2 v l.length (l.flatMap zaj)) (hbase:base<=w.heap.size) :
  Calls Tryz.prog 132 #[v,.func (.func 133) #[] #[]] w fun e w'=>∃ v',e=.returned v'/\Own w' base 97 2 v' (zb0 l).length ((zb0 l).flatMap zaj)/\Below base w w':=by
 by_cases hlt2:l.length < 2
 ·obtain⟨A,c,rfl,-,-⟩:=hv.form
  have hc:zb0 l=l:=by
   match l,hlt2 with
   | [],_=>rfl
   | [m],_=>rfl
  have HV:=zH hv;have HC:=zH hc;have hq:(l.length:Int) < 2:=by omega
  clear hv hc;go_enter Tryz.func132,Tryz.ntmps132;go_wp2;go_ret;exact⟨_,rfl,by rw [HC.out];exact HV.out,Below.refl _ _⟩
 ·obtain⟨gb,cap,tail,rfl,hgb,hrow,hnc,hcm,hcl⟩:=hv.row (by omega);obtain⟨a0,r0,hl0⟩:∃ a r,l=a :: r:=by cases l with | nil=>simp at hlt2 | cons a r=>exact⟨a,r,rfl⟩
  have HR:=zH hrow;have HCL:=zH hcl;have HL0:=zH hl0;have hq:¬ (l.length:Int) < 2:=by omega
  have HV:=zH hv;have HT:=zH zwi;clear hrow hcl hv hl0;go_enter Tryz.func132,Tryz.ntmps132;go_wp2_with fail
  go_loopw [5] (fun i wr=>∃ (q post:List Mark) (la:Mark),l=q++la :: post/\i=I ((q.length:Int)+1)/\zb0 (q++[la])=q++[la]/\Ext w wr) (fun i _=>l.length - (intOf i).toNat)
  case atStart=>exact⟨[],r0,a0,HL0.out,rfl,rfl,Ext.refl _⟩
  case round =>
   obtain⟨q,post,la,hl,rfl,hcq,hb⟩:=hrel;have hlen:l.length=q.length+1+post.length:=(by rw [hl];simp;omega);have hle:q.length+1<=l.length:=by omega
   cases post with
   | cons m post =>
    have hlt:q.length+1 < l.length:=(by simp at hlen;omega);have hrow:=HR.out.ext hb;rw [hl] at hrow;have hx:=zgh q (m :: post) la;have hy:=zgh (q++[la]) post m;rw [List.append_assoc,List.length_append] at hy;have hd0:=hrow.cell hx.1;have hd1:=hrow.cell hx.2;have hd2:=hrow.cell hy.1;have hd3:=hrow.cell hy.2;simp only [List.length_cons,List.length_nil,Nat.zero_add] at hd2 hd3;have HL:=zH hl;have HQ:=zH hcq;clear hl hcq hrow hx hy hlen
    have hw:IntKind.i64.wrap ((q.length:Int)+1 - 1)=q.length:=by rw [IntWalk.i64_in _ (by omega)];omega
    have hw2:IntKind.i64.wrap (q.length:Int)=q.length:=IntWalk.i64_in _ (by omega);have k0:(0:Int)<=(q.length:Int)+1:=(by omega);have k1:(q.length:Int)+1 < (l.length:Int):=(by omega);have k2:(0:Int)<=(q.length:Int):=(by omega);have k3:(q.length:Int) < (l.length:Int):=(by omega);have k4:((q.length:Int)+1).toNat=q.length+1:=(by omega);go_wp2_with fail
    go_region_held3 (fun W=>W.cell? ⟨gb,q.length * 2,none⟩=some (St la.1)/\W.cell? ⟨gb,q.length * 2+1,none⟩=some (U la.2)/\W.cell? ⟨gb,(q.length+1) * 2,none⟩=some (St m.1)/\W.cell? ⟨gb,(q.length+1) * 2+1,none⟩=some (U m.2)/\Ext wr W) (first | exact⟨hd0,hd1,hd2,hd3,(Ext.refl _).drew⟩ | exact⟨hb1.cell ‹_/\_/\_/\_/\Ext wr _›.1,hb1.cell ‹_/\_/\_/\_/\Ext wr _›.2.1,hb1.cell ‹_/\_/\_/\_/\Ext wr _›.2.2.1,hb1.cell ‹_/\_/\_/\_/\Ext wr _›.2.2.2.1,‹_/\_/\_/\_/\Ext wr _›.2.2.2.2.trans hb1⟩) (first | (go_at_call 133;refine (HT.out m la _).mono ?_;rintro e w1 ⟨rfl,hb1⟩))
    have hx1:Ext wr w1:=‹_/\_/\_/\_/\Ext wr _›.2.2.2.2;have hb2:Ext w w1:=hb.trans hx1;rename_i hheld;clear hheld hd0 hd1 hd2 hd3;cases hqm:m.1 == la.1
    ·go_wp2;go_roundw
     case rel=>exact⟨q++[la],post,m,by rw [HL.out];simp,by simp,by rw [zga,HQ.out,hqm];rfl,hb2⟩
     case measure=>simp [intOf];omega
    ·have hne:¬ cap=q.length+1:=(by omega);have hwk:RowIs w1 gb 97 (l.flatMap zaj) tail:=HR.out.ext hb2;have HK:=zH hwk;clear hwk;go_wp2_with fail
     go_loopw [5,7] (fun i k wr=>∃ (p0 post kept junk:List Mark) (la:Mark) (j:Nat),l=p0++la :: post/\i=I kept.length/\k=I ((j:Int)+1)/\kept=zb0 (p0++[la])/\kept.length+junk.length=p0.length/\p0.length=q.length+1+j/\RowIs wr gb 97 ((kept++junk++la :: post).flatMap zaj) tail/\Below base w wr) (fun _ k _=>l.length - (intOf k).toNat)
     case atStart =>
      refine ⟨q++[la],post,q++[la],[],m,0,by rw [HL.out];simp,by simp,rfl,by rw [zga,HQ.out,hqm];simp,by simp,by simp,?_,hb2.below hbase⟩;have:=HK.out;rw [HL.out] at this
      simpa using this
     case round =>
      clear hb hx1 hb2 hb1 HL HQ HK hw hw2 k0 k1 k2 k3 k4;obtain⟨p0,post,kept,junk,la,j,hl,rfl,rfl,hk,hkj,hp0,hrow,hb⟩:=hrel;have hlen:l.length=q.length+1+j+1+post.length:=by rw [hl];simp;omega
      cases post with
      | cons m post =>
       have hx:=zgh (kept++junk) (m :: post) la;have hy:=zgh (kept++junk++[la]) post m;rw [List.length_append,hkj,hp0] at hx;rw [List.append_assoc,List.length_append,List.length_append,hkj,hp0] at hy;have hd0:=hrow.cell hx.1;have hd1:=hrow.cell hx.2;have hd2:=hrow.cell hy.1;have hd3:=hrow.cell hy.2;simp only [List.length_cons,List.length_nil,Nat.zero_add] at hd2 hd3;rw [show (q.length+1+j) * 2=(q.length+1) * 2+j * 2 by omega] at hd0 hd1;rw [show (q.length+1+j+1) * 2=(q.length+1) * 2+(j+1) * 2 by omega] at hd2 hd3;have hkl:kept.length < l.length:=(by omega);have hjl:j+1 < l.length - (q.length+1):=by simp at hlen;omega
       have hw:IntKind.i64.wrap ((j:Int)+1 - 1)=j:=by rw [IntWalk.i64_in _ (by omega)];omega
       have hw2:IntKind.i64.wrap (j:Int)=j:=IntWalk.i64_in _ (by omega);have k0:(0:Int)<=(j:Int)+1:=(by omega);have k1:(j:Int)+1 < ((l.length - (q.length+1):Nat):Int):=(by omega);have k2:(0:Int)<=(j:Int):=(by omega);have k3:(j:Int) < ((l.length - (q.length+1):Nat):Int):=(by omega);have k4:((j:Int)+1).toNat=j+1:=(by omega);have HL:=zH hl;have HK:=zH hk;have HKJ:=zH hkj;have HP0:=zH hp0;have HRow:=zH hrow;clear hl hk hkj hp0 hrow hx hy hlen;go_wp2_with fail
       go_region_held3 (fun W=>W.cell? ⟨gb,(q.length+1) * 2+j * 2,none⟩=some (St la.1)/\W.cell? ⟨gb,(q.length+1) * 2+j * 2+1,none⟩=some (U la.2)/\W.cell? ⟨gb,(q.length+1) * 2+(j+1) * 2,none⟩=some (St m.1)/\W.cell? ⟨gb,(q.length+1) * 2+(j+1) * 2+1,none⟩=some (U m.2)/\Ext wr W) (first | exact⟨hd0,hd1,hd2,hd3,(Ext.refl _).drew⟩ | exact⟨hb1.cell ‹_/\_/\_/\_/\Ext wr _›.1,hb1.cell ‹_/\_/\_/\_/\Ext wr _›.2.1,hb1.cell ‹_/\_/\_/\_/\Ext wr _›.2.2.1,hb1.cell ‹_/\_/\_/\_/\Ext wr _›.2.2.2.1,‹_/\_/\_/\_/\Ext wr _›.2.2.2.2.trans hb1⟩) (first | (go_at_call 133;refine (HT.out m la _).mono ?_;rintro e w2 ⟨rfl,hb1⟩))
       have hx2:Ext wr w2:=‹_/\_/\_/\_/\Ext wr _›.2.2.2.2;have hm2:=‹_/\_/\_/\_/\Ext wr _›.2.2.1;have hm3:=‹_/\_/\_/\_/\Ext wr _›.2.2.2.1;have hb2:Below base w w2:=Below.trans hb (hx2.below (Nat.le_trans hbase hb.size));have hrow2:=HRow.out.ext hx2;rename_i hheld;clear hheld hd0 hd1 hd2 hd3 hb1;cases hqm2:m.1 == la.1
       ·obtain⟨x,rest,hjx⟩:∃ x rest,junk++[la]=x :: rest:=by cases junk with | nil=>exact⟨la,[],rfl⟩ | cons x r=>exact⟨x,r++[la],rfl⟩
        have hr3:RowIs w2 gb 97 ((kept++x :: (rest++m :: post)).flatMap zaj) tail:=by
         have e:kept++junk++la :: m :: post=kept++x :: (rest++m :: post):=by rw [show kept++junk++la :: m :: post=kept++(junk++[la])++(m :: post) by simp,hjx];simp
         rwa [e] at hrow2
        have hz:=zgh kept (rest++m :: post) x;have hc0:=hr3.cell hz.1;have hc1:=hr3.cell hz.2;have hf0:=hr3.frozen (kept.length * 2);have hf1:=hr3.frozen (kept.length * 2+1);have HR3:=zH hr3;have HJX:=zH (congrArg List.length hjx);clear hr3 hrow2 hz hjx;go_wp2;go_roundw
        case rel =>
         refine ⟨p0++[la],post,kept++[m],rest,m,j+1,by rw [HL.out];simp,by simp,by simp,by rw [zga,<- HK.out,hqm2];rfl,?_,?_,?_,?_⟩
         ·have h1:=HKJ.out;have h2:=HJX.out;simp at h2 ⊢;omega
         ·have:=HP0.out;simp;omega
         ·have:=HR3.out.setMark m
          simpa using this
         ·exact (hb2.setCell (by simp;omega) _).setCell (by simp;omega) _
        case measure=>simp [intOf];omega
       ·go_wp2;go_roundw
        case rel =>
         refine ⟨p0++[la],post,kept,junk++[la],m,j+1,by rw [HL.out];simp,by simp,by simp,by rw [zga,<- HK.out,hqm2];simp,?_,?_,by simpa using hrow2,hb2⟩
         ·have h1:=HKJ.out;simp;omega
         ·have:=HP0.out;simp;omega
        case measure=>simp [intOf];omega
      | nil =>
       have hxl:((kept++junk++[la]).flatMap zaj).length=(kept.length+(l.length - kept.length)) * 2:=by rw [zb4];simp at hlen ⊢;omega
       have hkl:kept.length < l.length:=(by simp at hlen;omega);have hjl:¬ (j:Int)+1 < ((l.length - (q.length+1):Nat):Int):=(by simp at hlen;omega);obtain⟨i,hi,hzero,-,-⟩:=info_parts zgp;obtain⟨zs,hzl,hcl⟩:=zig (P:=Tryz.prog) (t:=22) (o:=kept.length) (n:=l.length - kept.length) (c:=cap - kept.length) Tryz.underlying22 hi hzero (k:=2) rfl (by intro u hu;simp [Value.cells] at hu;rcases hu with rfl | rfl <;> rfl) hrow (by omega) hxl 0;rw [List.append_assoc kept junk [la],znu] at hcl;have HRow:=zH hrow;have HZ:=zH hzl;have hne2:¬ cap=kept.length:=(by omega);have HK:=zH hk;have HL:=zH hl;clear hkj hp0 hrow hxl hi hzero hzl hk hl hlen;go_wp2_with fail;go_ret;rw [HL.out,<- HK.out];have hW:=HRow.out.setRow (kept.flatMap zaj++zs);rw [List.append_assoc] at hW;refine ⟨_,rfl,hW.own hgb (by omega) hcm ?_ ?_ (zb4 _),?_⟩
       ·have h1:=HCL.out;have h2:=HZ.out;simp only [List.length_append,zb4] at h1 ⊢;omega
       ·rw [<- zb4 kept,List.take_left]
       ·exact zi7 hb hgb _
   | nil=>have hq2:¬ (q.length:Int)+1 < (l.length:Int):=(by simp at hlen;omega);have HC:zb0 l=l:=(by rw [hl];exact hcq);have HC':=zH HC;clear hl hcq hlen HC;go_wp2_with fail;go_ret;exact⟨_,rfl,by rw [HC'.out];exact HV.out.ext hb,hb.below hbase⟩
end
section
open Go.Sort
theorem zt9 {α:Type} {lt:α->α->Bool} (h1:∀ x,lt x x=false) (h2:∀ x y z,lt x y=true->lt y z=true->lt x z=true) (h3:∀ x y,lt x y=true ∨ x=y ∨ lt y x=true):SWO lt where
 irrefl:=h1
 trans x y z:=h2 x y z
 ntrans x y z a b:=zbt fun c=>by
  rcases h3 x y with d | rfl | d
  ·rw [d] at a;cases a
  ·rw [c] at b;cases b
  ·rcases h3 y z with e | rfl | e
   ·rw [e] at b;cases b
   ·rw [c] at a;cases a
   ·have:=h2 _ _ _ (h2 _ _ _ e d) c;rw [h1] at this;cases this
theorem zsm {α:Type} {lt:α->α->Bool} (h3:∀ x y,lt x y=true ∨ x=y ∨ lt y x=true) (x y:α) (a:lt x y=false) (b:lt y x=false):x=y:=by
 rcases h3 x y with c | c | c
 ·rw [c] at a;cases a
 ·exact c
 ·rw [c] at b;cases b
theorem zsn (a:Mark):ltOf cmpD a a=false:=zbt fun h=>by
 rcases cmpD_lt.1 h with h | ⟨-,h⟩
 ·rw [zap] at h;cases h
 ·omega
theorem znv (a b c:Mark) (h:ltOf cmpD a b=true) (k:ltOf cmpD b c=true):ltOf cmpD a c=true:=by
 rw [cmpD_lt] at *;rcases h with h | ⟨e,h⟩ <;> rcases k with k | ⟨f,k⟩
 ·exact .inl (zay h k)
 ·exact .inl (f ▸ h)
 ·exact .inl (e ▸ k)
 ·exact .inr ⟨e.trans f,by omega⟩
theorem zy5 (a b:Mark):ltOf cmpD a b=true ∨ a=b ∨ ltOf cmpD b a=true:=by
 rw [cmpD_lt,cmpD_lt];rcases zcj a.1 b.1 with h | h | h
 ·exact .inl (.inl h)
 ·rcases Nat.lt_trichotomy a.2 b.2 with k | k | k
  ·exact .inl (.inr ⟨h,k⟩)
  ·exact .inr (.inl (Prod.ext h k))
  ·exact .inr (.inr (.inr ⟨h.symm,k⟩))
 ·exact .inr (.inr (.inl h))
def cmpP (p q:zan):Int:=orI (cmpS p.1 q.1) (cmpD p.2 q.2)
theorem cmpP_lt {a b:zan}:ltOf cmpP a b=true↔ltS a.1 b.1=true ∨ (a.1=b.1/\ltOf cmpD a.2 b.2=true):=by
 unfold ltOf cmpP orI;rw [decide_eq_true_eq]
 by_cases h:a.1=b.1
 ·rw [if_neg (by rw [cmpS_eq.2 h];simp)];simp [h,zap]
 ·rw [if_pos (fun e=>h (cmpS_eq.1 e)),cmpS_lt];simp [h]
theorem zj1 (a:zan):ltOf cmpP a a=false:=zbt fun h=>by
 rcases cmpP_lt.1 h with h | ⟨-,h⟩
 ·rw [zap] at h;cases h
 ·rw [zsn] at h;cases h
theorem znw (a b c:zan) (h:ltOf cmpP a b=true) (k:ltOf cmpP b c=true):ltOf cmpP a c=true:=by
 rw [cmpP_lt] at *;rcases h with h | ⟨e,h⟩ <;> rcases k with k | ⟨f,k⟩
 ·exact .inl (zay h k)
 ·exact .inl (f ▸ h)
 ·exact .inl (e ▸ k)
 ·exact .inr ⟨e.trans f,znv _ _ _ h k⟩
theorem zm9 (a b:zan):ltOf cmpP a b=true ∨ a=b ∨ ltOf cmpP b a=true:=by
 rw [cmpP_lt,cmpP_lt];rcases zcj a.1 b.1 with h | h | h
 ·exact .inl (.inl h)
 ·rcases zy5 a.2 b.2 with k | k | k
  ·exact .inl (.inr ⟨h,k⟩)
  ·exact .inr (.inl (Prod.ext h k))
  ·exact .inr (.inr (.inr ⟨h.symm,k⟩))
 ·exact .inr (.inr (.inl h))
theorem zhm:SWO (ltOf cmpP):=zt9 zj1 znw zm9
theorem zjs (a b:zan) (h1:ltOf cmpP a b=false) (h2:ltOf cmpP b a=false):a=b:=zsm zm9 a b h1 h2
theorem zld {α:Type} {lt:α->α->Bool} (hO:SWO lt) (anti:∀ a b,lt a b=false->lt b a=false->a=b) {l1 l2:List α} (h:l1.Perm l2):zco lt l1=zco lt l2 :=
 zej anti (((zbq l1).trans h).trans (zbq l2).symm) (zdn hO l1) (zdn hO l2)
def zab (l:List Item):List zan:=l.flatMap fun it=>it.2.map fun d=>(it.1,d)
def zb5 (l:List Item) (p:zan):List Item :=
 match l.getLast? with
 | none=>[(p.1,[p.2])]
 | some it=>if it.1 == p.1 then l.dropLast++[(it.1,it.2++[p.2])] else l++[(p.1,[p.2])]
def zep (ps:List zan):List Item:=ps.foldl zb5 []
def za7 (ks:List zan):List Item:=zep (zco (ltOf cmpP) ks)
theorem zfe {a b:List zan} (h:a.Perm b):za7 a=za7 b:=by unfold za7;rw [zld zhm zjs h]
theorem zqj (p:zan):zb5 [] p = [(p.1,[p.2])]:=rfl
theorem zhn (pre:List Item) (t:Str) (ds:List Dot) (d:Dot):zb5 (pre++[(t,ds)]) (t,d)=pre++[(t,ds++[d])]:=by simp [zb5]
theorem zg3 (pre:List Item) (it:Item) (p:zan) (h:(it.1 == p.1)=false):zb5 (pre++[it]) p=pre++[it]++[(p.1,[p.2])]:=by simp [zb5,h]
theorem zhv (ps:List zan) (p:zan):zep (ps++[p])=zb5 (zep ps) p:=by simp [zep]
end
end Go.Proofs.YtaabaflgeljbjaaGreat
