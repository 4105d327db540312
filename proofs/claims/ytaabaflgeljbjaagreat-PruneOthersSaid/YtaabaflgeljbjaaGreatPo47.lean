/- gossamerref01.Runes, Kind at a key of a kind. -/
import Derived.Test.YtaabaflgeljbjaaGreatPo46
import Derived.Test.YtaabaflgeljbjaaGreatPo12
set_option linter.unusedVariables false
set_option linter.unusedSimpArgs false
set_option maxRecDepth 100000
set_option maxHeartbeats 40000000
namespace Go.Proofs.YtaabaflgeljbjaaGreat
section
open Go.RowKit Go.Shelf
inductive RunesOf:Str->List Nat->Prop
 |nil:RunesOf [] []
 |cons {t:Str} {R:List Nat}:OkR t->RunesOf (t.drop (dnS t).2) R->RunesOf t ((dnS t).1 :: R)
theorem zyw (n c b1 b2 b3:Nat) (h:128<=c) (h2:¬ 2<=(Go.Lib.decodeN n c b1 b2 b3).2):Go.Lib.decodeN n c b1 b2 b3=(65533,1):=by
 unfold Go.Lib.decodeN at h2 ⊢
 repeat' split
 all_goals (first | rfl | omega | (exfalso;simp_all;done) | skip)
 all_goals (simp_all;try omega)
theorem zx5 (n b3:Nat) (h:2 < n):Go.Lib.decodeN n 239 191 189 b3=(65533,3):=by
 unfold Go.Lib.decodeN;have h1:1 < n:=by omega
 simp [h,h1]
theorem zph (t:Str) (n:Nat):(⟨t.toArray⟩:ByteArray).extract 0 n=⟨(t.take n).toArray⟩:=by
 apply ByteArray.ext
 apply Array.ext'
 simp [ByteArray.extract,ByteArray.copySlice]
theorem zpi {s:Str} {pos:Nat} (hp:pos < s.length) (h:zdz ⟨s.toArray⟩ pos (Utf8.decode ⟨s.toArray⟩ pos).1=false):OkR (s.drop pos):=by
 have hne:s.drop pos ≠ []:=by simp;omega
 refine ⟨hne,?_⟩
 by_cases h0:btN (s.drop pos) 0 < 128
 ·exact .inl h0
 refine .inr (Classical.byContradiction fun h2=>?_);have he:dnS (s.drop pos)=(65533,1):=zyw _ _ _ _ _ (by omega) h2;rw [zpd,he] at h
 have hpre:zhg ((⟨s.toArray⟩:ByteArray).extract pos (⟨s.toArray⟩:ByteArray).size) ⟨#[239,191,189]⟩=true:=by
  unfold zdz at h
  simpa using h
 rw [show (⟨s.toArray⟩:ByteArray).size=s.length by simp [ByteArray.size],zpc] at hpre;unfold zhg at hpre;rw [Bool.and_eq_true,show (⟨#[239,191,189]⟩:ByteArray).size=3 from rfl,zph,show (⟨#[239,191,189]⟩:ByteArray)=⟨([239,191,189]:Str).toArray⟩ from rfl,ztz] at hpre;obtain⟨p1,p2⟩:=hpre;have p2:([239,191,189]:Str)=(s.drop pos).take 3:=by simpa using p2
 have p1:3<=(s.drop pos).length:=by simpa [ByteArray.size] using p1
 obtain⟨t,ht⟩:∃ t,s.drop pos=t:=⟨_,rfl⟩
 rw [ht] at p1 p2 he
 match t,p1,p2,he with
 | a :: b :: c :: r,p1,p2,he=>simp only [List.take_succ_cons,List.take_zero,List.cons.injEq,and_true] at p2;obtain⟨rfl,rfl,rfl⟩:=p2;have:dnS (239 :: 191 :: 189 :: r)=(65533,3):=zx5 _ _ (by simp);rw [this] at he;simp at he
theorem zl8 (s:Str) (K:Nat) (hK:K ≠ 0):∀ (b pos n kind:Nat),zb8 ⟨s.toArray⟩ b pos n kind=K->s.length - pos<=b->n<=64 ->
  ∃ R,RunesOf (s.drop pos) R/\n+R.length<=64/\(∀ r ∈ R,zbn ((r:Nat):Int)=false)/\(n ≠ 0->kind=K)/\(n=0->kind=0->∃ r0 R',R=r0 :: R'/\zd9 ((r0:Nat):Int)=K)
 | b,pos,n,kind,h,hb,hn=>by
  by_cases hp:pos < s.length
  ·cases b with
   | zero=>omega
   | succ b =>
    unfold zb8 at h;rw [if_pos (by simpa [ByteArray.size] using hp)] at h
    by_cases hc:(if n=0 then zd9 (Utf8.decode ⟨s.toArray⟩ pos).1 else kind)=0 ∨ n=64 ∨ zbn (Utf8.decode ⟨s.toArray⟩ pos).1=true ∨ zdz ⟨s.toArray⟩ pos (Utf8.decode ⟨s.toArray⟩ pos).1=true
    ·rw [if_pos hc] at h;exact absurd h.symm hK
    ·rw [if_neg hc] at h;simp only [not_or,Bool.not_eq_true] at hc;obtain⟨c1,c2,c3,c4⟩:=hc;have hok:=zpi hp c4;rw [zpd] at h c1 c3
     have hw:1<=(dnS (s.drop pos)).2:=by
      unfold dnS Go.Lib.decodeN
      repeat' split
      all_goals simp
     obtain⟨R,r1,r2,r3,r4,-⟩:=zl8 s K hK b _ _ _ h (by omega) (by omega);rw [<- List.drop_drop] at r1;refine ⟨_,.cons hok r1,by simp;omega,fun r hr=>?_,fun h0=>?_,fun h0 hk0=>⟨_,R,rfl,?_⟩⟩
     ·rcases List.mem_cons.1 hr with rfl | hr
      ·exact c3
      ·exact r3 r hr
     ·have:=r4 (by omega);rw [if_neg h0] at this;exact this
     ·have:=r4 (by omega);rw [if_pos h0] at this;exact this
  ·rw [zjp _ _ _ _ _ (by simpa [ByteArray.size] using hp)] at h;refine ⟨[],by rw [List.drop_eq_nil_of_le (by omega)];exact .nil,by simpa using hn,by simp,fun _=>h,fun _ h0=>absurd (h.symm.trans h0) hK⟩
abbrev iR (R:List Nat):List Int:=R.map fun r:Nat=>(r:Int)
theorem zvn {s:Str} {K:Nat} (h:zaq s=K) (hK:K ≠ 0):∃ r0 R,RunesOf s (r0 :: R)/\R.length < 64/\(∀ r ∈ r0 :: R,zbn ((r:Nat):Int)=false)/\zd9 ((r0:Nat):Int)=K:=by
 obtain⟨R,h1,h2,h3,-,h5⟩:=zl8 s K hK s.length 0 0 0 h (by omega) (by omega);obtain⟨r0,R',rfl,h6⟩:=h5 rfl rfl;exact⟨r0,R',by simpa using h1,by simp at h2;omega,h3,h6⟩
theorem zn0 (s:Str) (R:List Nat) (w:World) (hR:RunesOf s R) (hs:s.length<=1000000):Calls Tryz.prog 106 #[St s] w fun e w'=>(∃ v:Value,e=.returned (.tuple #[v,.bool true])/\Sl intT w' (fun _=>True) v (iR R))/\Ext w w':=by
 have HR:=zH hR;clear hR;go_enter Tryz.func106,Tryz.ntmps106;go_wp2_with fail
 go_loopw [0,4] (fun sv o wr=>∃ (t:Str) (l R':List Nat),sv=St t/\R=l++R'/\Hid (RunesOf t R')/\t.length+l.length<=s.length/\Own wr w.heap.size 3 1 o (iR l).length ((iR l).flatMap fun x=>[I x])/\Ext w wr) (fun sv _ _=>zvl sv)
 case atStart=>exact⟨s,[],R,rfl,rfl,HR,by simp,Own.nil _ _ _ _ _,Ext.refl _⟩
 case round =>
  obtain⟨t,l,R',rfl,hl,hRO,hle,hown,hx⟩:=hrel;have HO:=zH hown;have HX:=zH hx;have HL:=zH hl;have hz:=hx.size;obtain⟨C,c,rfl,-,-⟩:=hown.form;clear hown hx hl
  cases ht:t.isEmpty with
  | true =>
   have htn:t = []:=(by simpa using ht);subst htn
   have hR0:R' = []:=by
    have h:=hRO.out
    cases h with
    | nil=>rfl
    | cons h1 h2=>exact absurd rfl h1.1
   subst hR0;have hRl:=HL.out;rw [List.append_nil] at hRl;have HRL:=zH hRl;clear hRl hRO;go_wp2_with fail
   (try simp only [Exit.inBlock,Exit.then])
   refine bodyPost_ret (v:=.tuple #[.slice C (iR l).length c,.bool true]) (by simp [results,Tryz.f106,go_sem]) rfl ?_;rw [HRL.out];exact⟨⟨_,rfl,(OwnL.sl (T:=intT) (S:=fun _=>True) (OwnL.flat_iff.2 HO.out) (by decide) (fun _ _ _=>trivial) (fun _ _ _=>trivial))⟩,HX.out⟩
  | false =>
   have htn:t ≠ []:=by rintro rfl;simp at ht
   obtain⟨R2,hok,hR2,hre⟩:∃ R2,OkR t/\RunesOf (t.drop (dnS t).2) R2/\R'=(dnS t).1 :: R2:=by
    have h:=hRO.out
    cases h with
    | nil=>exact absurd rfl htn
    | cons h1 h2=>exact⟨_,h1,h2,rfl⟩
   subst hre
   have hwn:1<=(dnS t).2:=by
    unfold dnS Go.Lib.decodeN
    repeat' split
    all_goals simp
   have HR2:=zH hR2;have HOK:=zH hok;clear hRO hR2 hok htn;go_wp2_with fail;refine (zpg t _).mono ?_;rintro e W ⟨⟨x,n,rfl,hn,hxn⟩,hxw⟩;obtain⟨rfl,rfl⟩:=hxn HOK.out;obtain⟨r,hr⟩:∃ r,(dnS t).1=r:=⟨_,rfl⟩
   obtain⟨k,hk⟩:∃ k,(dnS t).2=k:=⟨_,rfl⟩
   rw [hk] at HR2 hn hwn;rw [hr] at HL;rw [hr,hk];clear hr hk;have hn1:(k:Int)<=((⟨t.toArray⟩:ByteArray).size:Int):=(by simp [ByteArray.size];omega);have hn0:((k:Int) == 0)=false:=(by simp;omega);have HO:=zH (HO.out.ext hxw);have HX:=zH (HX.out.trans hxw);have hz:=HX.out.size;rw [List.length_map] at HO ⊢;clear hxw
   go_wp2_with (at_builtin;refine zag rfl (.tmp 16) (.tmp 18) 172 rfl w.heap.size 3 1 8 (I 0) Tryz.underlying172 zv0 rfl (by omega) _ l.length ((iR l).flatMap fun x=>[I x]) rfl (HO.out.ext ((Ext.refl _).alloc _)) _ 1 1 [I r] rfl (Src.new rfl (by intro u hu;simp at hu;rcases hu with rfl;rfl)) (by omega) (by omega) (by simp;omega) ?_;intro v2 w2 hown2 hgr2)
   go_roundw
   case rel=>exact⟨t.drop k,l++[r],R2,congrArg Value.string (zpc t k),by rw [HL.out];simp,HR2,by simp;omega,by simpa using hown2,Ext.grewOwn (HX.out.alloc _) hgr2 (HO.out.ext ((Ext.refl _).alloc _)) (Nat.le_refl _)⟩
   case measure=>simp [zvl,ByteArray.size];omega
end
end Go.Proofs.YtaabaflgeljbjaaGreat
