/- strings.Cut at one sign. -/
import Derived.Test.YtblkikjmocnllaaGreatDoorQz03
import Derived.Test.YtblkikjmocnllaaGreatDoorQz04
import Derived.Shelf.RegionOpenPlain
import Derived.Laws.Strings3
import Derived.BigCall
import Derived.BigGuard
import Derived.Deep.Draws
set_option linter.unusedVariables false
set_option linter.unusedSimpArgs false
set_option maxRecDepth 100000
set_option maxHeartbeats 40000000
namespace Go.Proofs.YtblkikjmocnllaaGreatDoor
section
open Go.RowKit Go.Shelf
def cutC (c:UInt8):Str->Str × Option Str
 | []=>([],none)
 | b :: r=>if b=c then ([],some r) else (b :: (cutC c r).1,(cutC c r).2)
theorem cutC_none {c:UInt8}:∀ {s:Str},(cutC c s).2=none->(cutC c s).1=s/\Lib.indexByte s c = -1/\c ∉ s
 | [],_=>⟨rfl,rfl,by simp⟩
 | b :: r,h=>by
  unfold cutC at h ⊢
  unfold Lib.indexByte
  by_cases hb:b=c
  ·rw [if_pos hb] at h;cases h
  ·rw [if_neg hb] at h ⊢
   obtain⟨h1,h2,h3⟩:=cutC_none (s:=r) h
   have hb':(b == c)=false:=by simpa using hb
   simp only [h1,h2,hb',Bool.false_eq_true,if_false,beq_self_eq_true,if_true,true_and,List.mem_cons,not_or]
   exact⟨fun e=>hb e.symm,h3⟩
theorem cutC_some {c:UInt8} {q:Str}:∀ {s:Str},(cutC c s).2=some q->s=(cutC c s).1++c :: q/\Lib.indexByte s c=((cutC c s).1.length:Int)/\c ∉ (cutC c s).1
 | [],h=>by cases h
 | b :: r,h=>by
  unfold cutC at h ⊢
  unfold Lib.indexByte
  by_cases hb:b=c
  ·rw [if_pos hb] at h ⊢
   cases h
   subst hb
   simp
  ·rw [if_neg hb] at h ⊢
   obtain⟨h1,h2,h3⟩:=cutC_some (s:=r) h
   have hb':(b == c)=false:=by simpa using hb
   have hn:(((cutC c r).1.length:Int) == -1)=false:=by rw [beq_eq_false_iff_ne];omega
   simp only [h2,hb',Bool.false_eq_true,if_false,hn,List.length_cons,List.cons_append,List.cons.injEq,true_and,List.mem_cons,not_or,Int.natCast_add]
   exact⟨h1,rfl,fun e=>hb e.symm,h3⟩
theorem splitC_cut (c:UInt8):∀ s:Str,splitC c s=(cutC c s).1 :: (match (cutC c s).2 with | none=>[] | some r=>splitC c r)
 | []=>rfl
 | b :: r=>by
  rw [splitC,cutC]
  by_cases hb:b=c
  ·rw [if_pos hb,if_pos hb]
  ·rw [if_neg hb,if_neg hb,splitC_cut c r]
theorem ext_take (a b:Str):(⟨(a++b).toArray⟩:ByteArray).extract 0 a.length=⟨a.toArray⟩:=by
 apply ByteArray.ext
 rw [ByteArray.data_extract]
 simp
theorem ext_drop (a b:Str) (k:Nat) (hk:k=a.length) (n:Nat) (hn:n=(a++b).length):(⟨(a++b).toArray⟩:ByteArray).extract k n=⟨b.toArray⟩:=by
 subst hk hn
 apply ByteArray.ext
 rw [ByteArray.data_extract]
 simp
theorem slCut_any (s:Str) (c:UInt8) (hl:s.length < 4611686018427387904) (w:World):Calls Tryz.prog 206 #[St s,.string ⟨#[c]⟩] w fun e w'=>e=.returned (.tuple #[St (cutC c s).1,St ((cutC c s).2.getD []),.bool (cutC c s).2.isSome])/\∃ n,w'=w.drewN n:=by
 have H:=Lib.hid (Any.stringslite_Index_one Tryz.lays219 ⟨s.toArray⟩ c w)
 cases hc:(cutC c s).2 with
 | none =>
  obtain⟨h1,h2,h3⟩:=cutC_none hc
  rw [h1]
  have H:=Lib.hid (H.out.mono (R':=fun e w'=>e=.returned (I (-1))/\w'=w) (by rintro e w' ⟨rfl,rfl⟩;exact⟨by rw [<- h2],rfl⟩))
  clear hc h1 h2 h3
  go_enter Tryz.func206,Tryz.ntmps206
  go_wp2_with fail
  refine H.out.mono ?_
  rintro e w' ⟨rfl,rfl⟩
  go_wp2
  refine bodyPost_ret (v:=.tuple #[St s,St [],.bool false]) (by simp [results,Tryz.f206,go_sem]) rfl ?_
  exact⟨rfl,0,rfl⟩
 | some q =>
  obtain⟨h1,h2,h3⟩:=cutC_some hc
  generalize (cutC c s).1=f at *
  subst h1
  have H:=Lib.hid (H.out.mono (R':=fun e w'=>e=.returned (I f.length)/\w'=w) (by rintro e w' ⟨rfl,rfl⟩;exact⟨by rw [<- h2],rfl⟩))
  clear hc h2 h3
  obtain⟨S,hS⟩:∃ S:ByteArray,⟨(f++c :: q).toArray⟩=S:=⟨_,rfl⟩
  have hz:S.size=f.length+1+q.length:=by rw [<- hS];simp [ByteArray.size];omega
  have e1:=Lib.hid (show S.extract 0 f.length=⟨f.toArray⟩ by rw [<- hS];exact ext_take f (c :: q))
  have e2:=Lib.hid (show S.extract (f.length+1) S.size=⟨q.toArray⟩ by rw [<- hS,show f++c :: q=(f++[c])++q by simp];exact ext_drop (f++[c]) q _ (by simp) _ (by simp [ByteArray.size]))
  rw [hS] at H
  rw [show St (f++c :: q)=.string S from congrArg Value.string hS]
  clear hS
  have c1:(0:Int)<=↑f.length:=by omega
  have c2:(↑f.length:Int)<=↑S.size:=by omega
  have c3:(0:Int)<=↑f.length+1:=by omega
  have c4:(↑f.length+1:Int)<=↑S.size:=by omega
  have c5:IntKind.i64.wrap ((f.length:Int)+1)=(f.length:Int)+1:=by
   simp at hl
   exact wrap_small _ (by omega) (by omega)
  have mixed:=Tryz.lays219.mixed
  clear hz hl
  go_enter Tryz.func206,Tryz.ntmps206
  go_wp2_with fail
  refine H.out.mono ?_
  rintro e w' ⟨rfl,rfl⟩
  go_wp2
  go_region_o
  go_wp2
  refine bodyPost_ret (v:=.tuple #[.string (S.extract 0 f.length),.string (S.extract (f.length+1) S.size),.bool true]) (by simp [results,Tryz.f206,go_sem]) rfl ?_
  exact⟨by rw [e1.out,e2.out];rfl,1,rfl⟩
theorem cut_any (s:Str) (c:UInt8) (hl:s.length < 4611686018427387904) (w:World):Calls Tryz.prog 175 #[St s,.string ⟨#[c]⟩] w fun e w'=>e=.returned (.tuple #[St (cutC c s).1,St ((cutC c s).2.getD []),.bool (cutC c s).2.isSome])/\∃ n,w'=w.drewN n:=by
 have H:=Lib.hid (slCut_any s c hl w)
 clear hl
 generalize cutC c s=x at *
 go_enter Tryz.func175,Tryz.ntmps175
 go_wp2_with fail
 refine H.out.mono ?_
 rintro e w' ⟨rfl,hw⟩
 have HW:=Lib.hid hw
 clear hw
 go_wp2
 refine bodyPost_ret (v:=.tuple #[St x.1,St (x.2.getD []),.bool x.2.isSome]) (by simp [results,Tryz.f175,go_sem]) rfl ?_
 exact⟨rfl,HW.out⟩
end
end Go.Proofs.YtblkikjmocnllaaGreatDoor
