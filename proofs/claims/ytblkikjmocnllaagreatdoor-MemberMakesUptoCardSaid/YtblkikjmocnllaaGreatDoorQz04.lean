/- path.number: a figure's number. -/
import Derived.Test.YtblkikjmocnllaaGreatDoorProg
import Derived.Test.YtblkikjmocnllaaGreatDoorQz01
import Derived.Lib.Walk
set_option linter.unusedVariables false
set_option linter.unusedSimpArgs false
set_option maxRecDepth 100000
set_option maxHeartbeats 40000000
namespace Go.Proofs.YtblkikjmocnllaaGreatDoor
section
open Go.RowKit
theorem byte_zero (b:UInt8) (r:Str) (h:0 < ByteArray.size ⟨(b :: r).toArray⟩):(⟨(b :: r).toArray⟩:ByteArray)[0]'h=b:=rfl
theorem byte_at (pre post:Str) (x:UInt8) (h:pre.length < ByteArray.size ⟨(pre++x :: post).toArray⟩):(⟨(pre++x :: post).toArray⟩:ByteArray)[pre.length]'h=x:=by
 show (pre++x :: post)[pre.length]'_=x
 simp
attribute [local go_sem] byte_zero byte_at
theorem number_any (s:Str) (w:World):Calls Tryz.prog 176 #[St s] w fun e w'=>e=.returned (I (numS s))/\w=w':=by
 obtain⟨K,hK⟩:∃ K,numS s=K:=⟨_,rfl⟩
 rw [hK]
 have HS:=Lib.hid hK
 clear hK
 cases s with
 | nil =>
  go_enter Tryz.func176,Tryz.ntmps176
  go_wp2
  go_ret
  exact⟨by rw [<- HS.out];rfl,rfl⟩
 | cons b r =>
  by_cases h10:10 < (b :: r).length
  ·have HK:=Lib.hid (show 0=K by rw [<- HS.out];unfold numS;rw [if_pos (by simp only [h10,decide_true,Bool.or_true,Bool.true_or])])
   clear HS
   have h1:((r.length:Int)+1) > 10:=by simp at h10;omega
   go_enter Tryz.func176,Tryz.ntmps176
   go_wp2
   go_ret
   exact⟨by rw [<- HK.out];rfl,rfl⟩
  ·have h1:¬ ((r.length:Int)+1) > 10:=by simp at h10;omega
   by_cases hb:b=48
   ·subst hb
    have HK:=Lib.hid (show 0=K by rw [<- HS.out];unfold numS;simp)
    clear HS
    go_enter Tryz.func176,Tryz.ntmps176
    go_wp2
    go_ret
    exact⟨by rw [<- HK.out];rfl,rfl⟩
   ·have h2:((b.toNat:Int) == 48)=false:=by
     rw [beq_eq_false_iff_ne]
     intro e
     exact hb (UInt8.toNat_inj.1 (by simpa using Int.ofNat_inj.1 e))
    have HK:=Lib.hid (show (if (b :: r).all digB then if 1073741824 < digV (b :: r) 0 then 0 else digV (b :: r) 0 else 0)=K by
     rw [<- HS.out]
     unfold numS
     simp only [List.isEmpty_cons,Bool.false_or,h10,decide_false,List.head?_cons,Bool.not_eq_true']
     have:(some b == some 48)=false:=by simpa using hb
     rw [this,Bool.false_or]
     by_cases h:(b :: r).all digB=true
     ·simp [h]
     ·simp [h])
    clear HS
    have HL:=Lib.hid (show (b :: r).length<=10 by omega)
    go_enter Tryz.func176,Tryz.ntmps176
    go_wp2
    obtain⟨s,hs⟩:∃ s,b :: r=s:=⟨_,rfl⟩
    have hl:(r.length:Int)+1=s.length:=by rw [<- hs];simp
    simp only [hl,hs]
    rw [hs] at HK HL
    clear hs hl h1 h10 h2 hb r
    go_loopw [3,4,19] (fun n _ i w'=>∃ pre post,s=pre++post/\i=I pre.length/\n=I (digV pre 0)/\pre.all digB=true/\w=w') (fun _ _ i _=>s.length - (intOf i).toNat)
    case atStart=>exact⟨[],s,rfl,rfl,rfl,rfl,rfl⟩
    case round =>
     obtain⟨pre,post,hsp,rfl,rfl,hd,rfl⟩:=hrel
     cases post with
     | nil =>
      rw [List.append_nil] at hsp
      subst hsp
      have HK:=Lib.hid (show (if 1073741824 < digV s 0 then 0 else digV s 0)=K by rw [<- HK.out,if_pos hd])
      clear hd
      by_cases hg:1073741824 < digV s 0
      ·have hg':((digV s 0:Nat):Int) > 1073741824:=by omega
       have HK:=Lib.hid (show 0=K by rw [<- HK.out,if_pos hg])
       clear hg
       go_wp2
       go_ret
       exact⟨by rw [<- HK.out];rfl,rfl⟩
      ·have hg':¬ ((digV s 0:Nat):Int) > 1073741824:=by omega
       have HK:=Lib.hid (show digV s 0=K by rw [<- HK.out,if_neg hg])
       clear hg
       go_wp2
       go_ret
       exact⟨by rw [<- HK.out];rfl,rfl⟩
     | cons x post =>
      subst hsp
      have hll:pre.length<=9:=by have:=HL.out;simp at this;omega
      have hv:=digV_lt pre 0 1 (by omega) hd
      have hp:10 ^ pre.length<=10 ^ 9:=Nat.pow_le_pow_right (by omega) hll
      have hx:=x.toNat_lt
      have hlt:(pre.length:Int) < (pre++x :: post).length:=by simp;omega
      by_cases h1:x.toNat < 48
      ·have h1':(x.toNat:Int) < 48:=by omega
       have HK:=Lib.hid (show 0=K by rw [<- HK.out,if_neg];simp [digB];intro _ h;omega)
       clear hd hv hp
       go_wp2
       go_ret
       exact⟨by rw [<- HK.out];rfl,rfl⟩
      ·have h1':¬ (x.toNat:Int) < 48:=by omega
       by_cases h2:57 < x.toNat
       ·have h2':(x.toNat:Int) > 57:=by omega
        have HK:=Lib.hid (show 0=K by rw [<- HK.out,if_neg];simp [digB];intro _ h;omega)
        clear hd hv hp
        go_wp2
        go_ret
        exact⟨by rw [<- HK.out];rfl,rfl⟩
       ·have h2':¬ (x.toNat:Int) > 57:=by omega
        go_wp2
        go_roundw
        case rel =>
         refine ⟨pre++[x],post,by simp,by simp,?_,by simp [hd,digB];omega,trivial⟩
         rw [digV_append]
         simp only [digV]
         congr 1
         omega
        case measure=>simp [intOf];omega
end
end Go.Proofs.YtblkikjmocnllaaGreatDoor
