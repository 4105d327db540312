/- gossamerref01: what Read, Runes, Kind tell of a key of a kind. Printed by pp.py out of src/RefN3.src. -/
import Derived.Test.YtaabaflgeljbjaaGreatPo33
import Derived.Test.YtaabaflgeljbjaaGreatPo28
import Derived.Lib.TrimUEq
set_option linter.unusedVariables false
set_option linter.unusedSimpArgs false
set_option maxRecDepth 100000
set_option maxHeartbeats 40000000
namespace Go.Proofs.YtaabaflgeljbjaaGreat
section
open Go.RowKit Go.Shelf
def btN (s:Str) (i:Nat):Nat:=(s.getD i 0).toNat
def dnS (s:Str):Nat × Nat:=Go.Lib.decodeN s.length (btN s 0) (btN s 1) (btN s 2) (btN s 3)
def OkR (s:Str):Prop:=s ≠ []/\(btN s 0 < 128 ∨ 2<=(dnS s).2)
theorem zpd (s:Str) (pos:Nat):Utf8.decode ⟨s.toArray⟩ pos=dnS (s.drop pos):=by
 rw [Go.Lib.decode_N];unfold dnS btN;simp only [Go.Lib.getD_dropU,Nat.add_zero,List.length_drop]
theorem zxl (n c b1 b2 b3:Nat) (h:128<=c) (h2:c < 192 ∨ 248<=c) (hc:c < 256):¬ 2<=(Go.Lib.decodeN n c b1 b2 b3).2:=by
 unfold Go.Lib.decodeN
 repeat' split
 all_goals (first | omega | (simp;done))
theorem zvm (n c b1 b2 b3:Nat) (h1:192<=c) (h2:c < 224) (h:2<=(Go.Lib.decodeN n c b1 b2 b3).2) (k1:b1 < 256):1 < n/\128<=b1/\b1 < 192/\Go.Lib.decodeN n c b1 b2 b3=(64 * (c - 192)+b1 - 128,2)/\128<=64 * (c - 192)+b1 - 128:=by
 unfold Go.Lib.decodeN at h ⊢
 split at h
 ·omega
 ·rename_i g;rw [if_neg g]
  split at h
  ·rename_i g2;rw [if_pos g2]
   split at h
   ·rename_i g3;rw [if_pos g3];refine ⟨g2.2.1,by omega,by omega,?_,by omega⟩;exact Prod.ext (by simp only;omega) rfl
   ·simp at h
  ·split at h
   ·omega
   ·split at h
    ·omega
    ·simp at h
theorem zpe (n c b1 b2 b3:Nat) (h1:224<=c) (h2:c < 240) (h:2<=(Go.Lib.decodeN n c b1 b2 b3).2) (k1:b1 < 256) (k2:b2 < 256):2 < n/\(128<=b1/\b1 < 192)/\(128<=b2/\b2 < 192)/\Go.Lib.decodeN n c b1 b2 b3=(64 * (64 * (c - 224)+b1 - 128)+b2 - 128,3)/\2048<=64 * (64 * (c - 224)+b1 - 128)+b2 - 128/\(64 * (64 * (c - 224)+b1 - 128)+b2 - 128 < 55296 ∨ 57343 < 64 * (64 * (c - 224)+b1 - 128)+b2 - 128)/\64 * (64 * (c - 224)+b1 - 128)+b2 - 128<=1114111:=by
 unfold Go.Lib.decodeN at h ⊢
 split at h
 ·omega
 ·rename_i g;rw [if_neg g]
  split at h
  ·omega
  ·rename_i g2;rw [if_neg g2]
   split at h
   ·rename_i g3;rw [if_pos g3]
    split at h
    ·rename_i g4;rw [if_pos g4];refine ⟨g3.2.2.1,by omega,by omega,?_,by omega,by omega,by omega⟩;exact Prod.ext (by simp only;omega) rfl
    ·simp at h
   ·split at h
    ·omega
    ·simp at h
theorem zrl (n c b1 b2 b3:Nat) (h1:240<=c) (h2:c < 248) (h:2<=(Go.Lib.decodeN n c b1 b2 b3).2) (k1:b1 < 256) (k2:b2 < 256) (k3:b3 < 256):3 < n/\(128<=b1/\b1 < 192)/\(128<=b2/\b2 < 192)/\(128<=b3/\b3 < 192)/\Go.Lib.decodeN n c b1 b2 b3=(64 * (64 * (64 * (c - 240)+b1 - 128)+b2 - 128)+b3 - 128,4)/\65536<=64 * (64 * (64 * (c - 240)+b1 - 128)+b2 - 128)+b3 - 128/\(64 * (64 * (64 * (c - 240)+b1 - 128)+b2 - 128)+b3 - 128 < 55296 ∨ 57343 < 64 * (64 * (64 * (c - 240)+b1 - 128)+b2 - 128)+b3 - 128)/\64 * (64 * (64 * (c - 240)+b1 - 128)+b2 - 128)+b3 - 128<=1114111:=by
 unfold Go.Lib.decodeN at h ⊢
 split at h
 ·omega
 ·rename_i g;rw [if_neg g]
  split at h
  ·omega
  ·rename_i g2;rw [if_neg g2]
   split at h
   ·omega
   ·rename_i g3;rw [if_neg g3]
    split at h
    ·rename_i g4;rw [if_pos g4]
     split at h
     ·rename_i g5;rw [if_pos g5];refine ⟨g4.2.2.2.1,by omega,by omega,by omega,?_,by omega,by omega,by omega⟩;exact Prod.ext (by simp only;omega) rfl
     ·simp at h
    ·simp at h
theorem zxi (n c b1 b2 b3:Nat) (h:c < 128):Go.Lib.decodeN n c b1 b2 b3=(c,1):=by simp [Go.Lib.decodeN,h]
theorem zkc (s:Str) (i:Nat) (h:i < s.length):∃ c:Nat,c < 256/\((⟨s.toArray⟩:ByteArray)[i]'(by simpa [ByteArray.size] using h)).toNat=c/\btN s i=c:=⟨_,UInt8.toNat_lt _,rfl,by unfold btN;simp [List.getD,List.getElem?_eq_getElem h];rfl⟩
theorem zeo (s:Str) (i:Nat):btN s i < 256:=UInt8.toNat_lt _
def zzN (s:Str) (b:Nat):Nat->Nat
 | 0=>0
 | 1=>btN s 0 - b
 | k+2=>64 * zzN s b (k+1)+btN s (k+1) - 128
theorem zmm (s:Str) (b k:Nat) (h:1<=k):zzN s b (k+1)=64 * zzN s b k+btN s k - 128:=by
 obtain⟨j,rfl⟩:∃ j,k=j+1:=⟨k - 1,by omega⟩
 rfl
theorem zta {k n:Nat} (h:k<=n) (hn:n<=4):64 ^ k<=16777216:=Nat.le_trans (Nat.pow_le_pow_right (by decide) (Nat.le_trans h hn)) (by decide)
theorem zpf {k:Nat} (hn:k<=3):64 ^ k<=262144:=Nat.le_trans (Nat.pow_le_pow_right (by decide) hn) (by decide)
theorem zpg (s:Str) (w:World):Calls Tryz.prog 149 #[St s] w fun e w'=>(∃ (x:Int) (n:Nat),e=.returned (.tuple #[I x,I n])/\n<=s.length/\(OkR s->x=((dnS s).1:Nat)/\n=(dnS s).2))/\Ext w w':=by
 cases s with
 | nil =>
  go_enter Tryz.func149,Tryz.ntmps149;go_wp2_with fail
  (try simp only [Exit.inBlock,Exit.then])
  refine bodyPost_ret (v:=.tuple #[I 0,I 0]) (by simp [results,Tryz.f149,go_sem]) rfl ?_;exact⟨⟨_,0,rfl,Nat.zero_le _,fun ho=>absurd rfl ho.1⟩,Ext.refl _⟩
 | cons a r =>
  have e1:(a :: r).isEmpty=false:=by simp
  have hl:0 < (a :: r).length:=by simp
  obtain⟨s,hs⟩:∃ s,a :: r=s:=⟨_,rfl⟩
  rw [hs] at e1 hl ⊢;clear hs;obtain⟨c,hc,hi,hb0⟩:=zkc s 0 hl;have hcl:(c:Int) < 256:=by omega
  by_cases c1:(c:Int) < 128
  ·go_enter Tryz.func149,Tryz.ntmps149;go_wp2_with fail
   (try simp only [Exit.inBlock,Exit.then])
   refine bodyPost_ret (v:=.tuple #[I c,I 1]) (by simp [results,Tryz.f149,go_sem]) rfl ?_;exact⟨⟨_,1,rfl,hl,fun _=>(by unfold dnS;rw [zxi _ _ _ _ _ (by omega),hb0];exact⟨rfl,rfl⟩)⟩,Ext.refl _⟩
  ·by_cases c2:(c:Int) ≥ 192
   ·by_cases c3:(c:Int) < 224
    ·have c4:¬ (c:Int) ≥ 224:=by omega
     by_cases hn:(s.length:Int) < 2
     ·have HD:=zH (fun ho:OkR s=>zvm s.length (btN s 0) (btN s 1) (btN s 2) (btN s 3) (by omega) (by omega) (ho.2.resolve_left (by omega)) (zeo _ _));go_enter Tryz.func149,Tryz.ntmps149;go_wp2_with fail
      (try simp only [Exit.inBlock,Exit.then])
      refine bodyPost_ret (v:=.tuple #[I 0,I 0]) (by simp [results,Tryz.f149,go_sem]) rfl ?_;exact⟨⟨_,0,rfl,Nat.zero_le _,fun ho=>absurd (HD.out ho) (by omega)⟩,Ext.refl _⟩
     ·have hn2:2<=s.length:=(by omega);have HD:=zH (fun ho:OkR s=>zvm s.length (btN s 0) (btN s 1) (btN s 2) (btN s 3) (by omega) (by omega) (ho.2.resolve_left (by omega)) (zeo _ _));have HB0:=zH hb0;clear hb0;go_enter Tryz.func149,Tryz.ntmps149;go_wp2_with fail;clear hi
      go_loopw [6,8] (fun x i wr=>∃ (z k:Nat),x=I z/\i=I k/\Hid (zzN s 192 k=z/\z < 64 ^ k)/\1<=k/\k<=2/\wr=w) (fun _ i _=>2 - (intOf i).toNat)
      case atStart=>exact⟨c - 192,1,congrArg (Value.int .i64) (by omega),rfl,zH ⟨by rw [<- HB0.out];rfl,by simp;omega⟩,by decide,by decide,rfl⟩
      case round =>
       obtain⟨z,k,rfl,rfl,hZ,k1,k2,rfl⟩:=hrel
       by_cases hk:k < 2
       ·obtain⟨d,hd,hi,hbk⟩:=zkc s k (by omega);have hdl:(d:Int) < 256:=(by omega);have hkl:(k:Int) < 2:=(by omega);have hzl:(z:Int) < 262144:=(by have h1:=hZ.out.2;have h2:=zpf (k:=k) (by omega);omega);have HBK:=zH hbk;clear hbk
        by_cases d1:(d:Int) < 128
        ·go_wp2_with fail;have hbk:=HBK.out;have hb0:=HB0.out
         (try simp only [Exit.inBlock,Exit.then])
         refine bodyPost_ret (v:=.tuple #[I 0,I 0]) (by simp [results,Tryz.f149,go_sem]) rfl ?_
         exact⟨⟨_,0,rfl,Nat.zero_le _,fun ho=>absurd (HD.out ho) (by have h3:k=1 ∨ k=2 ∨ k=3:=(by omega);rcases h3 with rfl | rfl | rfl <;> omega)⟩,Ext.refl _⟩
        ·by_cases d2:(d:Int) ≥ 192
         ·go_wp2_with fail;have hbk:=HBK.out;have hb0:=HB0.out
          (try simp only [Exit.inBlock,Exit.then])
          refine bodyPost_ret (v:=.tuple #[I 0,I 0]) (by simp [results,Tryz.f149,go_sem]) rfl ?_
          exact⟨⟨_,0,rfl,Nat.zero_le _,fun ho=>absurd (HD.out ho) (by have h3:k=1 ∨ k=2 ∨ k=3:=(by omega);rcases h3 with rfl | rfl | rfl <;> omega)⟩,Ext.refl _⟩
         ·go_wp2_with fail;go_roundw
          case rel=>exact⟨64 * z+d - 128,k+1,congrArg (Value.int .i64) (by omega),congrArg (Value.int .i64) (by omega),zH ⟨by rw [zmm s _ k k1,hZ.out.1,HBK.out],by have h:=hZ.out.2;rw [Nat.pow_succ];omega⟩,by omega,by omega,trivial⟩
          case measure=>simp [intOf];omega
       ·have hkn:k=2:=Nat.le_antisymm k2 (Nat.not_lt.1 hk);subst hkn;have hzz:zzN s 192 2=z:=hZ.out.1;have hze:zzN s 192 2=64 * (btN s 0 - 192)+btN s 1 - 128:=rfl;have hzl:(z:Int) < 16777216:=(by have h1:=hZ.out.2;have h2:=zta (k:=2) (n:=4) (by decide) (by decide);omega);have HZZ:=zH (show z=_ from hzz.symm.trans hze);have HZ2:=zH hzz;clear hze hzz
        by_cases z1:(z:Int) < 128
        ·go_wp2_with fail;have hze:=HZZ.out;have hb0:=HB0.out
         (try simp only [Exit.inBlock,Exit.then])
         refine bodyPost_ret (v:=.tuple #[I 0,I 0]) (by simp [results,Tryz.f149,go_sem]) rfl ?_;exact⟨⟨_,0,rfl,Nat.zero_le _,fun ho=>absurd (HD.out ho) (by omega)⟩,Ext.refl _⟩
        ·by_cases z2:(z:Int) > 1114111
         ·go_wp2_with fail;have hze:=HZZ.out;have hb0:=HB0.out
          (try simp only [Exit.inBlock,Exit.then])
          refine bodyPost_ret (v:=.tuple #[I 0,I 0]) (by simp [results,Tryz.f149,go_sem]) rfl ?_;exact⟨⟨_,0,rfl,Nat.zero_le _,fun ho=>absurd (HD.out ho) (by omega)⟩,Ext.refl _⟩
         ·by_cases z3:(z:Int) ≥ 55296
          ·by_cases z4:(z:Int)<=57343
           ·go_wp2_with fail;have hze:=HZZ.out;have hb0:=HB0.out
            (try simp only [Exit.inBlock,Exit.then])
            refine bodyPost_ret (v:=.tuple #[I 0,I 0]) (by simp [results,Tryz.f149,go_sem]) rfl ?_;exact⟨⟨_,0,rfl,Nat.zero_le _,fun ho=>absurd (HD.out ho) (by omega)⟩,Ext.refl _⟩
           ·have hzz:=HZ2.out;go_wp2_with fail
            (try simp only [Exit.inBlock,Exit.then])
            refine bodyPost_ret (v:=.tuple #[I z,I 2]) (by simp [results,Tryz.f149,go_sem]) rfl ?_
            exact⟨⟨_,2,rfl,hn2,fun ho=>(by have h:=HD.out ho;have e:dnS s=_:=h.2.2.2.1;rw [e];exact⟨by rw [<- hzz];rfl,rfl⟩)⟩,Ext.refl _⟩
          ·have hzz:=HZ2.out;go_wp2_with fail
           (try simp only [Exit.inBlock,Exit.then])
           refine bodyPost_ret (v:=.tuple #[I z,I 2]) (by simp [results,Tryz.f149,go_sem]) rfl ?_
           exact⟨⟨_,2,rfl,hn2,fun ho=>(by have h:=HD.out ho;have e:dnS s=_:=h.2.2.2.1;rw [e];exact⟨by rw [<- hzz];rfl,rfl⟩)⟩,Ext.refl _⟩
    ·have c4:(c:Int) ≥ 224:=by omega
     by_cases c5:(c:Int) < 240
     ·have c6:¬ (c:Int) ≥ 240:=by omega
      by_cases hn:(s.length:Int) < 3
      ·have HD:=zH (fun ho:OkR s=>zpe s.length (btN s 0) (btN s 1) (btN s 2) (btN s 3) (by omega) (by omega) (ho.2.resolve_left (by omega)) (zeo _ _) (zeo _ _));go_enter Tryz.func149,Tryz.ntmps149;go_wp2_with fail
       (try simp only [Exit.inBlock,Exit.then])
       refine bodyPost_ret (v:=.tuple #[I 0,I 0]) (by simp [results,Tryz.f149,go_sem]) rfl ?_;exact⟨⟨_,0,rfl,Nat.zero_le _,fun ho=>absurd (HD.out ho) (by omega)⟩,Ext.refl _⟩
      ·have hn2:3<=s.length:=(by omega);have HD:=zH (fun ho:OkR s=>zpe s.length (btN s 0) (btN s 1) (btN s 2) (btN s 3) (by omega) (by omega) (ho.2.resolve_left (by omega)) (zeo _ _) (zeo _ _));have HB0:=zH hb0;clear hb0;go_enter Tryz.func149,Tryz.ntmps149;go_wp2_with fail;clear hi
       go_loopw [6,8] (fun x i wr=>∃ (z k:Nat),x=I z/\i=I k/\Hid (zzN s 224 k=z/\z < 64 ^ k)/\1<=k/\k<=3/\wr=w) (fun _ i _=>3 - (intOf i).toNat)
       case atStart=>exact⟨c - 224,1,congrArg (Value.int .i64) (by omega),rfl,zH ⟨by rw [<- HB0.out];rfl,by simp;omega⟩,by decide,by decide,rfl⟩
       case round =>
        obtain⟨z,k,rfl,rfl,hZ,k1,k2,rfl⟩:=hrel
        by_cases hk:k < 3
        ·obtain⟨d,hd,hi,hbk⟩:=zkc s k (by omega);have hdl:(d:Int) < 256:=(by omega);have hkl:(k:Int) < 3:=(by omega);have hzl:(z:Int) < 262144:=(by have h1:=hZ.out.2;have h2:=zpf (k:=k) (by omega);omega);have HBK:=zH hbk;clear hbk
         by_cases d1:(d:Int) < 128
         ·go_wp2_with fail;have hbk:=HBK.out;have hb0:=HB0.out
          (try simp only [Exit.inBlock,Exit.then])
          refine bodyPost_ret (v:=.tuple #[I 0,I 0]) (by simp [results,Tryz.f149,go_sem]) rfl ?_
          exact⟨⟨_,0,rfl,Nat.zero_le _,fun ho=>absurd (HD.out ho) (by have h3:k=1 ∨ k=2 ∨ k=3:=(by omega);rcases h3 with rfl | rfl | rfl <;> omega)⟩,Ext.refl _⟩
         ·by_cases d2:(d:Int) ≥ 192
          ·go_wp2_with fail;have hbk:=HBK.out;have hb0:=HB0.out
           (try simp only [Exit.inBlock,Exit.then])
           refine bodyPost_ret (v:=.tuple #[I 0,I 0]) (by simp [results,Tryz.f149,go_sem]) rfl ?_
           exact⟨⟨_,0,rfl,Nat.zero_le _,fun ho=>absurd (HD.out ho) (by have h3:k=1 ∨ k=2 ∨ k=3:=(by omega);rcases h3 with rfl | rfl | rfl <;> omega)⟩,Ext.refl _⟩
          ·go_wp2_with fail;go_roundw
           case rel=>exact⟨64 * z+d - 128,k+1,congrArg (Value.int .i64) (by omega),congrArg (Value.int .i64) (by omega),zH ⟨by rw [zmm s _ k k1,hZ.out.1,HBK.out],by have h:=hZ.out.2;rw [Nat.pow_succ];omega⟩,by omega,by omega,trivial⟩
           case measure=>simp [intOf];omega
        ·have hkn:k=3:=Nat.le_antisymm k2 (Nat.not_lt.1 hk);subst hkn;have hzz:zzN s 224 3=z:=hZ.out.1;have hze:zzN s 224 3=64 * (64 * (btN s 0 - 224)+btN s 1 - 128)+btN s 2 - 128:=rfl;have hzl:(z:Int) < 16777216:=(by have h1:=hZ.out.2;have h2:=zta (k:=3) (n:=4) (by decide) (by decide);omega);have HZZ:=zH (show z=_ from hzz.symm.trans hze);have HZ2:=zH hzz;clear hze hzz
         by_cases z1:(z:Int) < 2048
         ·go_wp2_with fail;have hze:=HZZ.out;have hb0:=HB0.out
          (try simp only [Exit.inBlock,Exit.then])
          refine bodyPost_ret (v:=.tuple #[I 0,I 0]) (by simp [results,Tryz.f149,go_sem]) rfl ?_;exact⟨⟨_,0,rfl,Nat.zero_le _,fun ho=>absurd (HD.out ho) (by omega)⟩,Ext.refl _⟩
         ·by_cases z2:(z:Int) > 1114111
          ·go_wp2_with fail;have hze:=HZZ.out;have hb0:=HB0.out
           (try simp only [Exit.inBlock,Exit.then])
           refine bodyPost_ret (v:=.tuple #[I 0,I 0]) (by simp [results,Tryz.f149,go_sem]) rfl ?_;exact⟨⟨_,0,rfl,Nat.zero_le _,fun ho=>absurd (HD.out ho) (by omega)⟩,Ext.refl _⟩
          ·by_cases z3:(z:Int) ≥ 55296
           ·by_cases z4:(z:Int)<=57343
            ·go_wp2_with fail;have hze:=HZZ.out;have hb0:=HB0.out
             (try simp only [Exit.inBlock,Exit.then])
             refine bodyPost_ret (v:=.tuple #[I 0,I 0]) (by simp [results,Tryz.f149,go_sem]) rfl ?_;exact⟨⟨_,0,rfl,Nat.zero_le _,fun ho=>absurd (HD.out ho) (by omega)⟩,Ext.refl _⟩
            ·have hzz:=HZ2.out;go_wp2_with fail
             (try simp only [Exit.inBlock,Exit.then])
             refine bodyPost_ret (v:=.tuple #[I z,I 3]) (by simp [results,Tryz.f149,go_sem]) rfl ?_
             exact⟨⟨_,3,rfl,hn2,fun ho=>(by have h:=HD.out ho;have e:dnS s=_:=h.2.2.2.1;rw [e];exact⟨by rw [<- hzz];rfl,rfl⟩)⟩,Ext.refl _⟩
           ·have hzz:=HZ2.out;go_wp2_with fail
            (try simp only [Exit.inBlock,Exit.then])
            refine bodyPost_ret (v:=.tuple #[I z,I 3]) (by simp [results,Tryz.f149,go_sem]) rfl ?_
            exact⟨⟨_,3,rfl,hn2,fun ho=>(by have h:=HD.out ho;have e:dnS s=_:=h.2.2.2.1;rw [e];exact⟨by rw [<- hzz];rfl,rfl⟩)⟩,Ext.refl _⟩
     ·have c6:(c:Int) ≥ 240:=by omega
      by_cases c7:(c:Int) < 248
      ·skip
       by_cases hn:(s.length:Int) < 4
       ·have HD:=zH (fun ho:OkR s=>zrl s.length (btN s 0) (btN s 1) (btN s 2) (btN s 3) (by omega) (by omega) (ho.2.resolve_left (by omega)) (zeo _ _) (zeo _ _) (zeo _ _));go_enter Tryz.func149,Tryz.ntmps149;go_wp2_with fail
        (try simp only [Exit.inBlock,Exit.then])
        refine bodyPost_ret (v:=.tuple #[I 0,I 0]) (by simp [results,Tryz.f149,go_sem]) rfl ?_;exact⟨⟨_,0,rfl,Nat.zero_le _,fun ho=>absurd (HD.out ho) (by omega)⟩,Ext.refl _⟩
       ·have hn2:4<=s.length:=(by omega);have HD:=zH (fun ho:OkR s=>zrl s.length (btN s 0) (btN s 1) (btN s 2) (btN s 3) (by omega) (by omega) (ho.2.resolve_left (by omega)) (zeo _ _) (zeo _ _) (zeo _ _));have HB0:=zH hb0;clear hb0;go_enter Tryz.func149,Tryz.ntmps149;go_wp2_with fail;clear hi
        go_loopw [6,8] (fun x i wr=>∃ (z k:Nat),x=I z/\i=I k/\Hid (zzN s 240 k=z/\z < 64 ^ k)/\1<=k/\k<=4/\wr=w) (fun _ i _=>4 - (intOf i).toNat)
        case atStart=>exact⟨c - 240,1,congrArg (Value.int .i64) (by omega),rfl,zH ⟨by rw [<- HB0.out];rfl,by simp;omega⟩,by decide,by decide,rfl⟩
        case round =>
         obtain⟨z,k,rfl,rfl,hZ,k1,k2,rfl⟩:=hrel
         by_cases hk:k < 4
         ·obtain⟨d,hd,hi,hbk⟩:=zkc s k (by omega);have hdl:(d:Int) < 256:=(by omega);have hkl:(k:Int) < 4:=(by omega);have hzl:(z:Int) < 262144:=(by have h1:=hZ.out.2;have h2:=zpf (k:=k) (by omega);omega);have HBK:=zH hbk;clear hbk
          by_cases d1:(d:Int) < 128
          ·go_wp2_with fail;have hbk:=HBK.out;have hb0:=HB0.out
           (try simp only [Exit.inBlock,Exit.then])
           refine bodyPost_ret (v:=.tuple #[I 0,I 0]) (by simp [results,Tryz.f149,go_sem]) rfl ?_
           exact⟨⟨_,0,rfl,Nat.zero_le _,fun ho=>absurd (HD.out ho) (by have h3:k=1 ∨ k=2 ∨ k=3:=(by omega);rcases h3 with rfl | rfl | rfl <;> omega)⟩,Ext.refl _⟩
          ·by_cases d2:(d:Int) ≥ 192
           ·go_wp2_with fail;have hbk:=HBK.out;have hb0:=HB0.out
            (try simp only [Exit.inBlock,Exit.then])
            refine bodyPost_ret (v:=.tuple #[I 0,I 0]) (by simp [results,Tryz.f149,go_sem]) rfl ?_
            exact⟨⟨_,0,rfl,Nat.zero_le _,fun ho=>absurd (HD.out ho) (by have h3:k=1 ∨ k=2 ∨ k=3:=(by omega);rcases h3 with rfl | rfl | rfl <;> omega)⟩,Ext.refl _⟩
           ·go_wp2_with fail;go_roundw
            case rel=>exact⟨64 * z+d - 128,k+1,congrArg (Value.int .i64) (by omega),congrArg (Value.int .i64) (by omega),zH ⟨by rw [zmm s _ k k1,hZ.out.1,HBK.out],by have h:=hZ.out.2;rw [Nat.pow_succ];omega⟩,by omega,by omega,trivial⟩
            case measure=>simp [intOf];omega
         ·have hkn:k=4:=Nat.le_antisymm k2 (Nat.not_lt.1 hk);subst hkn;have hzz:zzN s 240 4=z:=hZ.out.1;have hze:zzN s 240 4=64 * (64 * (64 * (btN s 0 - 240)+btN s 1 - 128)+btN s 2 - 128)+btN s 3 - 128:=rfl;have hzl:(z:Int) < 16777216:=(by have h1:=hZ.out.2;have h2:=zta (k:=4) (n:=4) (by decide) (by decide);omega);have HZZ:=zH (show z=_ from hzz.symm.trans hze);have HZ2:=zH hzz;clear hze hzz
          by_cases z1:(z:Int) < 65536
          ·go_wp2_with fail;have hze:=HZZ.out;have hb0:=HB0.out
           (try simp only [Exit.inBlock,Exit.then])
           refine bodyPost_ret (v:=.tuple #[I 0,I 0]) (by simp [results,Tryz.f149,go_sem]) rfl ?_;exact⟨⟨_,0,rfl,Nat.zero_le _,fun ho=>absurd (HD.out ho) (by omega)⟩,Ext.refl _⟩
          ·by_cases z2:(z:Int) > 1114111
           ·go_wp2_with fail;have hze:=HZZ.out;have hb0:=HB0.out
            (try simp only [Exit.inBlock,Exit.then])
            refine bodyPost_ret (v:=.tuple #[I 0,I 0]) (by simp [results,Tryz.f149,go_sem]) rfl ?_;exact⟨⟨_,0,rfl,Nat.zero_le _,fun ho=>absurd (HD.out ho) (by omega)⟩,Ext.refl _⟩
           ·by_cases z3:(z:Int) ≥ 55296
            ·by_cases z4:(z:Int)<=57343
             ·go_wp2_with fail;have hze:=HZZ.out;have hb0:=HB0.out
              (try simp only [Exit.inBlock,Exit.then])
              refine bodyPost_ret (v:=.tuple #[I 0,I 0]) (by simp [results,Tryz.f149,go_sem]) rfl ?_;exact⟨⟨_,0,rfl,Nat.zero_le _,fun ho=>absurd (HD.out ho) (by omega)⟩,Ext.refl _⟩
             ·have hzz:=HZ2.out;go_wp2_with fail
              (try simp only [Exit.inBlock,Exit.then])
              refine bodyPost_ret (v:=.tuple #[I z,I 4]) (by simp [results,Tryz.f149,go_sem]) rfl ?_
              exact⟨⟨_,4,rfl,hn2,fun ho=>(by have h:=HD.out ho;have e:dnS s=_:=h.2.2.2.2.1;rw [e];exact⟨by rw [<- hzz];rfl,rfl⟩)⟩,Ext.refl _⟩
            ·have hzz:=HZ2.out;go_wp2_with fail
             (try simp only [Exit.inBlock,Exit.then])
             refine bodyPost_ret (v:=.tuple #[I z,I 4]) (by simp [results,Tryz.f149,go_sem]) rfl ?_
             exact⟨⟨_,4,rfl,hn2,fun ho=>(by have h:=HD.out ho;have e:dnS s=_:=h.2.2.2.2.1;rw [e];exact⟨by rw [<- hzz];rfl,rfl⟩)⟩,Ext.refl _⟩
      ·have HD:=zH (fun ho:OkR s=>zxl s.length (btN s 0) (btN s 1) (btN s 2) (btN s 3) (by omega) (by omega) (zeo _ _) (ho.2.resolve_left (by omega)));go_enter Tryz.func149,Tryz.ntmps149;go_wp2_with fail
       (try simp only [Exit.inBlock,Exit.then])
       refine bodyPost_ret (v:=.tuple #[I 0,I 0]) (by simp [results,Tryz.f149,go_sem]) rfl ?_;exact⟨⟨_,0,rfl,Nat.zero_le _,fun ho=>(HD.out ho).elim⟩,Ext.refl _⟩
   ·have c4:¬ (c:Int) ≥ 224:=(by omega);have c6:¬ (c:Int) ≥ 240:=(by omega);have HD:=zH (fun ho:OkR s=>zxl s.length (btN s 0) (btN s 1) (btN s 2) (btN s 3) (by omega) (by omega) (zeo _ _) (ho.2.resolve_left (by omega)));go_enter Tryz.func149,Tryz.ntmps149;go_wp2_with fail
    (try simp only [Exit.inBlock,Exit.then])
    refine bodyPost_ret (v:=.tuple #[I 0,I 0]) (by simp [results,Tryz.f149,go_sem]) rfl ?_;exact⟨⟨_,0,rfl,Nat.zero_le _,fun ho=>(HD.out ho).elim⟩,Ext.refl _⟩
end
end Go.Proofs.YtaabaflgeljbjaaGreat
