/- Package text: what a key is of. Total functions over the model's own decoding of UTF-8. -/
import Derived.Test.YtaabaflgeljbjaaGreatPr14
import Derived.Lib.Walk
import Derived.Lib.RuneCount
import Derived.Laws.RangeString
import Derived.Laws.RangeAny
set_option linter.unusedVariables false
set_option linter.unusedSimpArgs false
set_option maxRecDepth 100000
set_option maxHeartbeats 40000000
namespace Go.Proofs.YtaabaflgeljbjaaGreat
section
open Go.RowKit
def zhy (r:Int):Nat:=if r=35 then 1 else if r=64 then 2 else if r=61 then 3 else 0
def zc1 (r:Int):Bool:=decide (r < 32) || (decide (r ≥ 127) && decide (r<=159))
def zlr (s p:ByteArray):Bool:=decide (p.size<=s.size) && ((s.extract 0 p.size).toList == p.toList)
def zgu (s:ByteArray) (i:Nat) (r:Int):Bool:=(r == 65533) && !zlr (s.extract i s.size) ⟨#[239,191,189]⟩
abbrev U8 (n:Nat):Value:=.int .u8 (n:Int)
theorem zzi (r:Int) (w:World):Calls Tryz.prog 123 #[.int .i32 r] w fun e w'=>e=.returned (U8 (zhy r))/\w=w':=by
 by_cases h1:r=35
 ·subst h1;go_enter Tryz.func123,Tryz.ntmps123;go_wp2;go_ret;exact⟨rfl,rfl⟩
 ·by_cases h2:r=64
  ·subst h2;go_enter Tryz.func123,Tryz.ntmps123;go_wp2;go_ret;exact⟨rfl,rfl⟩
  ·by_cases h3:r=61
   ·subst h3;go_enter Tryz.func123,Tryz.ntmps123;go_wp2;go_ret;exact⟨rfl,rfl⟩
   ·have e1:(r == 35)=false:=(by simpa using h1);have e2:(r == 64)=false:=(by simpa using h2);have e3:(r == 61)=false:=(by simpa using h3);have HS:=zH (show zhy r=0 by simp [zhy,h1,h2,h3]);clear h1 h2 h3;go_enter Tryz.func123,Tryz.ntmps123;go_wp2;go_ret;exact⟨by rw [HS.out];rfl,rfl⟩
theorem zsx (r:Int) (w:World):Calls Tryz.prog 124 #[.int .i32 r] w fun e w'=>e=.returned (.bool (zc1 r))/\w=w':=by
 by_cases h1:r < 32
 ·have HS:=zH (show zc1 r=true by simp [zc1,h1]);go_enter Tryz.func124,Tryz.ntmps124;go_wp2;go_ret;exact⟨by rw [HS.out];rfl,rfl⟩
 ·by_cases h2:r ≥ 127
  ·by_cases h3:r<=159
   ·have HS:=zH (show zc1 r=true by simp [zc1,h1,h2,h3]);go_enter Tryz.func124,Tryz.ntmps124;go_wp2;go_ret;exact⟨by rw [HS.out];rfl,rfl⟩
   ·have HS:=zH (show zc1 r=false by simp [zc1,h1,h2,h3]);go_enter Tryz.func124,Tryz.ntmps124;go_wp2;go_ret;exact⟨by rw [HS.out];rfl,rfl⟩
  ·have HS:=zH (show zc1 r=false by simp [zc1,h1,h2]);go_enter Tryz.func124,Tryz.ntmps124;go_wp2;go_ret;exact⟨by rw [HS.out];rfl,rfl⟩
theorem zsy (s p:ByteArray) (w:World):Calls Tryz.prog 215 #[.string s,.string p] w fun e w'=>e=.returned (.bool (zlr s p))/\w=w':=by
 by_cases h:p.size<=s.size
 ·have h1:(s.size:Int) ≥ p.size:=by omega
  go_enter Tryz.func215,Tryz.ntmps215;go_wp2;go_ret;exact⟨by simp [zlr,h],rfl⟩
 ·have h1:¬ (s.size:Int) ≥ p.size:=by omega
  go_enter Tryz.func215,Tryz.ntmps215;go_wp2;go_ret;exact⟨by simp [zlr,h],rfl⟩
theorem zum (s p:ByteArray) (w:World):Calls Tryz.prog 170 #[.string s,.string p] w fun e w'=>e=.returned (.bool (zlr s p))/\w=w':=by
 have H:=zH zsy;go_enter Tryz.func170,Tryz.ntmps170;go_wp2_with fail;refine (H.out _ _ _).mono ?_;rintro e w' ⟨rfl,rfl⟩;go_wp2;go_ret;exact⟨rfl,rfl⟩
theorem zun (s:ByteArray) (i:Nat) (r:Int) (hi:i<=s.size) (w:World):Calls Tryz.prog 125 #[.string s,I i,.int .i32 r] w fun e w'=>e=.returned (.bool (zgu s i r))/\w=w':=by
 by_cases h:r=65533
 ·subst h;have H:=zH zum;have hi':(i:Int)<=s.size:=by omega
  go_enter Tryz.func125,Tryz.ntmps125;go_wp2_with fail;refine (H.out _ _ _).mono ?_;rintro e w' ⟨rfl,rfl⟩;go_wp2;go_ret;exact⟨by simp [zgu],rfl⟩
 ·have h1:(r == 65533)=false:=by simpa using h
  go_enter Tryz.func125,Tryz.ntmps125;go_wp2;go_ret;exact⟨by simp [zgu,h1],rfl⟩
def zdv (s:ByteArray):Nat->Nat->Nat->Nat->Nat
 | 0,_,_,kind=>kind
 | b+1,pos,n,kind =>
  if pos < s.size then
   if (if n=0 then zhy (Utf8.decode s pos).1 else kind)=0 ∨ n=64 ∨ zc1 (Utf8.decode s pos).1=true ∨ zgu s pos (Utf8.decode s pos).1=true then 0
   else zdv s b (pos+(Utf8.decode s pos).2) (n+1) (if n=0 then zhy (Utf8.decode s pos).1 else kind)
  else kind
def zas (s:Str):Nat:=zdv ⟨s.toArray⟩ s.length 0 0 0
def keyS (s:Str):Bool:=zas s != 0
theorem zrb (s:ByteArray) (b pos n kind:Nat) (h:¬ pos < s.size):zdv s b pos n kind=kind:=by
 cases b <;> simp [zdv,h]
theorem zgk (w:World) (s:ByteArray) (pos:Nat):Ext w (w.iter s pos):=(Ext.refl w).alloc _
theorem zxi (S:ByteArray) (w:World):Calls Tryz.prog 81 #[.string S] w fun e w'=>e=.returned (U8 (zdv S S.size 0 0 0))/\Ext w w':=by
 obtain⟨K,hK⟩:∃ K,zdv S S.size 0 0 0=K:=⟨_,rfl⟩
 rw [hK];have HS:=zH hK;clear hK;have H1:=zH zzi;have H2:=zH zsx;have H3:=zH zun;go_enter Tryz.func81,Tryz.ntmps81;go_wp2
 go_loopw [3,4] (fun kd n w'=>∃ (pos b acc kind:Nat),w'=w.iter S pos/\n=I acc/\kd=U8 kind/\zdv S b pos acc kind=K/\S.size<=pos+b/\acc<=64/\(acc ≠ 0->kind ≠ 0)) (fun _ _ w'=>S.size - w'.iterPos w.heap.size)
 case atStart=>exact⟨0,S.size,0,0,rfl,rfl,rfl,HS.out,by omega,by omega,by simp⟩
 case round =>
  obtain⟨pos,b,acc,kind,rfl,rfl,rfl,hc,hb,ha,hk⟩:=hrel
  by_cases hp:pos < S.size
  ·have hnx:∀ ty,(Instr.next (.pointer (some ⟨w.heap.size,0,none⟩)) true ty).run Tryz.prog (w.iter S pos)=_:=fun ty=>run_next_any w S pos ty hp
   have hwd:=Lib.decode_width_pos S pos hp;obtain⟨b,rfl⟩:∃ b',b=b'+1:=⟨b - 1,by omega⟩
   have HB:=zH (H3.out S pos (Utf8.decode S pos).1 (by omega) (w.iter S (pos+(Utf8.decode S pos).2)));have HC:=zH (H2.out (Utf8.decode S pos).1 (w.iter S (pos+(Utf8.decode S pos).2)));have HG:=zH (H1.out (Utf8.decode S pos).1 (w.iter S (pos+(Utf8.decode S pos).2)));rw [zdv,if_pos hp] at hc;generalize hR:(((Utf8.decode S pos).1:Nat):Int)=R at *;generalize hW:(Utf8.decode S pos).2=wd at *
   cases acc with
   | zero =>
    by_cases hz:zhy R=0
    ·rw [if_pos (.inl (by simpa using hz))] at hc;rw [hz] at HG;have HH:=zH hc;clear hc hk hz;go_wp2_with fail;refine HG.out.mono ?_;rintro e w1 ⟨rfl,hw1⟩;subst hw1;go_wp2;go_ret;exact⟨by rw [<- HH.out];rfl,zgk _ _ _⟩
    ·have hz':(((zhy R:Nat):Int) == 0)=false:=(by rw [beq_eq_false_iff_ne];omega);have hc:(if zc1 R=true ∨ zgu S pos R=true then 0 else zdv S b (pos+wd) (0+1) (zhy R))=K:=(by simpa [hz] using hc);cases hcr:zc1 R
     ·rw [hcr] at HC hc;cases hbr:zgu S pos R
      ·rw [hbr] at HB hc;have HH:=zH (show zdv S b (pos+wd) (0+1) (zhy R)=K by simpa using hc);clear hc hk hcr hbr;go_wp2_with fail;refine HG.out.mono ?_;rintro e w1 ⟨rfl,hw1⟩;subst hw1;go_wp2_with fail;refine HC.out.mono ?_;rintro e w1 ⟨rfl,hw1⟩;subst hw1;go_wp2_with fail;refine HB.out.mono ?_;rintro e w1 ⟨rfl,hw1⟩;subst hw1;go_wp2;go_roundw
       case rel=>exact⟨pos+wd,b,0+1,(zhy R),rfl,by simp,rfl,HH.out,by omega,by omega,fun _=>by omega⟩
       case measure=>simp;omega
      ·rw [hbr] at HB hc;have HH:=zH (show 0=K by simpa using hc);clear hc hk hcr hbr;go_wp2_with fail;refine HG.out.mono ?_;rintro e w1 ⟨rfl,hw1⟩;subst hw1;go_wp2_with fail;refine HC.out.mono ?_;rintro e w1 ⟨rfl,hw1⟩;subst hw1;go_wp2_with fail;refine HB.out.mono ?_;rintro e w1 ⟨rfl,hw1⟩;subst hw1;go_wp2;go_ret;exact⟨by rw [<- HH.out];rfl,zgk _ _ _⟩
     ·rw [hcr] at HC hc;have HH:=zH (show 0=K by simpa using hc);clear hc hk hcr;go_wp2_with fail;refine HG.out.mono ?_;rintro e w1 ⟨rfl,hw1⟩;subst hw1;go_wp2_with fail;refine HC.out.mono ?_;rintro e w1 ⟨rfl,hw1⟩;subst hw1;go_wp2;go_ret;exact⟨by rw [<- HH.out];rfl,zgk _ _ _⟩
   | succ acc =>
    have hkn:kind ≠ 0:=hk (by omega);have hz':((kind:Int) == 0)=false:=(by rw [beq_eq_false_iff_ne];omega);have hz0:(((acc+1:Nat):Int) == 0)=false:=(by rw [beq_eq_false_iff_ne];omega);have hz1:((acc:Int)+1 == 0)=false:=by rw [beq_eq_false_iff_ne];omega
    by_cases h64:acc+1=64
    ·have hacc:acc=63:=(by omega);subst hacc;have HH:=zH (show 0=K by simpa using hc);clear hc hk;go_wp2_with fail;go_ret;exact⟨by rw [<- HH.out];rfl,zgk _ _ _⟩
    ·have hc:(if zc1 R=true ∨ zgu S pos R=true then 0 else zdv S b (pos+wd) (acc+1+1) kind)=K:=(by simpa [hkn,h64] using hc);have hz2:(((acc+1:Nat):Int) == 64)=false:=(by rw [beq_eq_false_iff_ne];omega);have hz3:((acc:Int)+1 == 64)=false:=(by rw [beq_eq_false_iff_ne];omega);cases hcr:zc1 R
     ·rw [hcr] at HC hc;cases hbr:zgu S pos R
      ·rw [hbr] at HB hc;have HH:=zH (show zdv S b (pos+wd) ((acc+1)+1) kind=K by simpa using hc);clear hc hk hcr hbr;go_wp2_with fail;refine HC.out.mono ?_;rintro e w1 ⟨rfl,hw1⟩;subst hw1;go_wp2_with fail;refine HB.out.mono ?_;rintro e w1 ⟨rfl,hw1⟩;subst hw1;go_wp2;go_roundw
       case rel=>exact⟨pos+wd,b,(acc+1)+1,kind,rfl,by simp,rfl,HH.out,by omega,by omega,fun _=>by omega⟩
       case measure=>simp;omega
      ·rw [hbr] at HB hc;have HH:=zH (show 0=K by simpa using hc);clear hc hk hcr hbr;go_wp2_with fail;refine HC.out.mono ?_;rintro e w1 ⟨rfl,hw1⟩;subst hw1;go_wp2_with fail;refine HB.out.mono ?_;rintro e w1 ⟨rfl,hw1⟩;subst hw1;go_wp2;go_ret;exact⟨by rw [<- HH.out];rfl,zgk _ _ _⟩
     ·rw [hcr] at HC hc;have HH:=zH (show 0=K by simpa using hc);clear hc hk hcr;go_wp2_with fail;refine HC.out.mono ?_;rintro e w1 ⟨rfl,hw1⟩;subst hw1;go_wp2;go_ret;exact⟨by rw [<- HH.out];rfl,zgk _ _ _⟩
  ·have hnx:∀ ty,(Instr.next (.pointer (some ⟨w.heap.size,0,none⟩)) true ty).run Tryz.prog (w.iter S pos)=_:=fun ty=>run_next_end w S pos ty hp
   rw [zrb S b pos acc kind hp] at hc;have HCC:=zH hc;clear hc;go_wp2;go_ret;exact⟨by rw [<- HCC.out];rfl,zgk _ _ _⟩
theorem zkw (s:Str) (w:World):Calls Tryz.prog 81 #[St s] w fun e w'=>e=.returned (U8 (zas s))/\Ext w w':=by
 have h:=zxi ⟨s.toArray⟩ w;have hs:(ByteArray.mk s.toArray).size=s.length:=by simp [ByteArray.size]
 rw [hs] at h;exact h
theorem ya4 (s:Str) (w:World):Calls Tryz.prog 134 #[St s] w fun e w'=>e=.returned (.bool (keyS s))/\Ext w w':=by
 have H:=zH (zkw s w);have HK:=zH (show keyS s=(zas s != 0) from rfl)
 by_cases hz:zas s=0
 ·rw [hz] at H HK;go_enter Tryz.func134,Tryz.ntmps134;go_wp2_with fail;refine H.out.mono ?_;rintro e w1 ⟨rfl,hb1⟩;go_wp2;go_ret;exact⟨by rw [HK.out];rfl,hb1⟩
 ·have hz':((zas s:Int) == 0)=false:=by rw [beq_eq_false_iff_ne];omega
  rw [show (zas s != 0)=true by simpa using hz] at HK;go_enter Tryz.func134,Tryz.ntmps134;go_wp2_with fail;refine H.out.mono ?_;rintro e w1 ⟨rfl,hb1⟩;go_wp2;go_ret;exact⟨by rw [HK.out];simp [hz],hb1⟩
end
end Go.Proofs.YtaabaflgeljbjaaGreat
