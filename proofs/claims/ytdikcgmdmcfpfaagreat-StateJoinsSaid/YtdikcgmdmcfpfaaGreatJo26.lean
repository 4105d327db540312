/- Package text: what a key is of. Total functions over the model's own decoding of UTF-8. -/
import Derived.Test.YtdikcgmdmcfpfaaGreatJo06
import Derived.Lib.Walk
import Derived.Lib.RuneCount
import Derived.Laws.RangeString
import Derived.Laws.RangeAny
set_option linter.unusedVariables false
set_option linter.unusedSimpArgs false
set_option maxRecDepth 100000
set_option maxHeartbeats 40000000
namespace Go.Proofs.YtdikcgmdmcfpfaaGreat
section
open Go.RowKit
def zgy (r:Int):Nat:=if r=35 then 1 else if r=64 then 2 else if r=61 then 3 else 0
def zcm (r:Int):Bool:=decide (r < 32) || (decide (r ≥ 127) && decide (r<=159))
def zkt (s p:ByteArray):Bool:=decide (p.size<=s.size) && ((s.extract 0 p.size).toList == p.toList)
def zfv (s:ByteArray) (i:Nat) (r:Int):Bool:=(r == 65533) && !zkt (s.extract i s.size) ⟨#[239,191,189]⟩
abbrev U8 (n:Nat):Value:=.int .u8 (n:Int)
theorem zx7 (r:Int) (w:World):Calls Tryz.prog 168 #[.int .i32 r] w fun e w'=>e=.returned (U8 (zgy r))/\w=w':=by
 by_cases h1:r=35
 ·subst h1;go_enter Tryz.func168,Tryz.ntmps168;go_wp2;go_ret;exact⟨rfl,rfl⟩
 ·by_cases h2:r=64
  ·subst h2;go_enter Tryz.func168,Tryz.ntmps168;go_wp2;go_ret;exact⟨rfl,rfl⟩
  ·by_cases h3:r=61
   ·subst h3;go_enter Tryz.func168,Tryz.ntmps168;go_wp2;go_ret;exact⟨rfl,rfl⟩
   ·have e1:(r == 35)=false:=(by simpa using h1);have e2:(r == 64)=false:=(by simpa using h2);have e3:(r == 61)=false:=(by simpa using h3);have HS:=zH (show zgy r=0 by simp [zgy,h1,h2,h3]);clear h1 h2 h3;go_enter Tryz.func168,Tryz.ntmps168;go_wp2;go_ret;exact⟨by rw [HS.out];rfl,rfl⟩
theorem zr4 (r:Int) (w:World):Calls Tryz.prog 169 #[.int .i32 r] w fun e w'=>e=.returned (.bool (zcm r))/\w=w':=by
 by_cases h1:r < 32
 ·have HS:=zH (show zcm r=true by simp [zcm,h1]);go_enter Tryz.func169,Tryz.ntmps169;go_wp2;go_ret;exact⟨by rw [HS.out];rfl,rfl⟩
 ·by_cases h2:r ≥ 127
  ·by_cases h3:r<=159
   ·have HS:=zH (show zcm r=true by simp [zcm,h1,h2,h3]);go_enter Tryz.func169,Tryz.ntmps169;go_wp2;go_ret;exact⟨by rw [HS.out];rfl,rfl⟩
   ·have HS:=zH (show zcm r=false by simp [zcm,h1,h2,h3]);go_enter Tryz.func169,Tryz.ntmps169;go_wp2;go_ret;exact⟨by rw [HS.out];rfl,rfl⟩
  ·have HS:=zH (show zcm r=false by simp [zcm,h1,h2]);go_enter Tryz.func169,Tryz.ntmps169;go_wp2;go_ret;exact⟨by rw [HS.out];rfl,rfl⟩
theorem zr5 (s p:ByteArray) (w:World):Calls Tryz.prog 249 #[.string s,.string p] w fun e w'=>e=.returned (.bool (zkt s p))/\w=w':=by
 by_cases h:p.size<=s.size
 ·have h1:(s.size:Int) ≥ p.size:=by omega
  go_enter Tryz.func249,Tryz.ntmps249;go_wp2;go_ret;exact⟨by simp [zkt,h],rfl⟩
 ·have h1:¬ (s.size:Int) ≥ p.size:=by omega
  go_enter Tryz.func249,Tryz.ntmps249;go_wp2;go_ret;exact⟨by simp [zkt,h],rfl⟩
theorem ztx (s p:ByteArray) (w:World):Calls Tryz.prog 223 #[.string s,.string p] w fun e w'=>e=.returned (.bool (zkt s p))/\w=w':=by
 have H:=zH zr5;go_enter Tryz.func223,Tryz.ntmps223;go_wp2_with fail;refine (H.out _ _ _).mono ?_;rintro e w' ⟨rfl,rfl⟩;go_wp2;go_ret;exact⟨rfl,rfl⟩
theorem zty (s:ByteArray) (i:Nat) (r:Int) (hi:i<=s.size) (w:World):Calls Tryz.prog 170 #[.string s,I i,.int .i32 r] w fun e w'=>e=.returned (.bool (zfv s i r))/\w=w':=by
 by_cases h:r=65533
 ·subst h;have H:=zH ztx;have hi':(i:Int)<=s.size:=by omega
  go_enter Tryz.func170,Tryz.ntmps170;go_wp2_with fail;refine (H.out _ _ _).mono ?_;rintro e w' ⟨rfl,rfl⟩;go_wp2;go_ret;exact⟨by simp [zfv],rfl⟩
 ·have h1:(r == 65533)=false:=by simpa using h
  go_enter Tryz.func170,Tryz.ntmps170;go_wp2;go_ret;exact⟨by simp [zfv,h1],rfl⟩
def zda (s:ByteArray):Nat->Nat->Nat->Nat->Nat
 | 0,_,_,kind=>kind
 | b+1,pos,n,kind =>
  if pos < s.size then
   if (if n=0 then zgy (Utf8.decode s pos).1 else kind)=0 ∨ n=64 ∨ zcm (Utf8.decode s pos).1=true ∨ zfv s pos (Utf8.decode s pos).1=true then 0
   else zda s b (pos+(Utf8.decode s pos).2) (n+1) (if n=0 then zgy (Utf8.decode s pos).1 else kind)
  else kind
def za1 (s:Str):Nat:=zda ⟨s.toArray⟩ s.length 0 0 0
def keyS (s:Str):Bool:=za1 s != 0
theorem zqu (s:ByteArray) (b pos n kind:Nat) (h:¬ pos < s.size):zda s b pos n kind=kind:=by
 cases b <;> simp [zda,h]
theorem zfp (w:World) (s:ByteArray) (pos:Nat):Ext w (w.iter s pos):=(Ext.refl w).alloc _
theorem zwm (S:ByteArray) (w:World):Calls Tryz.prog 95 #[.string S] w fun e w'=>e=.returned (U8 (zda S S.size 0 0 0))/\Ext w w':=by
 obtain⟨K,hK⟩:∃ K,zda S S.size 0 0 0=K:=⟨_,rfl⟩
 rw [hK];have HS:=zH hK;clear hK;have H1:=zH zx7;have H2:=zH zr4;have H3:=zH zty;go_enter Tryz.func95,Tryz.ntmps95;go_wp2
 go_loopw [3,4] (fun kd n w'=>∃ (pos b acc kind:Nat),w'=w.iter S pos/\n=I acc/\kd=U8 kind/\zda S b pos acc kind=K/\S.size<=pos+b/\acc<=64/\(acc ≠ 0->kind ≠ 0)) (fun _ _ w'=>S.size - w'.iterPos w.heap.size)
 case atStart=>exact⟨0,S.size,0,0,rfl,rfl,rfl,HS.out,by omega,by omega,by simp⟩
 case round =>
  obtain⟨pos,b,acc,kind,rfl,rfl,rfl,hc,hb,ha,hk⟩:=hrel
  by_cases hp:pos < S.size
  ·have hnx:∀ ty,(Instr.next (.pointer (some ⟨w.heap.size,0,none⟩)) true ty).run Tryz.prog (w.iter S pos)=_:=fun ty=>run_next_any w S pos ty hp
   have hwd:=Lib.decode_width_pos S pos hp;obtain⟨b,rfl⟩:∃ b',b=b'+1:=⟨b - 1,by omega⟩
   have HB:=zH (H3.out S pos (Utf8.decode S pos).1 (by omega) (w.iter S (pos+(Utf8.decode S pos).2)));have HC:=zH (H2.out (Utf8.decode S pos).1 (w.iter S (pos+(Utf8.decode S pos).2)));have HG:=zH (H1.out (Utf8.decode S pos).1 (w.iter S (pos+(Utf8.decode S pos).2)));rw [zda,if_pos hp] at hc;generalize hR:(((Utf8.decode S pos).1:Nat):Int)=R at *;generalize hW:(Utf8.decode S pos).2=wd at *
   cases acc with
   | zero =>
    by_cases hz:zgy R=0
    ·rw [if_pos (.inl (by simpa using hz))] at hc;rw [hz] at HG;have HH:=zH hc;clear hc hk hz;go_wp2_with fail;refine HG.out.mono ?_;rintro e w1 ⟨rfl,hw1⟩;subst hw1;go_wp2;go_ret;exact⟨by rw [<- HH.out];rfl,zfp _ _ _⟩
    ·have hz':(((zgy R:Nat):Int) == 0)=false:=(by rw [beq_eq_false_iff_ne];omega);have hc:(if zcm R=true ∨ zfv S pos R=true then 0 else zda S b (pos+wd) (0+1) (zgy R))=K:=(by simpa [hz] using hc);cases hcr:zcm R
     ·rw [hcr] at HC hc;cases hbr:zfv S pos R
      ·rw [hbr] at HB hc;have HH:=zH (show zda S b (pos+wd) (0+1) (zgy R)=K by simpa using hc);clear hc hk hcr hbr;go_wp2_with fail;refine HG.out.mono ?_;rintro e w1 ⟨rfl,hw1⟩;subst hw1;go_wp2_with fail;refine HC.out.mono ?_;rintro e w1 ⟨rfl,hw1⟩;subst hw1;go_wp2_with fail;refine HB.out.mono ?_;rintro e w1 ⟨rfl,hw1⟩;subst hw1;go_wp2;go_roundw
       case rel=>exact⟨pos+wd,b,0+1,(zgy R),rfl,by simp,rfl,HH.out,by omega,by omega,fun _=>by omega⟩
       case measure=>simp;omega
      ·rw [hbr] at HB hc;have HH:=zH (show 0=K by simpa using hc);clear hc hk hcr hbr;go_wp2_with fail;refine HG.out.mono ?_;rintro e w1 ⟨rfl,hw1⟩;subst hw1;go_wp2_with fail;refine HC.out.mono ?_;rintro e w1 ⟨rfl,hw1⟩;subst hw1;go_wp2_with fail;refine HB.out.mono ?_;rintro e w1 ⟨rfl,hw1⟩;subst hw1;go_wp2;go_ret;exact⟨by rw [<- HH.out];rfl,zfp _ _ _⟩
     ·rw [hcr] at HC hc;have HH:=zH (show 0=K by simpa using hc);clear hc hk hcr;go_wp2_with fail;refine HG.out.mono ?_;rintro e w1 ⟨rfl,hw1⟩;subst hw1;go_wp2_with fail;refine HC.out.mono ?_;rintro e w1 ⟨rfl,hw1⟩;subst hw1;go_wp2;go_ret;exact⟨by rw [<- HH.out];rfl,zfp _ _ _⟩
   | succ acc =>
    have hkn:kind ≠ 0:=hk (by omega);have hz':((kind:Int) == 0)=false:=(by rw [beq_eq_false_iff_ne];omega);have hz0:(((acc+1:Nat):Int) == 0)=false:=(by rw [beq_eq_false_iff_ne];omega);have hz1:((acc:Int)+1 == 0)=false:=by rw [beq_eq_false_iff_ne];omega
    by_cases h64:acc+1=64
    ·have hacc:acc=63:=(by omega);subst hacc;have HH:=zH (show 0=K by simpa using hc);clear hc hk;go_wp2_with fail;go_ret;exact⟨by rw [<- HH.out];rfl,zfp _ _ _⟩
    ·have hc:(if zcm R=true ∨ zfv S pos R=true then 0 else zda S b (pos+wd) (acc+1+1) kind)=K:=(by simpa [hkn,h64] using hc);have hz2:(((acc+1:Nat):Int) == 64)=false:=(by rw [beq_eq_false_iff_ne];omega);have hz3:((acc:Int)+1 == 64)=false:=(by rw [beq_eq_false_iff_ne];omega);cases hcr:zcm R
     ·rw [hcr] at HC hc;cases hbr:zfv S pos R
      ·rw [hbr] at HB hc;have HH:=zH (show zda S b (pos+wd) ((acc+1)+1) kind=K by simpa using hc);clear hc hk hcr hbr;go_wp2_with fail;refine HC.out.mono ?_;rintro e w1 ⟨rfl,hw1⟩;subst hw1;go_wp2_with fail;refine HB.out.mono ?_;rintro e w1 ⟨rfl,hw1⟩;subst hw1;go_wp2;go_roundw
       case rel=>exact⟨pos+wd,b,(acc+1)+1,kind,rfl,by simp,rfl,HH.out,by omega,by omega,fun _=>by omega⟩
       case measure=>simp;omega
      ·rw [hbr] at HB hc;have HH:=zH (show 0=K by simpa using hc);clear hc hk hcr hbr;go_wp2_with fail;refine HC.out.mono ?_;rintro e w1 ⟨rfl,hw1⟩;subst hw1;go_wp2_with fail;refine HB.out.mono ?_;rintro e w1 ⟨rfl,hw1⟩;subst hw1;go_wp2;go_ret;exact⟨by rw [<- HH.out];rfl,zfp _ _ _⟩
     ·rw [hcr] at HC hc;have HH:=zH (show 0=K by simpa using hc);clear hc hk hcr;go_wp2_with fail;refine HC.out.mono ?_;rintro e w1 ⟨rfl,hw1⟩;subst hw1;go_wp2;go_ret;exact⟨by rw [<- HH.out];rfl,zfp _ _ _⟩
  ·have hnx:∀ ty,(Instr.next (.pointer (some ⟨w.heap.size,0,none⟩)) true ty).run Tryz.prog (w.iter S pos)=_:=fun ty=>run_next_end w S pos ty hp
   rw [zqu S b pos acc kind hp] at hc;have HCC:=zH hc;clear hc;go_wp2;go_ret;exact⟨by rw [<- HCC.out];rfl,zfp _ _ _⟩
theorem zju (s:Str) (w:World):Calls Tryz.prog 95 #[St s] w fun e w'=>e=.returned (U8 (za1 s))/\Ext w w':=by
 have h:=zwm ⟨s.toArray⟩ w;have hs:(ByteArray.mk s.toArray).size=s.length:=by simp [ByteArray.size]
 rw [hs] at h;exact h
theorem zzh (s:Str) (w:World):Calls Tryz.prog 91 #[St s] w fun e w'=>e=.returned (.bool (keyS s))/\Ext w w':=by
 have H:=zH (zju s w);have HK:=zH (show keyS s=(za1 s != 0) from rfl)
 by_cases hz:za1 s=0
 ·rw [hz] at H HK;go_enter Tryz.func91,Tryz.ntmps91;go_wp2_with fail;refine H.out.mono ?_;rintro e w1 ⟨rfl,hb1⟩;go_wp2;go_ret;exact⟨by rw [HK.out];rfl,hb1⟩
 ·have hz':((za1 s:Int) == 0)=false:=by rw [beq_eq_false_iff_ne];omega
  rw [show (za1 s != 0)=true by simpa using hz] at HK;go_enter Tryz.func91,Tryz.ntmps91;go_wp2_with fail;refine H.out.mono ?_;rintro e w1 ⟨rfl,hb1⟩;go_wp2;go_ret;exact⟨by rw [HK.out];simp [hz],hb1⟩
end
end Go.Proofs.YtdikcgmdmcfpfaaGreat
