/- Package text: what a key is of. Total functions over the model's own decoding of UTF-8. -/
import Derived.Test.YtaabaflgeljbjaaGreatPr14
import Derived.Lib.Walk
import Derived.Lib.RuneCount
import Derived.Laws.RangeString
import Derived.Laws.RangeAny
set_option linter.unusedVariables false
set_option linter.unusedSimpArgs false
set_option maxRecDepth 100000
set_option maxHeartbeats 40000000
namespace Go.Proofs.YtaabaflgeljbjaaGreat
open Go.Ending renaming returned→Xa
section
open Go.RowKit
def zhy (r:Int):Nat:=if r=35 then 1 else if r=64 then 2 else if r=61 then 3 else 0
def zc1 (r:Int):Bool:=decide (r<32)||(decide (r≥127)&&decide (r<=159))
def zlr (s p:ByteArray):Bool:=decide (p.size<=s.size)&&((s.extract 0 p.size).toList==p.toList)
def zgu (s:ByteArray)(i:Nat)(r:Int):Bool:=(r==65533) && !zlr (s.extract i s.size) ⟨#[239,191,189]⟩
abbrev U8 (n:Nat):Value:=.int .u8 (n:Int)
theorem zzi (r:Int)(w:World):Calls Tryz.prog 123 #[.int .i32 r] w fun e w'=>e=Xa (U8 (zhy r))/\w=w':=by
 by_cases h1:r=35
 ·subst h1;go_enter Tryz.func123,Tryz.ntmps123;go_wp2;go_ret;exact⟨rfl,rfl⟩
 by_cases a:r=64
 ·subst a;go_enter Tryz.func123,Tryz.ntmps123;go_wp2;go_ret;exact⟨rfl,rfl⟩
 by_cases b:r=61
 ·subst b;go_enter Tryz.func123,Tryz.ntmps123;go_wp2;go_ret;exact⟨rfl,rfl⟩
 have d:(r==35)=false:=(by simpa using h1);have f:(r==64)=false:=(by simpa using a);have g:(r==61)=false:=(by simpa using b);have c:=zH (show zhy r=0 by simp[zhy,h1,a,b]);clear h1 a b;go_enter Tryz.func123,Tryz.ntmps123;go_wp2;go_ret;exact⟨by rw[c.out];rfl,rfl⟩
theorem zsx (r:Int)(w:World):Calls Tryz.prog 124 #[.int .i32 r] w fun e w'=>e=Xa (.bool (zc1 r))/\w=w':=by
 by_cases h1:r<32
 ·have a:=zH (show zc1 r=true by simp[zc1,h1]);go_enter Tryz.func124,Tryz.ntmps124;go_wp2;go_ret;exact⟨by rw[a.out];rfl,rfl⟩
 by_cases b:r≥127
 ·by_cases c:r<=159
  ·have a:=zH (show zc1 r=true by simp[zc1,h1,b,c]);go_enter Tryz.func124,Tryz.ntmps124;go_wp2;go_ret;exact⟨by rw[a.out];rfl,rfl⟩
  have a:=zH (show zc1 r=false by simp[zc1,h1,b,c]);go_enter Tryz.func124,Tryz.ntmps124;go_wp2;go_ret;exact⟨by rw[a.out];rfl,rfl⟩
 have a:=zH (show zc1 r=false by simp[zc1,h1,b]);go_enter Tryz.func124,Tryz.ntmps124;go_wp2;go_ret;exact⟨by rw[a.out];rfl,rfl⟩
theorem zsy (s p:ByteArray)(w:World):Calls Tryz.prog 215 #[.string s,.string p] w fun e w'=>e=Xa (.bool (zlr s p))/\w=w':=by
 by_cases h:p.size<=s.size
 ·have h1:(s.size:Int)≥p.size:=by omega
  go_enter Tryz.func215,Tryz.ntmps215;go_wp2;go_ret;exact⟨by simp[zlr,h],rfl⟩
 have h1:¬(s.size:Int)≥p.size:=by omega
 go_enter Tryz.func215,Tryz.ntmps215;go_wp2;go_ret;exact⟨by simp[zlr,h],rfl⟩
theorem zum (s p:ByteArray)(w:World):Calls Tryz.prog 170 #[.string s,.string p] w fun e w'=>e=Xa (.bool (zlr s p))/\w=w':=by
 have H:=zH zsy;go_enter Tryz.func170,Tryz.ntmps170;go_wp2_with fail;refine(H.out _ _ _).mono ?_;rintro e w'⟨rfl,rfl⟩;go_wp2;go_ret;exact⟨rfl,rfl⟩
theorem zun (s:ByteArray)(i:Nat)(r:Int)(hi:i<=s.size)(w:World):Calls Tryz.prog 125 #[.string s,I i,.int .i32 r] w fun e w'=>e=Xa (.bool (zgu s i r))/\w=w':=by
 by_cases a:r=65533
 ·subst a;have b:=zH zum;have c:(i:Int)<=s.size:=by omega
  go_enter Tryz.func125,Tryz.ntmps125;go_wp2_with fail;refine(b.out _ _ _).mono ?_;rintro e w'⟨rfl,rfl⟩;go_wp2;go_ret;exact⟨by simp[zgu],rfl⟩
 have h1:(r==65533)=false:=by simpa using a
 go_enter Tryz.func125,Tryz.ntmps125;go_wp2;go_ret;exact⟨by simp[zgu,h1],rfl⟩
def zdv (s:ByteArray):Nat->Nat->Nat->Nat->Nat
 | 0,_,_,kind=>kind
 | b+1,pos,n,kind =>
  if pos<s.size then
   if(if n=0 then zhy (Utf8.decode s pos).1 else kind)=0 ∨ n=64 ∨ zc1 (Utf8.decode s pos).1=true ∨ zgu s pos (Utf8.decode s pos).1=true then 0
   else zdv s b (pos+(Utf8.decode s pos).2) (n+1) (if n=0 then zhy (Utf8.decode s pos).1 else kind)
  else kind
def zas (s:Str):Nat:=zdv ⟨s.toArray⟩ s.length 0 0 0
def keyS (s:Str):Bool:=zas s !=0
theorem zrb (s:ByteArray)(b pos n kind:Nat)(h:¬pos<s.size):zdv s b pos n kind=kind:=by
 cases b<;>simp[zdv,h]
theorem zgk (w:World)(s:ByteArray)(pos:Nat):Ext w (w.iter s pos):=(Ext.refl w).alloc _
theorem zxi (S:ByteArray)(w:World):Calls Tryz.prog 81 #[.string S] w fun e w'=>e=Xa (U8 (zdv S S.size 0 0 0))/\Ext w w':=by
 obtain⟨K,hK⟩:∃K,zdv S S.size 0 0 0=K:=⟨_,rfl⟩
 rw[hK];have v:=zH hK;clear hK;have r:=zH zzi;have s:=zH zsx;have t:=zH zun;go_enter Tryz.func81,Tryz.ntmps81;go_wp2
 go_loopw [3,4] (fun D n w'=>∃(pos b d kind:Nat),w'=w.iter S pos/\n=I d/\D=U8 kind/\zdv S b pos d kind=K/\S.size<=pos+b/\d<=64/\(d≠0->kind≠0)) (fun _ _ w'=>S.size-w'.iterPos w.heap.size)
 case atStart=>exact⟨0,S.size,0,0,rfl,rfl,rfl,v.out,by omega,by omega,by simp⟩
 obtain⟨pos,b,d,kind,rfl,rfl,rfl,a,hb,ha,hk⟩:=hrel
 by_cases p:pos<S.size
 ·have B:∀l,(Instr.next (.pointer (some ⟨w.heap.size,0,none⟩)) true l).run Tryz.prog (w.iter S pos)=_:=fun l=>run_next_any w S pos l p
  have F:=Lib.decode_width_pos S pos p;obtain⟨b,rfl⟩:∃x,b=x+1:=⟨b-1,by omega⟩
  have k:=zH (t.out S pos (Utf8.decode S pos).1 (by omega) (w.iter S (pos+(Utf8.decode S pos).2)));have i:=zH (s.out (Utf8.decode S pos).1 (w.iter S (pos+(Utf8.decode S pos).2)));have o:=zH (r.out (Utf8.decode S pos).1 (w.iter S (pos+(Utf8.decode S pos).2)));rw[zdv,zP p]at a;generalize hR:(((Utf8.decode S pos).1:Nat):Int)=R at *;generalize E:(Utf8.decode S pos).2=m at *
  cases d
  case zero=>
   by_cases q:zhy R=0
   ·rw[zP (.inl (by simpa using q))]at a;rw[q]at o;have f:=zH a;clear a hk q;go_wp2_with fail;refine o.out.mono ?_;rintro e g⟨rfl,c⟩;subst c;go_wp2;go_ret;exact⟨by rw[<- f.out];rfl,zgk _ _ _⟩
   have C:(((zhy R:Nat):Int)==0)=false:=(by rw[beq_eq_false_iff_ne];omega);have a:(if zc1 R=true ∨ zgu S pos R=true then 0 else zdv S b (pos+m) (0+1) (zhy R))=K:=(by simpa[q]using a);cases h:zc1 R
   ·rw[h]at i a;cases j:zgu S pos R
    ·rw[j]at k a;have f:=zH (show zdv S b (pos+m) (0+1) (zhy R)=K by simpa using a);clear a hk h j;go_wp2_with fail;refine o.out.mono ?_;rintro e g⟨rfl,c⟩;subst c;go_wp2_with fail;refine i.out.mono ?_;rintro e g⟨rfl,c⟩;subst c;go_wp2_with fail;refine k.out.mono ?_;rintro e g⟨rfl,c⟩;subst c;go_wp2;go_roundw
     case rel=>exact⟨pos+m,b,0+1,(zhy R),rfl,by simp,rfl,f.out,by omega,by omega,fun _=>by omega⟩
     case measure=>simp;omega
    rw[j]at k a;have f:=zH (show 0=K by simpa using a);clear a hk h j;go_wp2_with fail;refine o.out.mono ?_;rintro e g⟨rfl,c⟩;subst c;go_wp2_with fail;refine i.out.mono ?_;rintro e g⟨rfl,c⟩;subst c;go_wp2_with fail;refine k.out.mono ?_;rintro e g⟨rfl,c⟩;subst c;go_wp2;go_ret;exact⟨by rw[<- f.out];rfl,zgk _ _ _⟩
   rw[h]at i a;have f:=zH (show 0=K by simpa using a);clear a hk h;go_wp2_with fail;refine o.out.mono ?_;rintro e g⟨rfl,c⟩;subst c;go_wp2_with fail;refine i.out.mono ?_;rintro e g⟨rfl,c⟩;subst c;go_wp2;go_ret;exact⟨by rw[<- f.out];rfl,zgk _ _ _⟩
  rename_i d
  have A:kind≠0:=hk (by omega);have C:((kind:Int)==0)=false:=(by rw[beq_eq_false_iff_ne];omega);have G:(((d+1:Nat):Int)==0)=false:=(by rw[beq_eq_false_iff_ne];omega);have H:((d:Int)+1==0)=false:=by rw[beq_eq_false_iff_ne];omega
  by_cases y:d+1=64
  ·have z:d=63:=(by omega);subst z;have f:=zH (show 0=K by simpa using a);clear a hk;go_wp2_with fail;go_ret;exact⟨by rw[<- f.out];rfl,zgk _ _ _⟩
  have a:(if zc1 R=true ∨ zgu S pos R=true then 0 else zdv S b (pos+m) (d+1+1) kind)=K:=(by simpa[A,y]using a);have J:(((d+1:Nat):Int)==64)=false:=(by rw[beq_eq_false_iff_ne];omega);have L:((d:Int)+1==64)=false:=(by rw[beq_eq_false_iff_ne];omega);cases h:zc1 R
  ·rw[h]at i a;cases j:zgu S pos R
   ·rw[j]at k a;have f:=zH (show zdv S b (pos+m) ((d+1)+1) kind=K by simpa using a);clear a hk h j;go_wp2_with fail;refine i.out.mono ?_;rintro e g⟨rfl,c⟩;subst c;go_wp2_with fail;refine k.out.mono ?_;rintro e g⟨rfl,c⟩;subst c;go_wp2;go_roundw
    case rel=>exact⟨pos+m,b,(d+1)+1,kind,rfl,by simp,rfl,f.out,by omega,by omega,fun _=>by omega⟩
    case measure=>simp;omega
   rw[j]at k a;have f:=zH (show 0=K by simpa using a);clear a hk h j;go_wp2_with fail;refine i.out.mono ?_;rintro e g⟨rfl,c⟩;subst c;go_wp2_with fail;refine k.out.mono ?_;rintro e g⟨rfl,c⟩;subst c;go_wp2;go_ret;exact⟨by rw[<- f.out];rfl,zgk _ _ _⟩
  rw[h]at i a;have f:=zH (show 0=K by simpa using a);clear a hk h;go_wp2_with fail;refine i.out.mono ?_;rintro e g⟨rfl,c⟩;subst c;go_wp2;go_ret;exact⟨by rw[<- f.out];rfl,zgk _ _ _⟩
 have B:∀l,(Instr.next (.pointer (some ⟨w.heap.size,0,none⟩)) true l).run Tryz.prog (w.iter S pos)=_:=fun l=>run_next_end w S pos l p
 rw[zrb S b pos d kind p]at a;have u:=zH a;clear a;go_wp2;go_ret;exact⟨by rw[<- u.out];rfl,zgk _ _ _⟩
theorem zkw (s:Str)(w:World):Calls Tryz.prog 81 #[St s] w fun e w'=>e=Xa (U8 (zas s))/\Ext w w':=by
 have a:=zxi ⟨s.toArray⟩ w;have b:(ByteArray.mk s.toArray).size=s.length:=by simp[ByteArray.size]
 rw[b]at a;exact a
theorem ya4 (s:Str)(w:World):Calls Tryz.prog 134 #[St s] w fun e w'=>e=Xa (.bool (keyS s))/\Ext w w':=by
 have b:=zH (zkw s w);have a:=zH (show keyS s=(zas s !=0)from rfl)
 by_cases d:zas s=0
 ·rw[d]at b a;go_enter Tryz.func134,Tryz.ntmps134;go_wp2_with fail;refine b.out.mono ?_;rintro e f⟨rfl,c⟩;go_wp2;go_ret;exact⟨by rw[a.out];rfl,c⟩
 have g:((zas s:Int)==0)=false:=by rw[beq_eq_false_iff_ne];omega
 rw[show(zas s !=0)=true by simpa using d]at a;go_enter Tryz.func134,Tryz.ntmps134;go_wp2_with fail;refine b.out.mono ?_;rintro e f⟨rfl,c⟩;go_wp2;go_ret;exact⟨by rw[a.out];simp[d],c⟩
end
end Go.Proofs.YtaabaflgeljbjaaGreat
