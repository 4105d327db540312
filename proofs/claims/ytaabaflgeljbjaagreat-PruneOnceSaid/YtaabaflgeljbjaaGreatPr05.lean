/- Laws. -/
import Derived.Test.YtaabaflgeljbjaaGreatRows
import Derived.Test.YtaabaflgeljbjaaGreatPr01
set_option linter.unusedVariables false
set_option linter.unusedSimpArgs false
set_option maxRecDepth 100000
set_option maxHeartbeats 40000000
namespace Go.Proofs.YtaabaflgeljbjaaGreat
section
open Go.RowKit
abbrev Dot:=Str × Nat
abbrev zag:=Str × Nat × Nat
abbrev Cell:=Nat × Str × Bool
abbrev Item:=Str × List Dot
abbrev zan:=Str × Dot
def zaj (m:Mark):List Value:=[St m.1,U m.2]
def zbx (m:zag):List Value:=[St m.1,U m.2.1,U m.2.2]
def strC (s:Str):List Value:=[St s]
abbrev markT:Shape Mark:=flat 2 zaj (fun _=>rfl) (fun _ u hu=>by simp [zaj] at hu;rcases hu with rfl | rfl <;> rfl)
abbrev zcl:Shape zag:=flat 3 zbx (fun _=>rfl) (fun _ u hu=>by simp [zbx] at hu;rcases hu with rfl | rfl | rfl <;> rfl)
abbrev strT:Shape Str:=flat 1 strC (fun _=>rfl) (fun _ u hu=>by simp [strC] at hu;rcases hu with rfl;rfl)
def itemT:Shape Item where
 k:=2
 rd w S x vs:=∃ v,vs = [St x.1,v]/\Sl markT w S v x.2
 len h:=by obtain⟨v,rfl,-⟩:=h;rfl
 one h:=by
  obtain⟨v,rfl,h⟩:=h;intro u hu;simp at hu;rcases hu with rfl | rfl
  ·rfl
  ·exact h.one
 keep h hs:=by obtain⟨v,rfl,h⟩:=h;exact⟨v,rfl,h.keep (by decide) hs⟩
 mono h hs:=by obtain⟨v,rfl,h⟩:=h;exact⟨v,rfl,h.mono (by decide) hs⟩
structure Entry where
 key:Str
 seen:List Mark
 counts:List zag
 items:List Item
 cell:Cell
def entryT:Shape Entry where
 k:=7
 rd w S x vs:=∃ v1 v2 v3,vs = [St x.key,v1,v2,v3,U x.cell.1,St x.cell.2.1,.bool x.cell.2.2]/\Sl markT w S v1 x.seen/\Sl zcl w S v2 x.counts/\Sl itemT w S v3 x.items
 len h:=by obtain⟨_,_,_,rfl,-⟩:=h;rfl
 one h:=by
  obtain⟨_,_,_,rfl,h1,h2,h3⟩:=h;intro u hu;simp at hu;rcases hu with rfl | rfl | rfl | rfl | rfl | rfl | rfl
  ·rfl
  ·exact h1.one
  ·exact h2.one
  ·exact h3.one
  ·rfl
  ·rfl
  ·rfl
 keep h hs:=by obtain⟨v1,v2,v3,rfl,h1,h2,h3⟩:=h;exact⟨v1,v2,v3,rfl,h1.keep (by decide) hs,h2.keep (by decide) hs,h3.keep (by decide) hs⟩
 mono h hs:=by obtain⟨v1,v2,v3,rfl,h1,h2,h3⟩:=h;exact⟨v1,v2,v3,rfl,h1.mono (by decide) hs,h2.mono (by decide) hs,h3.mono (by decide) hs⟩
structure State where
 all:List Mark
 entries:List Entry
 pruned:List Str
theorem zgp:(Tryz.prog.info? 97).map (fun i=>(i.zero,i.size,i.bytes))=some (some (.agg #[St [],U 0]),2,24):=by kernel_rfl
theorem zkj:(Tryz.prog.info? 59).map (fun i=>(i.zero,i.size,i.bytes))=some (some (.agg #[St [],U 0]),2,24):=by kernel_rfl
theorem zkk:(Tryz.prog.info? 54).map (fun i=>(i.zero,i.size,i.bytes))=some (some (.agg #[St [],U 0,U 0]),3,32):=by kernel_rfl
theorem zlh:(Tryz.prog.info? 57).map (fun i=>(i.zero,i.size,i.bytes))=some (some (.agg #[St [],.slice none 0 0]),2,40):=by kernel_rfl
theorem zd7:(Tryz.prog.info? 9).map (fun i=>(i.zero,i.size,i.bytes))=some (some (St []),1,16):=by kernel_rfl
theorem zc0:(Tryz.prog.info? 46).map (fun i=>(i.zero,i.size,i.bytes))=some (some (.agg #[St [],.slice none 0 0,.slice none 0 0,.slice none 0 0,U 0,St [],.bool false]),7,120):=by kernel_rfl
theorem Sl.none_nil {α:Type} {T:Shape α} {w:World} {S:Nat->Prop} {n c:Nat} {l:List α} (h:Sl T w S (.slice none n c) l):l = []:=by
 cases l with
 | nil=>rfl
 | cons x r=>obtain⟨b,o,vs,c',hv',-⟩:=h.at_ (pre:=[]) rfl;cases hv'
theorem zwf {A:Option Addr} {n:Nat} {b:Nat}:¬ zad (.slice A n 0) b:=by
 rintro⟨g,n',c,h,hc,rfl⟩;cases h;omega
theorem zh3 {α:Type} {T:Shape α} {tid:Nat} {w w1 w':World} {S:Nat->Prop} {v':Value} {l:List α} {A:Option Addr} {vss:List (List Value)}
  (h1:vss.length=l.length) (h2:∀ (i:Nat) x vs,l[i]? = some x->vss[i]? = some vs->T.rd w S x vs) (hown:Own w' w.heap.size tid T.k v' (0+l.length) ([]++vss.flatten))
  (he:Ext w w1) (hg:Grew w1 w' (.slice A 0 0) v'):OwnL T tid w' w.heap.size S v' l/\Ext w w':=by
 have hx:Ext w w':=he.grew hg (fun b hb=>absurd hb zwf);exact⟨⟨vss,h1,fun i x vs hi hv=>T.keep (h2 i x vs hi hv) (fun b _ hb=>hx.block b hb),by simpa using hown⟩,hx⟩
theorem zik {S:Nat->Prop} {v:Value} {l:List (Mark)} {w:World} (hv:Sl markT w S v l) (hl:l.length<=1099511627776) :
  Calls Tryz.prog 64 #[v] w fun e w'=>∃ v',e=.returned v'/\OwnL markT 97 w' w.heap.size S v' l/\Ext w w':=by
 obtain⟨A,c,rfl,h1,h2⟩:=hv.form
 cases A with
 | none =>
  obtain rfl:=hv.none_nil;have hq:=fun W=>Lib.run_eql_slice_nil (P:=Tryz.prog) W 22 97 none 0 c 0 0 Tryz.underlying22
  clear hv;go_enter Tryz.func64,Tryz.ntmps64;go_wp2;go_ret;exact⟨_,rfl,OwnL.nil _ _,Ext.refl _⟩
 | some A =>
  have hq:=fun W=>Lib.run_eql_slice_nil (P:=Tryz.prog) W 22 97 (some A) l.length c 0 0 Tryz.underlying22
  have HS:=zH hv.src;clear hv;go_enter Tryz.func64,Tryz.ntmps64
  go_wp2_with (at_builtin;refine zal rfl (.tmp 5) (.tmp 6) 22 rfl w.heap.size 97 2 24 (.agg #[St [],U 0]) Tryz.underlying22 zgp rfl (by omega) (.slice (some ⟨w.heap.size,0,none⟩) 0 0) 0 [] rfl (Own.nil _ _ _ _ _) (some A) l.length c (HS.out.choose).flatten rfl (Src.ext HS.out.choose_spec.2.2 ((Ext.refl w).alloc _)) (by omega) (by omega) (by simp) ?_;intro v' w' hown hgr;clear hq)
  go_ret;exact⟨v',rfl,zh3 HS.out.choose_spec.1 HS.out.choose_spec.2.1 hown ((Ext.refl w).alloc _) hgr⟩
theorem zwg {S:Nat->Prop} {v:Value} {l:List (Dot)} {w:World} (hv:Sl markT w S v l) (hl:l.length<=1099511627776) :
  Calls Tryz.prog 119 #[v] w fun e w'=>∃ v',e=.returned v'/\OwnL markT 59 w' w.heap.size S v' l/\Ext w w':=by
 obtain⟨A,c,rfl,h1,h2⟩:=hv.form
 cases A with
 | none =>
  obtain rfl:=hv.none_nil;have hq:=fun W=>Lib.run_eql_slice_nil (P:=Tryz.prog) W 55 59 none 0 c 0 0 Tryz.underlying55
  clear hv;go_enter Tryz.func119,Tryz.ntmps119;go_wp2;go_ret;exact⟨_,rfl,OwnL.nil _ _,Ext.refl _⟩
 | some A =>
  have hq:=fun W=>Lib.run_eql_slice_nil (P:=Tryz.prog) W 55 59 (some A) l.length c 0 0 Tryz.underlying55
  have HS:=zH hv.src;clear hv;go_enter Tryz.func119,Tryz.ntmps119
  go_wp2_with (at_builtin;refine zal rfl (.tmp 5) (.tmp 6) 55 rfl w.heap.size 59 2 24 (.agg #[St [],U 0]) Tryz.underlying55 zkj rfl (by omega) (.slice (some ⟨w.heap.size,0,none⟩) 0 0) 0 [] rfl (Own.nil _ _ _ _ _) (some A) l.length c (HS.out.choose).flatten rfl (Src.ext HS.out.choose_spec.2.2 ((Ext.refl w).alloc _)) (by omega) (by omega) (by simp) ?_;intro v' w' hown hgr;clear hq)
  go_ret;exact⟨v',rfl,zh3 HS.out.choose_spec.1 HS.out.choose_spec.2.1 hown ((Ext.refl w).alloc _) hgr⟩
theorem zsl {S:Nat->Prop} {v:Value} {l:List (zag)} {w:World} (hv:Sl zcl w S v l) (hl:l.length<=1099511627776) :
  Calls Tryz.prog 117 #[v] w fun e w'=>∃ v',e=.returned v'/\OwnL zcl 54 w' w.heap.size S v' l/\Ext w w':=by
 obtain⟨A,c,rfl,h1,h2⟩:=hv.form
 cases A with
 | none =>
  obtain rfl:=hv.none_nil;have hq:=fun W=>Lib.run_eql_slice_nil (P:=Tryz.prog) W 41 54 none 0 c 0 0 Tryz.underlying41
  clear hv;go_enter Tryz.func117,Tryz.ntmps117;go_wp2;go_ret;exact⟨_,rfl,OwnL.nil _ _,Ext.refl _⟩
 | some A =>
  have hq:=fun W=>Lib.run_eql_slice_nil (P:=Tryz.prog) W 41 54 (some A) l.length c 0 0 Tryz.underlying41
  have HS:=zH hv.src;clear hv;go_enter Tryz.func117,Tryz.ntmps117
  go_wp2_with (at_builtin;refine zal rfl (.tmp 5) (.tmp 6) 41 rfl w.heap.size 54 3 32 (.agg #[St [],U 0,U 0]) Tryz.underlying41 zkk rfl (by omega) (.slice (some ⟨w.heap.size,0,none⟩) 0 0) 0 [] rfl (Own.nil _ _ _ _ _) (some A) l.length c (HS.out.choose).flatten rfl (Src.ext HS.out.choose_spec.2.2 ((Ext.refl w).alloc _)) (by omega) (by omega) (by simp) ?_;intro v' w' hown hgr;clear hq)
  go_ret;exact⟨v',rfl,zh3 HS.out.choose_spec.1 HS.out.choose_spec.2.1 hown ((Ext.refl w).alloc _) hgr⟩
theorem zt4 {S:Nat->Prop} {v:Value} {l:List (Item)} {w:World} (hv:Sl itemT w S v l) (hl:l.length<=1099511627776) :
  Calls Tryz.prog 118 #[v] w fun e w'=>∃ v',e=.returned v'/\OwnL itemT 57 w' w.heap.size S v' l/\Ext w w':=by
 obtain⟨A,c,rfl,h1,h2⟩:=hv.form
 cases A with
 | none =>
  obtain rfl:=hv.none_nil;have hq:=fun W=>Lib.run_eql_slice_nil (P:=Tryz.prog) W 42 57 none 0 c 0 0 Tryz.underlying42
  clear hv;go_enter Tryz.func118,Tryz.ntmps118;go_wp2;go_ret;exact⟨_,rfl,OwnL.nil _ _,Ext.refl _⟩
 | some A =>
  have hq:=fun W=>Lib.run_eql_slice_nil (P:=Tryz.prog) W 42 57 (some A) l.length c 0 0 Tryz.underlying42
  have HS:=zH hv.src;clear hv;go_enter Tryz.func118,Tryz.ntmps118
  go_wp2_with (at_builtin;refine zal rfl (.tmp 5) (.tmp 6) 42 rfl w.heap.size 57 2 40 (.agg #[St [],.slice none 0 0]) Tryz.underlying42 zlh rfl (by omega) (.slice (some ⟨w.heap.size,0,none⟩) 0 0) 0 [] rfl (Own.nil _ _ _ _ _) (some A) l.length c (HS.out.choose).flatten rfl (Src.ext HS.out.choose_spec.2.2 ((Ext.refl w).alloc _)) (by omega) (by omega) (by simp) ?_;intro v' w' hown hgr;clear hq)
  go_ret;exact⟨v',rfl,zh3 HS.out.choose_spec.1 HS.out.choose_spec.2.1 hown ((Ext.refl w).alloc _) hgr⟩
theorem zpa {S:Nat->Prop} {v:Value} {l:List (Str)} {w:World} (hv:Sl strT w S v l) (hl:l.length<=1099511627776) :
  Calls Tryz.prog 65 #[v] w fun e w'=>∃ v',e=.returned v'/\OwnL strT 9 w' w.heap.size S v' l/\Ext w w':=by
 obtain⟨A,c,rfl,h1,h2⟩:=hv.form
 cases A with
 | none =>
  obtain rfl:=hv.none_nil;have hq:=fun W=>Lib.run_eql_slice_nil (P:=Tryz.prog) W 24 9 none 0 c 0 0 Tryz.underlying24
  clear hv;go_enter Tryz.func65,Tryz.ntmps65;go_wp2;go_ret;exact⟨_,rfl,OwnL.nil _ _,Ext.refl _⟩
 | some A =>
  have hq:=fun W=>Lib.run_eql_slice_nil (P:=Tryz.prog) W 24 9 (some A) l.length c 0 0 Tryz.underlying24
  have HS:=zH hv.src;clear hv;go_enter Tryz.func65,Tryz.ntmps65
  go_wp2_with (at_builtin;refine zal rfl (.tmp 5) (.tmp 6) 24 rfl w.heap.size 9 1 16 (St []) Tryz.underlying24 zd7 rfl (by omega) (.slice (some ⟨w.heap.size,0,none⟩) 0 0) 0 [] rfl (Own.nil _ _ _ _ _) (some A) l.length c (HS.out.choose).flatten rfl (Src.ext HS.out.choose_spec.2.2 ((Ext.refl w).alloc _)) (by omega) (by omega) (by simp) ?_;intro v' w' hown hgr;clear hq)
  go_ret;exact⟨v',rfl,zh3 HS.out.choose_spec.1 HS.out.choose_spec.2.1 hown ((Ext.refl w).alloc _) hgr⟩
theorem zf1 {w wr:World} {S:Nat->Prop} {A:Option Addr} {n c:Nat} {l pre post:List Mark} {m:Mark} (h:Sl markT w S (.slice A n c) l) (hb:Ext w wr) (hl:l=pre++m :: post) :
  ∃ b o,A=some ⟨b,o,none⟩/\wr.cell? ⟨b,o+pre.length * 2,none⟩=some (St m.1)/\wr.cell? ⟨b,o+pre.length * 2+1,none⟩=some (U m.2):=by
 obtain⟨b,o,vs,c',hv,hS,rfl,hc⟩:=h.at_ hl;injection hv with e1 e2 e3
 subst e1;exact⟨b,o,rfl,hb.cell (hc 0 _ rfl),hb.cell (hc 1 _ rfl)⟩
structure PredM (P:Program) (g:Nat) (cb:Array Value) (base:Nat) (C:World->Prop) (p:Mark->Bool):Prop where
 enters:∀ args w,(callFunc g args).run P w=.ok (.enter g args) w
 keep:∀ W W',C W->Below base W W'->C W'
 does:∀ m W,C W->Calls P g (#[.agg #[St m.1,U m.2]]++cb) W fun e w'=>e=.returned (.bool (p m))/\Ext W w'
theorem Ext.below {w w':World} (h:Ext w w') {n:Nat} (hn:n<=w.heap.size):Below n w w':=Below.mono h hn
theorem zm7 {α:Type} {Q:α->Prop} {pre:List α} {m:α} (h:∀ x ∈ pre,Q x) (hm:Q m):∀ x ∈ pre++[m],Q x:=fun x hx=>by
 rcases List.mem_append.1 hx with h1 | h1
 ·exact h x h1
 ·rw [List.mem_singleton.1 h1];exact hm
def idxM (p:Mark->Bool) (l:List Mark):Int:=match l.findIdx? p with | some i=>i | none=>-1
theorem zpb {p:Mark->Bool} {l:List Mark} (h:∀ m ∈ l,p m=false):idxM p l = -1:=by
 unfold idxM;rw [List.findIdx?_eq_none_iff.2 (fun x hx=>h x hx)]
theorem zpc {p:Mark->Bool} {pre post:List Mark} {m:Mark} (h:∀ x ∈ pre,p x=false) (hm:p m=true):idxM p (pre++m :: post)=pre.length:=by
 unfold idxM
 have:(pre++m :: post).findIdx? p=some pre.length:=by rw [List.findIdx?_append,List.findIdx?_eq_none_iff.2 (fun x hx=>h x hx)];simp [List.findIdx?_cons,hm]
 rw [this]
theorem zt5 {S:Nat->Prop} {v:Value} {l:List Mark} {w:World} {g base:Nat} {cb:Array Value} {C:World->Prop} {p:Mark->Bool} (hv:Sl markT w S v l) (hp:PredM Tryz.prog g cb base C p) (hC:C w) (hbase:base<=w.heap.size) :
  Calls Tryz.prog 146 #[v,.func (.func g) #[] cb] w fun e w'=>e=.returned (I (idxM p l))/\Ext w w':=by
 have hv':=hv;obtain⟨A,c,rfl,h1,h2⟩:=hv.form;have HC:=zH hC;have eg:=hp.enters;clear hv hC;go_enter Tryz.func146,Tryz.ntmps146;go_wp2
 go_loopw [8] (fun i wr=>∃ pre post,l=pre++post/\i=I pre.length/\(∀ x ∈ pre,p x=false)/\Ext w wr) (fun i _=>l.length - (intOf i).toNat)
 case atStart=>exact⟨[],l,rfl,rfl,by simp,Ext.refl _⟩
 case round =>
  obtain⟨pre,post,hl,rfl,hpre,hb⟩:=hrel
  cases post with
  | cons m post =>
   obtain⟨b,o,rfl,hd0,hd1⟩:=zf1 hv' hb hl;have hlt:pre.length < l.length:=(by rw [hl];simp);have HL:=zH hl;have HP:=zH hpre;have HD:=zH (hp.does m wr (hp.keep _ _ HC.out (hb.below hbase)));clear hl hv' hp hpre;cases hpm:p m
   all_goals
    rw [hpm] at HD;go_wp2_with fail;refine HD.out.mono ?_;rintro e w1 ⟨rfl,hb1⟩;go_wp2
   ·go_roundw
    case rel=>exact⟨pre++[m],post,by rw [HL.out];simp,by simp,zm7 HP.out hpm,hb.trans hb1⟩
    case measure=>simp [intOf];omega
   ·go_ret;exact⟨by rw [HL.out,zpc HP.out hpm];rfl,hb.trans hb1⟩
  | nil=>rw [List.append_nil] at hl;subst hl;have HP:=zH hpre;clear hv' hpre hp;go_wp2;go_ret;exact⟨by rw [zpb HP.out];rfl,hb⟩
theorem zb4 (l:List Mark):(l.flatMap zaj).length=l.length * 2:=by
 induction l with
 | nil=>rfl
 | cons a r ih=>simp [ih,zaj];omega
theorem zgh (A B:List Mark) (x:Mark):((A++x :: B).flatMap zaj)[A.length * 2]? = some (St x.1)/\((A++x :: B).flatMap zaj)[A.length * 2+1]? = some (U x.2):=by
 rw [List.flatMap_append,<- zb4 A]
 constructor
 ·rw [List.getElem?_append_right (Nat.le_refl _)];simp [zaj]
 ·rw [List.getElem?_append_right (by omega)];simp [zaj]
theorem zwh (A B:List Mark) (x y:Mark):(((A++x :: B).flatMap zaj).set (A.length * 2) (St y.1)).set (A.length * 2+1) (U y.2)=(A++y :: B).flatMap zaj:=by
 rw [List.flatMap_append,List.flatMap_append,<- zb4 A,List.set_append_right _ _ (Nat.le_refl _),List.set_append_right _ _ (by omega)];simp [zaj]
theorem znu (A B:List Mark):((A++B).flatMap zaj).take (A.length * 2)=A.flatMap zaj:=by
 rw [List.flatMap_append,<- zb4 A];simp
theorem own_markT {tid base:Nat} {S:Nat->Prop} {v:Value} {l:List Mark} {w:World}:OwnL markT tid w base S v l↔Own w base tid 2 v l.length (l.flatMap zaj):=OwnL.flat_iff
theorem zbb {tid base:Nat} {v:Value} {l:List Mark} {w:World} (h:Own w base tid 2 v l.length (l.flatMap zaj)):Sl markT w (fun b=>base<=b) v l :=
 (own_markT (S:=fun b=>base<=b).2 h).sl (by decide) (fun _ _ h=>h) (fun _ h _=>h)
theorem zi7 {base:Nat} {w w1:World} {g:Nat} (h:Below base w w1) (hg:base<=g) (cs:Array Value):Below base w (w1.setRow g cs) :=
 ⟨h.os,h.tape,h.output,Nat.le_trans h.size (by simp [World.setRow]),fun k hk=>(setRow_other w1 g k _ (by omega)).trans (h.block k hk)⟩
theorem RowIs.setMark {w:World} {g T:Nat} {A B:List Mark} {x:Mark} {tail:List Value} (h:RowIs w g T ((A++x :: B).flatMap zaj) tail) (y:Mark) :
  RowIs ((w.setCell ⟨g,A.length * 2,none⟩ (St y.1)).setCell ⟨g,A.length * 2+1,none⟩ (U y.2)) g T ((A++y :: B).flatMap zaj) tail:=by
 have hl:((A++x :: B).flatMap zaj).length=A.length * 2+2+B.length * 2:=by rw [zb4];simp;omega
 have h1:=h.set (j:=A.length * 2) (by omega) (St y.1);have h2:=h1.set (j:=A.length * 2+1) (by rw [List.length_set];omega) (U y.2)
 rwa [zwh] at h2
theorem zmn {v:Value} {l:List Mark} {w:World} {g base:Nat} {cb:Array Value} {C:World->Prop} {p:Mark->Bool} (hv:Own w base 97 2 v l.length (l.flatMap zaj)) (hp:PredM Tryz.prog g cb base C p) (hC:C w) (hbase:base<=w.heap.size) :
  Calls Tryz.prog 94 #[v,.func (.func g) #[] cb] w fun e w'=>∃ v',e=.returned v'/\Own w' base 97 2 v' (l.filter fun m=>!p m).length ((l.filter fun m=>!p m).flatMap zaj)/\Below base w w':=by
 have hsl:=zbb hv;have HI:=zH (zt5 hsl hp hC hbase)
 by_cases hall:∀ m ∈ l,p m=false
 ·have hi:=zpb hall;rw [hi] at HI;have hf:(l.filter fun m=>!p m)=l:=List.filter_eq_self.2 (fun m hm=>by simp [hall m hm]);have HF:=zH hf;have HV:=zH hv;clear hi hf hv hsl hp hall;go_enter Tryz.func94,Tryz.ntmps94;go_wp2_with fail;refine HI.out.mono ?_;rintro e w1 ⟨rfl,hb1⟩;go_wp2;go_ret;exact⟨_,rfl,by rw [HF.out];exact HV.out.ext hb1,hb1.below hbase⟩
 ·obtain⟨pre0,m0,post0,hl0,hpre0,hm0⟩:∃ pre m post,l=pre++m :: post/\(∀ x ∈ pre,p x=false)/\p m=true:=by
   clear HI hsl hv
   induction l with
   | nil=>exact absurd (by simp) hall
   | cons a r ih =>
    cases ha:p a with
    | true=>exact⟨[],a,r,rfl,by simp,ha⟩
    | false=>obtain⟨pre,m,post,e1,e2,e3⟩:=ih (fun h=>hall (by simp [ha];exact fun a b hab=>h _ hab));exact⟨a :: pre,m,post,by rw [e1];rfl,by simp [ha];exact fun a b hab=>e2 _ hab,e3⟩
  have hi:=zpc (post:=post0) hpre0 hm0;rw [<- hl0] at hi;rw [hi] at HI;have hlen:pre0.length < l.length:=by rw [hl0];simp
  obtain⟨gb,cap,tail,rfl,hgb,hrow,hnc,hcm,hcl⟩:=hv.row (by omega);have HR:=zH hrow;have HCL:=zH hcl;have HL0:=zH hl0;have HP0:=zH hpre0;have HM0:=zH hm0;have HCw:=zH hC;have eg:=hp.enters;have HPr:=zH hp;have hq0:((pre0.length:Int) == -1)=false:=by rw [beq_eq_false_iff_ne];omega
  clear hi hrow hcl hl0 hpre0 hm0 hC hp hv hsl hall;go_enter Tryz.func94,Tryz.ntmps94;go_wp2_with fail;refine HI.out.mono ?_;rintro e w1 ⟨rfl,hb1⟩;go_wp2_with fail
  go_loopw [5,6] (fun i j wr=>∃ pre post kept junk:List Mark,l=pre++post/\j=I pre.length/\i=I kept.length/\kept=pre.filter (fun m=>!p m)/\kept.length+junk.length=pre.length/\0 < junk.length/\RowIs wr gb 97 ((kept++junk++post).flatMap zaj) tail/\Below base w wr) (fun _ j _=>l.length - (intOf j).toNat)
  case atStart =>
   refine ⟨pre0++[m0],post0,pre0,[m0],by rw [HL0.out];simp,by simp,rfl,?_,by simp,by simp,?_,hb1.below hbase⟩
   ·rw [List.filter_append,List.filter_eq_self.2 (fun m hm=>by simp [HP0.out m hm])];simp [HM0.out]
   ·have:=HR.out.ext hb1;rw [HL0.out] at this
    simpa using this
  case round =>
   obtain⟨pre,post,kept,junk,hl,rfl,rfl,hkept,hkj,hj0,hrow,hb⟩:=hrel
   cases post with
   | cons m post =>
    obtain⟨x,junk,rfl⟩:∃ x r,junk=x :: r:=by cases junk with | nil=>simp at hj0 | cons x r=>exact⟨x,r,rfl⟩
    have hlt:pre.length < l.length:=(by rw [hl];simp);have hm:=zgh (kept++x :: junk) post m;rw [List.length_append,hkj] at hm;have hd0:=hrow.cell hm.1;have hd1:=hrow.cell hm.2;have HD:=zH (HPr.out.does m (wr.alloc (.cells #[St m.1,U m.2] 97)) (HPr.out.keep _ _ HCw.out (Below.trans hb (((Ext.refl wr).alloc _).below (Nat.le_trans hbase hb.size)))));have HL:=zH hl;have HK:=zH hkept;have HKJ:=zH hkj;have HRow:=zH hrow;have hkl:kept.length < pre.length:=(by simp at hkj;omega);clear hl hkept hkj hrow hm hj0;cases hpm:p m
    all_goals
     rw [hpm] at HD;go_wp2_with fail;refine HD.out.mono ?_;rintro e w2 ⟨rfl,hb2⟩;have hb3:Below base w w2:=Below.trans hb ((((Ext.refl wr).alloc _).trans hb2).below (Nat.le_trans hbase hb.size));have hrow2:=(HRow.out.alloc (.cells #[St m.1,U m.2] 97)).ext hb2
    ·have hx:=zgh kept (junk++m :: post) x;have hrow3:RowIs w2 gb 97 ((kept++x :: (junk++m :: post)).flatMap zaj) tail:=(by simpa using hrow2);have hc0:=hrow3.cell hx.1;have hc1:=hrow3.cell hx.2;have hf0:=hrow3.frozen (kept.length * 2);have hf1:=hrow3.frozen (kept.length * 2+1);have hb0:w2.cell? ⟨wr.heap.size,0,none⟩=some (St m.1):=hb2.cell (by simp [go_sem]);have hb1':w2.cell? ⟨wr.heap.size,1,none⟩=some (U m.2):=hb2.cell (by simp [go_sem]);have HR3:=zH hrow3;clear hrow3 hrow2 hx;go_wp2;go_roundw
     case rel =>
      refine ⟨pre++[m],post,kept++[m],junk++[m],by rw [HL.out];simp,by simp,by simp,by rw [List.filter_append,<- HK.out];simp [hpm],?_,by simp,?_,?_⟩
      ·have:=HKJ.out;simp at this ⊢;omega
      ·have:=HR3.out.setMark m
       simpa using this
      ·exact (hb3.setCell (by simp;omega) _).setCell (by simp;omega) _
     case measure=>simp [intOf];omega
    ·go_wp2;go_roundw
     case rel=>refine ⟨pre++[m],post,kept,x :: junk++[m],by rw [HL.out];simp,by simp,rfl,by rw [List.filter_append,<- HK.out];simp [hpm],?_,by simp,by simpa using hrow2,hb3⟩;have:=HKJ.out;simp at this ⊢;omega
     case measure=>simp [intOf];omega
   | nil =>
    rw [List.append_nil] at hl;subst hl;have HK:=zH hkept;rw [List.append_nil] at hrow;have hkl:kept.length < l.length:=(by omega);have hz:kept.length+junk.length=l.length:=hkj;have hxl:((kept++junk).flatMap zaj).length=(kept.length+(l.length - kept.length)) * 2:=(by rw [zb4,List.length_append];omega);obtain⟨i,hi,hzero,-,-⟩:=info_parts zgp;obtain⟨zs,hzl,hcl⟩:=zig (P:=Tryz.prog) (t:=22) (o:=kept.length) (n:=l.length - kept.length) (c:=cap - kept.length) Tryz.underlying22 hi hzero (k:=2) rfl (by intro u hu;simp [Value.cells] at hu;rcases hu with rfl | rfl <;> rfl) hrow (by omega) hxl 0;rw [znu] at hcl;have HRow:=zH hrow;have HZ:=zH hzl;have hne:¬ cap=kept.length:=(by omega);clear hkept hkj hrow hz hxl hi hzero hzl;go_wp2_with fail;go_ret;rw [<- HK.out];have hW:=HRow.out.setRow (kept.flatMap zaj++zs);rw [List.append_assoc] at hW;refine ⟨_,rfl,hW.own hgb (by omega) hcm ?_ ?_ (zb4 _),?_⟩
    ·have h1:=HCL.out;have h2:=HZ.out;simp only [List.length_append,zb4] at h1 ⊢;omega
    ·rw [<- zb4 kept,List.take_left]
    ·exact zi7 hb hgb _
theorem ztv {S:Nat->Prop} {v:Value} {l:List Mark} {w:World} (hv:Sl markT w S v l) :
  Calls Tryz.prog 33 #[v] w fun e w'=>e=.returned (.bool (mayM l))/\Ext w w':=by
 have hv':=hv;obtain⟨A,c,rfl,h1,h2⟩:=hv.form
 by_cases h512:l.length<=512
 ·have HM:=zH (show mayM l=zd5 [] l by simp [mayM,h512]);have h5:¬ (l.length:Int) > 512:=by omega
  clear hv;go_enter Tryz.func33,Tryz.ntmps33;go_wp2
  go_loopw [3,11] (fun last i wr=>∃ pre post la,l=pre++post/\i=I pre.length/\last=St la/\zd5 [] l=zd5 la post/\Ext w wr) (fun _ i _=>l.length - (intOf i).toNat)
  case atStart=>exact⟨[],l,[],rfl,rfl,rfl,rfl,Ext.refl _⟩
  case round =>
   obtain⟨pre,post,la,hl,rfl,rfl,hm,hb⟩:=hrel
   cases post with
   | cons m post =>
    obtain⟨b,o,rfl,hd0,hd1⟩:=zf1 hv' hb hl;have hlt:pre.length < l.length:=(by rw [hl];simp);have HL:=zH hl;have HM2:=zH hm;clear hl hv' hm;rcases zfp m.1 la with ⟨q1,q2,q3,q4,q5⟩ | q | ⟨q1,q2,q3,q4,q5⟩
    ·go_wp2;go_ret;exact⟨by rw [HM.out,HM2.out];simp [zd5,leS,q1],hb.alloc _⟩
    ·subst q;go_wp2;go_ret;exact⟨by rw [HM.out,HM2.out];simp [zd5,leS],hb.alloc _⟩
    ·by_cases r1:m.2 < 1
     ·have r2:(m.2:Int) < 1:=(by omega);go_wp2;go_ret;exact⟨by rw [HM.out,HM2.out];simp [zd5,leS,q1,q3];omega,hb.alloc _⟩
     ·have r2:¬ (m.2:Int) < 1:=by omega
      by_cases r3:m.2<=281474976710656
      ·have r4:¬ (m.2:Int) > 281474976710656:=(by omega);go_wp2;go_roundw
       case rel=>exact⟨pre++[m],post,m.1,by rw [HL.out];simp,by simp,rfl,by rw [HM2.out];simp [zd5,leS,q1,q3];omega,hb.alloc _⟩
       case measure=>simp [intOf];omega
      ·have r4:(m.2:Int) > 281474976710656:=(by omega);go_wp2;go_ret;exact⟨by rw [HM.out,HM2.out];simp [zd5,leS,q1,q3];omega,hb.alloc _⟩
   | nil=>rw [List.append_nil] at hl;subst hl;have HM2:=zH hm;clear hm hv';go_wp2;go_ret;exact⟨by rw [HM.out,HM2.out];rfl,hb⟩
 ·have HM:=zH (show mayM l=false by simp [mayM,h512]);have h5:(l.length:Int) > 512:=by omega
  clear hv hv';go_enter Tryz.func33,Tryz.ntmps33;go_wp2;go_ret;exact⟨by rw [HM.out];rfl,Ext.refl _⟩
theorem ya2 (s:Str) (m:Mark) {b:Nat} {w:World} (hb:w.cell? ⟨b,0,none⟩=some (St s)) :
  Calls Tryz.prog 46 #[.agg #[St m.1,U m.2],.pointer (some ⟨b,0,none⟩)] w fun e w'=>e=.returned (.bool (m.1 == s && !s.isEmpty))/\Ext w w':=by
 have hlt:=zae hb
 by_cases h:m.1=s
 ·have h':(m.1 == s)=true:=by simpa using h
  go_enter Tryz.func46,Tryz.ntmps46;go_wp2;go_ret;exact⟨by simp [h],(Ext.refl _).alloc _⟩
 ·have h':(m.1 == s)=false:=by simpa using h
  go_enter Tryz.func46,Tryz.ntmps46;go_wp2;go_ret;exact⟨by simp [h'],(Ext.refl _).alloc _⟩
theorem yb5 (a b:Nat):U (if true=true then max a b else a)=Value.int IntKind.u64 (if a < b then (b:Int) else a):=by
 simp only [U,if_true]
 congr 1
 split <;> omega
theorem zy0 (l:List Mark) (m:Mark) (s:Str):ofM (l++[m]) s=if m.1 == s && !s.isEmpty then max (ofM l s) m.2 else ofM l s:=by simp [ofM]
theorem zy1 {S:Nat->Prop} {v:Value} {l:List Mark} {w:World} {s:Str} {bs:Nat} (hv:Sl markT w S v l) (hs:w.cell? ⟨bs,0,none⟩=some (St s)) :
  Calls Tryz.prog 45 #[v,.func (.func 46) #[] #[.pointer (some ⟨bs,0,none⟩)]] w fun e w'=>e=.returned (U (ofM l s))/\Ext w w':=by
 have hv':=hv;obtain⟨A,c,rfl,h1,h2⟩:=hv.form;have HS:=zH hs;clear hv hs;go_enter Tryz.func45,Tryz.ntmps45;go_wp2
 go_loopw [5,10] (fun n i wr=>∃ pre post,l=pre++post/\i=I pre.length/\n=U (ofM pre s)/\Ext w wr) (fun _ i _=>l.length - (intOf i).toNat)
 case atStart=>exact⟨[],l,rfl,rfl,rfl,Ext.refl _⟩
 case round =>
  obtain⟨pre,post,hl,rfl,rfl,hb⟩:=hrel
  cases post with
  | cons m post =>
   obtain⟨b,o,rfl,hd0,hd1⟩:=zf1 hv' hb hl;have hlt:pre.length < l.length:=(by rw [hl];simp);have HL:=zH hl;have HN:=zH (zy0 pre m s);have HC:=zH (ya2 s m (w:=wr.alloc (.cells #[St m.1,U m.2] 97)) ((hb.alloc _).cell HS.out));clear hl hv';go_wp2_with fail;refine HC.out.mono ?_;rintro e w1 ⟨rfl,hb1⟩;have hd2:w1.cell? ⟨wr.heap.size,1,none⟩=some (U m.2):=hb1.cell (by simp [go_sem]);cases hf:m.1 == s && !s.isEmpty
   ·go_wp2;go_roundw
    case rel=>exact⟨pre++[m],post,by rw [HL.out];simp,by simp,by rw [HN.out,hf];rfl,(hb.alloc _).trans hb1⟩
    case measure=>simp [intOf];omega
   ·go_wp2;go_roundw
    case rel=>exact⟨pre++[m],post,by rw [HL.out];simp,by simp,by rw [HN.out,hf];exact (yb5 _ _).symm,(hb.alloc _).trans hb1⟩
    case measure=>simp [intOf];omega
  | nil=>rw [List.append_nil] at hl;subst hl;clear hv';go_wp2;go_ret;exact⟨rfl,hb⟩
theorem ze1 {S:Nat->Prop} {v:Value} {l:List Mark} {w:World} (s:Str) (hv:Sl markT w S v l) :
  Calls Tryz.prog 14 #[v,St s] w fun e w'=>e=.returned (U (ofM l s))/\Ext w w':=by
 have HC:=zH (zy1 (s:=s) (bs:=w.heap.size) (hv.ext (by decide) ((Ext.refl w).alloc (.cells #[St s] 9))) (by simp [go_sem]));clear hv;go_enter Tryz.func14,Tryz.ntmps14;go_wp2_with fail;refine HC.out.mono ?_;rintro e w1 ⟨rfl,hb1⟩;go_wp2;go_ret;exact⟨rfl,((Ext.refl _).alloc _).trans hb1⟩
theorem zou {S:Nat->Prop} {v:Value} {l:List Mark} {w:World} (d:Mark) (hv:Sl markT w S v l) :
  Calls Tryz.prog 122 #[v,.agg #[St d.1,U d.2]] w fun e w'=>e=.returned (.bool (hasM l d))/\Ext w w':=by
 by_cases h:1<=d.2
 ·have hd:(d.2:Int) ≥ 1:=by omega
  have HC:=zH (fun (W:World) (hW:Ext w W)=>ze1 d.1 (hv.ext (by decide) hW));clear hv;go_enter Tryz.func122,Tryz.ntmps122;go_wp2_with fail
  go_region_held3 (fun W=>W.cell? ⟨w.heap.size,0,none⟩=some (St d.1)/\W.cell? ⟨w.heap.size,1,none⟩=some (U d.2)/\Ext w W) (first | exact⟨by simp [go_sem],by simp [go_sem],((Ext.refl _).alloc _).drew⟩ | exact⟨hb1.cell ‹_/\_/\Ext w _›.1,hb1.cell ‹_/\_/\Ext w _›.2.1,‹_/\_/\Ext w _›.2.2.trans hb1⟩) (first | (go_at_call 14;refine (HC.out _ ‹_/\_/\Ext w _›.2.2).mono ?_;rintro e w1 ⟨rfl,hb1⟩))
  go_wp2;go_ret;exact⟨by simp [hasM,h],‹_/\_/\Ext w _›.2.2⟩
 ·obtain⟨ds,dn⟩:=d;obtain rfl:dn=0:=by simp at h;exact h
  clear hv h;go_enter Tryz.func122,Tryz.ntmps122;go_wp2_with fail;go_quiet (fail);go_wp2;go_ret;exact⟨by simp [hasM],((Ext.refl _).alloc _).drewN _⟩
end
section
end
end Go.Proofs.YtaabaflgeljbjaaGreat
