/- Laws. -/
import Derived.Test.YtaabaflgeljbjaaGreatPr17
import Derived.Shelf.Abstract
import Derived.Test.YtaabaflgeljbjaaGreatPr01
import Derived.Test.YtaabaflgeljbjaaGreatPr12
set_option linter.unusedVariables false
set_option linter.unusedSimpArgs false
set_option maxRecDepth 100000
set_option maxHeartbeats 40000000
namespace Go.Proofs.YtaabaflgeljbjaaGreat
section
open Go.RowKit Go.Shelf
theorem Below.turned {base:Nat} {w w1 w2:World} {b:Nat} (h:Below base w w1) (t:Turned w1 w2 b) (hb:base<=b):Below base w w2 :=
 ⟨t.os.trans h.os,t.tape.trans h.tape,t.output.trans h.output,by rw [t.size];exact h.size,fun k hk=>(t.other k (by omega)).trans (h.block k hk)⟩
theorem zy8 {p q base:Nat} {ks ls:List zan} {w:World} (hp:SetOf zar w p ks) (hq:SetOf zar w q ls) (hne:p ≠ q) (hb:base<=p) (hbq:base<=w.heap.size) :
  Calls Tryz.prog 158 #[.map (some p),.map (some q)] w fun e w'=>∃ ls':List zan,e=.returned (.tuple #[])/\ls'.Perm ls/\SetOf zar w' p (ls'.foldl addK ks)/\Below base w w':=by
 obtain⟨W1,hr,hR,hx1,hsz⟩:=zcz (P:=Tryz.prog) Tryz.underlying217 hq;have HR:=zH hR;have HX:=zH hx1;have HP:=zH (hp.ext hx1);have hpw:=hp.lt;have hqw:=hq.lt;clear hR hx1 hp hq;go_enter Tryz.func158,Tryz.ntmps158;go_wp2_with fail
 go_loopw [8] (fun u wr=>∃ done rest,(done++rest.map Prod.fst).Perm ls/\RangeIs zar zeg wr q w.heap.size (ls.map fun k=>(k,())) rest/\SetOf zar wr p (done.foldl addK ks)/\Below base w wr) (fun _ wr=>wr.rangeLeft q w.heap.size)
 case atStart=>exact⟨[],_,by rw [ze3];exact .refl _,HR.out,HP.out,HX.out.below hbq⟩
 case round =>
  obtain⟨done,rest,hperm,hR,hS,hx⟩:=hrel;rcases zdh (P:=Tryz.prog) 0 hR with ⟨rfl,hrun⟩ | ⟨r1,k,r2,wn,rfl,hrun,hR2,ht,hent⟩
  ·have hnx:∀ ty,(Instr.next (.pointer (some ⟨w.heap.size,0,none⟩)) false ty).run Tryz.prog wr=.ok (.tuple #[.bool false]) wr:=fun ty=>hrun
   have HPM:=zH hperm;have HS:=zH hS;have HX2:=zH hx;clear hperm hR hrun hS hx;go_wp2_with fail
   go_end0
   exact⟨done,rfl,by have:=HPM.out;simp at this;exact this,HS.out,HX2.out⟩
  ·have hnx:∀ ty,(Instr.next (.pointer (some ⟨w.heap.size,0,none⟩)) false ty).run Tryz.prog wr=.ok (.tuple #[.bool true,zar k.1,zeg k.2]) wn:=fun ty=>hrun
   have hxn:=Below.turned hx ht hbq;have hSn:SetOf zar wn p (done.foldl addK ks):=hS.keep (ht.other _ (by omega));have hx1:=((Ext.refl wn).alloc (.cells #[St k.1.1,St k.1.2.1,U k.1.2.2] 220)).alloc (.cells #[] 141);obtain⟨w3,hup,hs4,ht4⟩:=zc9 (P:=Tryz.prog) Tryz.underlying217 zjd (hSn.ext hx1) k.1;have hw3:=hx.size;have hR4:RangeIs zar zeg w3 q w.heap.size (ls.map fun k=>(k,())) (r1++r2):=(hR2.ext hx1).keep (ht4.other q (fun e=>hne e.symm)) (ht4.other _ (by omega));have HB4:=zH (Below.turned (Below.trans hxn (hx1.below (by have:=hxn.size;omega))) ht4 hb);have HML:=zH hR.left_eq;have HR4:=zH hR4;have HS4:=zH hs4;have HPM:=zH hperm;clear hperm hR hrun hR2 hx ht hxn hSn hS hx1 hR4 hs4 ht4;go_wp2_with fail;go_roundw
   case rel=>exact⟨done++[k.1],r1++r2,by have h1:=HPM.out;simp only [List.map_append,List.map_cons] at h1 ⊢;rw [List.append_assoc];exact ((List.perm_middle (l₁:=r1.map Prod.fst) (a:=k.1) (l₂:=r2.map Prod.fst)).symm.append_left done).trans h1,HR4.out,by rw [List.foldl_append];exact HS4.out,HB4.out⟩
   case measure=>rw [HML.out,HR4.out.left_eq];simp
theorem zy9 (s:Str) (m:zan) {b:Nat} {w:World} (hb:w.cell? ⟨b,0,none⟩=some (St s)) :
  Calls Tryz.prog 224 #[zar m,.pointer (some ⟨b,0,none⟩)] w fun e w'=>e=.returned (.bool (m.1 != s))/\Ext w w':=by
 have hlt:=zae hb
 by_cases h:m.1=s
 ·have h':(m.1 == s)=true:=by simpa using h
  have h2:(m.1 != s)=false:=by simpa using h
  go_enter Tryz.func224,Tryz.ntmps224;go_wp2;go_ret;exact⟨by simp [h],(Ext.refl _).alloc _⟩
 ·have h':(m.1 == s)=false:=by simpa using h
  have h2:(m.1 != s)=true:=by simpa using h
  go_enter Tryz.func224,Tryz.ntmps224;go_wp2;go_ret;exact⟨by simp [h],(Ext.refl _).alloc _⟩
theorem zwv (s:Str) (m:zan) {b:Nat} {w:World} (hb:w.cell? ⟨b,0,none⟩=some (St s)) :
  Calls Tryz.prog 225 #[zar m,.pointer (some ⟨b,0,none⟩)] w fun e w'=>e=.returned (.bool (m.1 != s))/\Ext w w':=by
 have hlt:=zae hb
 by_cases h:m.1=s
 ·have h':(m.1 == s)=true:=by simpa using h
  have h2:(m.1 != s)=false:=by simpa using h
  go_enter Tryz.func225,Tryz.ntmps225;go_wp2;go_ret;exact⟨by simp [h],(Ext.refl _).alloc _⟩
 ·have h':(m.1 == s)=false:=by simpa using h
  have h2:(m.1 != s)=true:=by simpa using h
  go_enter Tryz.func225,Tryz.ntmps225;go_wp2;go_ret;exact⟨by simp [h],(Ext.refl _).alloc _⟩
theorem zww (s:Str) (b base:Nat) (hb:b < base):PredK zar Tryz.prog 224 #[.pointer (some ⟨b,0,none⟩)] base (fun W=>W.cell? ⟨b,0,none⟩=some (St s)) (fun m=>m.1 != s) where
 enters:=enters_of Tryz.func224 (by kernel_rfl) rfl
 keep W W' h hB:=(Below.cell hB (p:=⟨b,0,none⟩) hb).trans h
 does m W h:=zy9 s m h
theorem zuc (s:Str) (b base:Nat) (hb:b < base):PredK zar Tryz.prog 225 #[.pointer (some ⟨b,0,none⟩)] base (fun W=>W.cell? ⟨b,0,none⟩=some (St s)) (fun m=>m.1 != s) where
 enters:=enters_of Tryz.func225 (by kernel_rfl) rfl
 keep W W' h hB:=(Below.cell hB (p:=⟨b,0,none⟩) hb).trans h
 does m W h:=zwv s m h
end
section
open Go.RowKit
section
variable {w w' W W':World} {base:Nat} {v dv v' dv':Value} {its:List Item} {last:Item}
theorem Own.slOwn {tid:Nat} {ds:List Dot} (h:Own w base tid 2 dv ds.length (ds.flatMap zaj)):Sl markT w (zad dv) dv ds:=by
 have h2:=zbb h;rcases h.2 with ⟨A,rfl,h0⟩ | ⟨g,cap,cur,rfl,-,-,hc,hm,-⟩
 ·obtain rfl:ds = []:=List.eq_nil_of_length_eq_zero h0;exact Sl.nil _ _ (by omega)
 ·obtain⟨A,c,hv,h1,h3,h4⟩:=h2;cases hv;refine ⟨_,_,rfl,h1,h3,fun pre x post hl=>?_⟩;obtain⟨b,o,vs,e,-,hr,hcell⟩:=h4 pre x post hl;cases e;exact⟨g,0,vs,rfl,⟨g,ds.length,cap,rfl,by rw [hl] at hc;simp at hc;omega,rfl⟩,hr,hcell⟩
def ItemsAt (W:World) (base:Nat) (v:Value) (its:List Item) (last:Item):Prop :=
 ∃ (S:Nat->Prop) (vss:List (List Value)) (dv:Value),(∀ b,S b->base<=b/\b < W.heap.size)/\vss.length=its.length/\(∀ (i:Nat) x vs,its[i]? = some x->vss[i]? = some vs->itemT.rd W S x vs) /\
  Own W base 57 2 v (its.length+1) (vss.flatten++[St last.1,dv])/\Own W base 59 2 dv last.2.length (last.2.flatMap zaj) /\
  (∀ b,zad v b->¬ S b/\¬ zad dv b)/\(∀ b,zad dv b->¬ S b)
theorem ItemsAt.ext (h:ItemsAt W base v its last) (he:Ext W W'):ItemsAt W' base v its last:=by
 obtain⟨S,vss,dv,h1,h2,h3,h4,h5,h6,h7⟩:=h;exact⟨S,vss,dv,fun b hb=>⟨(h1 b hb).1,Nat.lt_of_lt_of_le (h1 b hb).2 he.size⟩,h2,fun i x vs hx hv=>itemT.keep (h3 i x vs hx hv) (fun b _ hb=>he.block b hb),h4.ext he,h5.ext he,h6,h7⟩
theorem zh7 {its:List Item} {S:Nat->Prop} {vss:List (List Value)} (h2:vss.length=its.length) (h3:∀ (i:Nat) x vs,its[i]? = some x->vss[i]? = some vs->itemT.rd W S x vs):vss.flatten.length=its.length * 2:=by
 induction its generalizing vss with
 | nil=>simp at h2;subst h2;rfl
 | cons a r ih =>
  cases vss with
  | nil=>simp at h2
  | cons b s=>have hb:b.length=2:=itemT.len (h3 0 a b rfl rfl);have:=ih (vss:=s) (by simpa using h2) (fun i x vs hx hv=>h3 (i+1) x vs hx hv);simp [this,hb];omega
theorem ItemsAt.tells (h:ItemsAt W base v its last):∃ g cap dv,v=.slice (some ⟨g,0,none⟩) (its.length+1) cap/\its.length+1<=cap/\cap<=9223372036854775807/\base<=g/\W.cell? ⟨g,its.length * 2,none⟩=some (St last.1)/\W.cell? ⟨g,its.length * 2+1,none⟩=some dv /\
  W.frozen? ⟨g,its.length * 2+1,none⟩=false/\Own W base 59 2 dv last.2.length (last.2.flatMap zaj)/\(∀ b,zad dv b->b ≠ g):=by
 obtain⟨S,vss,dv,h1,h2,h3,h4,h5,h6,h7⟩:=h;have hf:=zh7 h2 h3;obtain⟨g,cap,tail,rfl,hg,hrow,hc,hm,hl⟩:=h4.row (by omega);have e0:(vss.flatten++[St last.1,dv])[its.length * 2]? = some (St last.1):=by rw [<- hf,List.getElem?_append_right (Nat.le_refl _)];simp
 have e1:(vss.flatten++[St last.1,dv])[its.length * 2+1]? = some dv:=by rw [<- hf,List.getElem?_append_right (by omega)];simp
 exact⟨g,cap,dv,rfl,hc,hm,hg,hrow.cell e0,hrow.cell e1,hrow.frozen _,h5,fun b hb e=>(h6 g ⟨g,_,cap,rfl,by omega,rfl⟩).2 (e ▸ hb)⟩
theorem ItemsAt.more (h:ItemsAt W base v its last) (t:Str) (hown:∀ vss dv,Own W base 57 2 v (its.length+1) (vss++[St last.1,dv])->Own W' base 57 2 v' (its.length+1+1) (vss++[St last.1,dv]++[St t,.slice none 0 0])) (hg:Grew W W' v v') :
  ItemsAt W' base v' (its++[last]) (t,[]):=by
 obtain⟨S,vss,dv,h1,h2,h3,h4,h5,h6,h7⟩:=h;have hdb:∀ b,zad dv b->base<=b/\b < W.heap.size:=fun b hb=>h5.base_le hb
 have hk:∀ b,S b ∨ zad dv b->b < W.heap.size->W'.heap[b]? = W.heap[b]?:=fun b hb hl=>hg.same b hl fun ho=>by
  rcases hb with hb | hb
  ·exact (h6 b ho).1 hb
  ·exact (h6 b ho).2 hb
 refine ⟨fun b=>S b ∨ zad dv b,vss++[[St last.1,dv]],.slice none 0 0,fun b hb=>?_,by simp [h2],fun i x vs hx hv=>?_,by simpa using hown _ _ h4,Own.nil _ _ _ _ _,fun b hb=>?_,fun b hb=>?_⟩
 ·rcases hb with hb | hb
  ·exact⟨(h1 b hb).1,Nat.lt_of_lt_of_le (h1 b hb).2 hg.size⟩
  ·exact⟨(hdb b hb).1,Nat.lt_of_lt_of_le (hdb b hb).2 hg.size⟩
 ·by_cases hil:i < its.length
  ·rw [List.getElem?_append_left hil] at hx;rw [List.getElem?_append_left (by omega)] at hv;exact itemT.keep (itemT.mono (h3 i x vs hx hv) (fun b _ hb=>.inl hb)) hk
  ·rw [List.getElem?_append_right (by omega)] at hx;rw [List.getElem?_append_right (by omega)] at hv
   have hi0:i - its.length=0:=by have:=(List.getElem?_eq_some_iff.1 hx).1;simp at this;exact this
   rw [hi0] at hx;rw [h2,hi0] at hv;simp at hx hv;subst hx;subst hv;exact itemT.keep (w:=W) ⟨dv,rfl,h5.slOwn.mono (by decide) (fun b _ hb=>.inr hb)⟩ hk
 ·refine ⟨fun hS=>?_,fun ⟨g,n,c,e,_,_⟩=>by cases e⟩;rcases hg.blk b hb with ho | ho
  ·rcases hS with hS | hS
   ·exact (h6 b ho).1 hS
   ·exact (h6 b ho).2 hS
  ·rcases hS with hS | hS
   ·have:=(h1 b hS).2;omega
   ·have:=(hdb b hS).2;omega
 ·obtain⟨g,n,c,e,_,_⟩:=hb;cases e
theorem ItemsAt.row (h:ItemsAt W base v its last):∃ xs,Own W base 57 2 v (its.length+1) xs/\∀ (W':World) (v':Value) (t:Str),Own W' base 57 2 v' (its.length+1+1) (xs++[St t,.slice none 0 0])->Grew W W' v v'->ItemsAt W' base v' (its++[last]) (t,[]):=by
 have h':=h;obtain⟨S,vss,dv,h1,h2,h3,h4,h5,h6,h7⟩:=h;refine ⟨_,h4,fun W' v' t ho hg=>?_⟩;refine h'.more t (fun vss2 dv2 h42=>?_) hg
 have e:vss2++[St last.1,dv2]=vss.flatten++[St last.1,dv]:=by obtain⟨g,cap,cur,rfl,-,-,hc,-,-,-,ht⟩:=h4.pos (by omega);obtain⟨g2,cap2,cur2,e,-,-,hc2,-,-,-,ht2⟩:=h42.pos (by omega);cases e;rw [hc] at hc2;cases hc2;exact ht2.symm.trans ht
 rw [e];exact ho
theorem ItemsAt.first (t:Str) (h:Own W base 57 2 v 1 [St t,.slice none 0 0]):ItemsAt W base v [] (t,[]) :=
 ⟨fun _=>False,[],.slice none 0 0,fun b hb=>hb.elim,rfl,by simp,by simpa using h,Own.nil _ _ _ _ _,fun b hb=>⟨fun h=>h.elim,fun ⟨g,n,c,e,_,_⟩=>by cases e⟩,fun b ⟨g,n,c,e,_,_⟩=>by cases e⟩
theorem Own.setLast {T n g cap:Nat} {xs:List Value} {a b b':Value} (hx:xs.length=n * 2) (h:Own W base T 2 (.slice (some ⟨g,0,none⟩) (n+1) cap) (n+1) (xs++[a,b])):Own (W.setCell ⟨g,n * 2+1,none⟩ b') base T 2 (.slice (some ⟨g,0,none⟩) (n+1) cap) (n+1) (xs++[a,b']):=by
 obtain⟨g',cap',tail,e,hg,hrow,hc,hm,hl⟩:=h.row (by omega);cases e;have h1:=hrow.set (j:=n * 2+1) (by simp [hx]) b';have e1:(xs++[a,b]).set (n * 2+1) b'=xs++[a,b']:=by rw [<- hx,List.set_append_right _ _ (by omega)];simp
 rw [e1] at h1;exact h1.own hg hc hm (by simp at hl ⊢;omega) (List.take_of_length_le (by simp [hx];omega)) (by simp [hx];omega)
theorem ItemsAt.dot {t:Str} {ds:List Dot} {d:Dot} {g cap:Nat} (h:ItemsAt W base (.slice (some ⟨g,0,none⟩) (its.length+1) cap) its (t,ds)) (hc:W.cell? ⟨g,its.length * 2+1,none⟩=some dv) (hg:Grew W W' dv dv') (hown:Own W' base 59 2 dv' (ds.length+1) (ds.flatMap zaj++[St d.1,U d.2])) :
  ItemsAt (W'.setCell ⟨g,its.length * 2+1,none⟩ dv') base (.slice (some ⟨g,0,none⟩) (its.length+1) cap) its (t,ds++[d]):=by
 obtain⟨S,vss,dv0,h1,h2,h3,h4,h5,h6,h7⟩:=h;have hf:=zh7 h2 h3;have e1:(vss.flatten++[St t,dv0])[its.length * 2+1]? = some dv0:=by rw [<- hf,List.getElem?_append_right (by omega)];simp
 have:=h4.cell (g:=g) rfl e1;rw [hc] at this;obtain rfl:dv=dv0:=Option.some.inj this;obtain⟨g',cap',cur,e,hbg,hglt,-,hcap,-⟩:=h4.pos (by omega);cases e;have hog:zad (.slice (some ⟨g,0,none⟩) (its.length+1) cap) g:=⟨g,_,_,rfl,by omega,rfl⟩
 have hne:∀ b,zad dv' b->b ≠ g:=fun b hb e=>by
  rcases hg.blk b hb with ho | ho
  ·exact (h6 g hog).2 (e ▸ ho)
  ·omega
 have hSg:∀ b,S b->b ≠ g:=fun b hb e=>(h6 g hog).1 (e ▸ hb)
 refine ⟨S,vss,dv',fun b hb=>⟨(h1 b hb).1,Nat.lt_of_lt_of_le (h1 b hb).2 (by simpa using hg.size)⟩,h2,fun i x vs hx hv=>?_,?_,?_,fun b hb=>?_,fun b hb hS=>?_⟩
 ·refine itemT.keep (h3 i x vs hx hv) fun b hb hl=>?_
  rw [Below.heap_setCell _ _ _ _ (hSg b hb)];exact hg.same b hl fun ho=>h7 b ho hb
 ·exact Own.setLast hf (h4.keep fun b hb hl=>hg.same b hl fun ho=>(h6 b hb).2 ho)
 ·have:Own W' base 59 2 dv' (ds++[d]).length ((ds++[d]).flatMap zaj):=by simpa [zaj] using hown
  exact this.keep fun b hb _=>Below.heap_setCell _ _ _ _ (hne b hb)
 ·obtain⟨g2,n2,c2,e,-,rfl⟩:=hb;cases e;exact⟨(h6 g hog).1,fun ho=>hne _ ho rfl⟩
 ·rcases hg.blk b hb with ho | ho
  ·exact h7 b ho hS
  ·have:=(h1 b hS).2;omega
theorem ItemsAt.dotN {t:Str} {ds:List Dot} {d:Dot} {g cap n:Nat} (hn:its.length=n) (h:ItemsAt W base (.slice (some ⟨g,0,none⟩) (n+1) cap) its (t,ds)) (hc:W.cell? ⟨g,n * 2+1,none⟩=some dv) (hg:Grew W W' dv dv') (hown:Own W' base 59 2 dv' (ds.length+1) (ds.flatMap zaj++[St d.1,U d.2])) :
  ItemsAt (W'.setCell ⟨g,n * 2+1,none⟩ dv') base (.slice (some ⟨g,0,none⟩) (n+1) cap) its (t,ds++[d]):=by
 subst hn;exact h.dot hc hg hown
theorem ItemsAt.done (h:ItemsAt W base v its last):OwnL itemT 57 W base (fun b=>base<=b) v (its++[last]):=by
 obtain⟨S,vss,dv,h1,h2,h3,h4,h5,h6,h7⟩:=h;refine OwnL.snoc (vss:=vss) h2 (fun i x vs hx hv=>itemT.mono (h3 i x vs hx hv) (fun b _ hb=>(h1 b hb).1)) ?_ h4;exact⟨dv,rfl,zbb h5⟩
end
end
end Go.Proofs.YtaabaflgeljbjaaGreat
