/- Contracts and plain laws. -/
import Derived.Test.YtdikcgmdmcfpfaaGreatJo37
import Derived.Test.YtdikcgmdmcfpfaaGreatJo41
import Derived.Test.YtdikcgmdmcfpfaaGreatJo39
import Derived.Test.YtdikcgmdmcfpfaaGreatJo43
import Derived.Test.YtdikcgmdmcfpfaaGreatJo02
import Derived.Test.YtdikcgmdmcfpfaaGreatJo18
import Derived.Test.YtdikcgmdmcfpfaaGreatJo25
import Derived.Test.YtdikcgmdmcfpfaaGreatJo32
set_option linter.unusedVariables false
set_option linter.unusedSimpArgs false
set_option maxRecDepth 100000
set_option maxHeartbeats 40000000
namespace Go.Proofs.YtdikcgmdmcfpfaaGreat
section
theorem zxa {l:List Entry} (hR:RiseS (l.map (·.key))) {a b:Entry} (ha:a ∈ l) (hb:b ∈ l) (e:a.key=b.key):a=b:=by
 unfold RiseS at hR;rw [List.pairwise_map] at hR
 induction l with
 | nil=>cases ha
 | cons x r ih =>
  obtain⟨h1,h2⟩:=List.pairwise_cons.1 hR;rcases List.mem_cons.1 ha with e1 | ha'
  ·rcases List.mem_cons.1 hb with e2 | hb'
   ·rw [e1,e2]
   ·rw [e1] at e;exact absurd e (zb0 (h1 b hb'))
  ·rcases List.mem_cons.1 hb with e2 | hb'
   ·rw [e2] at e;exact absurd e.symm (zb0 (h1 a ha'))
   ·exact ih h2 ha' hb'
theorem zrf {l:List Entry} (hR:RiseS (l.map (·.key))) {x:Entry} (hx:x ∈ l):zau l x.key=some x:=by
 cases h:zau l x.key with
 | none=>unfold zau at h;have:=List.find?_eq_none.1 h x hx;simp at this
 | some y=>rw [zxa hR (zez h) hx (zip h)]
end
section
def zch (all:List Mark) (ps:List Str) (base:List Mark):Bool:=base.any fun m=>decide (ofM all m.1 < m.2) && !decide (m.1 ∈ ps)
theorem zkb {all base:List Mark} {P:Mark->Bool} (hb:GoodM base):za3 all (base.filter P)=true↔∀ m ∈ base,P m=true->m.2<=ofM all m.1:=by
 have hg:GoodM (base.filter P):=⟨hb.1.filter _,fun m hm=>hb.2 m (List.mem_filter.1 hm).1⟩
 rw [zgu]
 constructor
 ·intro h m hm hp;have hm':=List.mem_filter.2 ⟨hm,hp⟩;have:=h m.1
  rwa [hg.1.of hm' (hb.2 m hm).1] at this
 ·intro h s;refine ofM_le.2 fun m hm e _=>?_
  subst e;obtain⟨h1,h2⟩:=List.mem_filter.1 hm;exact h m h1 h2
theorem zsr {s d:State} {base:List Mark} (hb:GoodM base):zc2 s base d=if zch s.all (s.pruned++d.pruned) base then (zba,160) else (zet s d,0):=by
 unfold zc2
 cases h:zch s.all (s.pruned++d.pruned) base with
 | true=>obtain⟨m,hm,h1⟩:=List.any_eq_true.1 h;simp only [Bool.and_eq_true,decide_eq_true_eq,Bool.not_eq_true',decide_eq_false_iff_not] at h1;rw [if_neg,if_pos rfl];intro hc;have:=(zkb hb).1 hc m hm (by unfold zbd;simp only [zgp,Bool.not_eq_true',decide_eq_false_iff_not];exact h1.2);omega
 | false =>
  rw [if_pos,if_neg (by simp)];refine (zkb hb).2 fun m hm hp=>?_
  have h1:=List.any_eq_false.1 h m hm;unfold zbd at hp;simp only [zgp,Bool.not_eq_true',decide_eq_false_iff_not] at hp;simp only [Bool.and_eq_true,decide_eq_true_eq,Bool.not_eq_true',decide_eq_false_iff_not,not_and,Classical.not_not] at h1;exact Nat.le_of_not_lt fun hlt=>hp (h1 hlt)
end
section
open Go.RowKit
theorem zss (a b:List Str) (ha:RiseS a) (hb:RiseS b):RiseS (zb2 a b)/\∀ k,k ∈ zb2 a b↔k ∈ a ∨ k ∈ b:=by
 unfold RiseS at *
 fun_induction zb2 a b with
 | case1=>exact⟨.nil,by simp⟩
 | case2 a r ih=>obtain⟨h1,h2⟩:=List.pairwise_cons.1 ha;obtain⟨i1,i2⟩:=ih h2 hb;exact⟨List.pairwise_cons.2 ⟨fun x hx=>(by rcases (i2 x).1 hx with h | h;exact h1 x h;cases h),i1⟩,fun k=>by rw [List.mem_cons,i2];simp⟩
 | case3 b s ih=>obtain⟨h1,h2⟩:=List.pairwise_cons.1 hb;obtain⟨i1,i2⟩:=ih ha h2;exact⟨List.pairwise_cons.2 ⟨fun x hx=>(by rcases (i2 x).1 hx with h | h;cases h;exact h1 x h),i1⟩,fun k=>by rw [List.mem_cons,i2];simp⟩
 | case4 a r b s he ih =>
  have he:a=b:=by simpa using he
  subst he;obtain⟨h1,h2⟩:=List.pairwise_cons.1 ha;obtain⟨h3,h4⟩:=List.pairwise_cons.1 hb;obtain⟨i1,i2⟩:=ih h2 h4;refine ⟨List.pairwise_cons.2 ⟨fun x hx=>(by rcases (i2 x).1 hx with h | h;exact h1 x h;exact h3 x h),i1⟩,fun k=>?_⟩;rw [List.mem_cons,i2,List.mem_cons,List.mem_cons]
  constructor
  ·rintro (h | h | h)
   ·exact .inl (.inl h)
   ·exact .inl (.inr h)
   ·exact .inr (.inr h)
  ·rintro ((h | h) | h | h)
   ·exact .inl h
   ·exact .inr (.inl h)
   ·exact .inl h
   ·exact .inr (.inr h)
 | case5 a r b s he hl ih =>
  obtain⟨h1,h2⟩:=List.pairwise_cons.1 ha;obtain⟨h3,h4⟩:=List.pairwise_cons.1 hb;obtain⟨i1,i2⟩:=ih h2 hb;refine ⟨List.pairwise_cons.2 ⟨fun x hx=>?_,i1⟩,fun k=>?_⟩
  ·rcases (i2 x).1 hx with h | h
   ·exact h1 x h
   ·rcases List.mem_cons.1 h with rfl | h
    ·exact hl
    ·exact zap hl (h3 x h)
  ·rw [List.mem_cons,i2,List.mem_cons (a:=k) (b:=a)];exact or_assoc.symm
 | case6 a r b s he hl ih =>
  have hba:ltS b a=true:=by
   rcases zb6 a b with h | h | h
   ·exact absurd h hl
   ·subst h;simp at he
   ·exact h
  obtain⟨h1,h2⟩:=List.pairwise_cons.1 ha;obtain⟨h3,h4⟩:=List.pairwise_cons.1 hb;obtain⟨i1,i2⟩:=ih ha h4;refine ⟨List.pairwise_cons.2 ⟨fun x hx=>?_,i1⟩,fun k=>?_⟩
  ·rcases (i2 x).1 hx with h | h
   ·rcases List.mem_cons.1 h with rfl | h
    ·exact hba
    ·exact zap hba (h1 x h)
   ·exact h3 x h
  ·rw [List.mem_cons,i2,List.mem_cons (a:=k) (b:=b)]
   constructor
   ·rintro (h | h | h)
    ·exact .inr (.inl h)
    ·exact .inl h
    ·exact .inr (.inr h)
   ·rintro (h | h | h)
    ·exact .inr (.inl h)
    ·exact .inl h
    ·exact .inr (.inr h)
end
section
def zcs (e:Entry):Bool->List Entry->List Entry
 | d,[]=>if d then [] else [e]
 | d,x :: r=>if x.key=e.key then zcs e d r else if d=false/\ltS e.key x.key=true then e :: x :: zcs e true r else x :: zcs e d r
theorem zgi (e x:Entry) (d:Bool) (r:List Entry):zcs e d (x :: r)=if x.key=e.key then zcs e d r else if d=false/\ltS e.key x.key=true then e :: x :: zcs e true r else x :: zcs e d r:=rfl
theorem zpm (e:Entry):∀ (l:List Entry) (d:Bool),(zcs e d l).length<=l.length+1
 | [],d=>by cases d <;> simp [zcs]
 | x :: r,d=>by
  have h2:=zpm e r d
  have h3:∀ r:List Entry,(zcs e true r).length<=r.length:=by
   intro r
   induction r with
   | nil=>simp [zcs]
   | cons x r ih=>rw [zgi];split;simp;omega;rw [if_neg (by simp)];simpa using ih
  have h4:=h3 r;rw [zgi]
  repeat' split
  all_goals (simp;try omega)
theorem ze6 (e x:Entry):∀ (l:List Entry) (d:Bool),x ∈ zcs e d l↔(d=false/\x=e) ∨ (x ∈ l/\x.key ≠ e.key)
 | [],d=>by cases d <;> simp [zcs]
 | y :: r,d=>by
  rw [zgi]
  by_cases h:y.key=e.key
  ·rw [if_pos h,ze6 e x r d];simp only [List.mem_cons]
   constructor
   ·rintro (h1 | ⟨h1,h2⟩)
    ·exact .inl h1
    ·exact .inr ⟨.inr h1,h2⟩
   ·rintro (h1 | ⟨rfl | h1,h2⟩)
    ·exact .inl h1
    ·exact absurd h h2
    ·exact .inr ⟨h1,h2⟩
  ·rw [if_neg h]
   by_cases h2:d=false/\ltS e.key y.key=true
   ·rw [if_pos h2,List.mem_cons,List.mem_cons,ze6 e x r true];simp only [List.mem_cons,h2.1,true_and,Bool.true_eq_false,false_and,false_or]
    constructor
    ·rintro (h1 | h1 | ⟨h1,h3⟩)
     ·exact .inl h1
     ·exact .inr ⟨.inl h1,by rw [h1];exact h⟩
     ·exact .inr ⟨.inr h1,h3⟩
    ·rintro (h1 | ⟨h1 | h1,h3⟩)
     ·exact .inl h1
     ·exact .inr (.inl h1)
     ·exact .inr (.inr ⟨h1,h3⟩)
   ·rw [if_neg h2,List.mem_cons,ze6 e x r d];simp only [List.mem_cons]
    constructor
    ·rintro (h1 | h1 | ⟨h1,h3⟩)
     ·exact .inr ⟨.inl h1,by rw [h1];exact h⟩
     ·exact .inl h1
     ·exact .inr ⟨.inr h1,h3⟩
    ·rintro (h1 | ⟨h1 | h1,h3⟩)
     ·exact .inr (.inl h1)
     ·exact .inl h1
     ·exact .inr (.inr ⟨h1,h3⟩)
def RiseE (l:List Entry):Prop:=l.Pairwise fun a b=>ltS a.key b.key=true
theorem riseE_iff {l:List Entry}:RiseE l↔RiseS (l.map (·.key)):=by unfold RiseE RiseS;rw [List.pairwise_map]
theorem zhm (e:Entry):∀ (l:List Entry) (d:Bool),RiseE l->RiseE (zcs e d l)
 | [],d,_=>by cases d <;> simp [zcs,RiseE]
 | y :: r,d,h=>by
  obtain⟨h1,h2⟩:=List.pairwise_cons.1 h;rw [zgi]
  by_cases he:y.key=e.key
  ·rw [if_pos he];exact zhm e r d h2
  ·rw [if_neg he]
   by_cases hd:d=false/\ltS e.key y.key=true
   ·rw [if_pos hd];refine List.pairwise_cons.2 ⟨fun x hx=>?_,List.pairwise_cons.2 ⟨fun x hx=>?_,zhm e r true h2⟩⟩
    ·rcases List.mem_cons.1 hx with rfl | hx
     ·exact hd.2
     ·rcases (ze6 e x r true).1 hx with ⟨h3,-⟩ | ⟨h3,-⟩
      ·cases h3
      ·exact zap hd.2 (h1 x h3)
    ·rcases (ze6 e x r true).1 hx with ⟨h3,-⟩ | ⟨h3,-⟩
     ·cases h3
     ·exact h1 x h3
   ·rw [if_neg hd];refine List.pairwise_cons.2 ⟨fun x hx=>?_,zhm e r d h2⟩;rcases (ze6 e x r d).1 hx with ⟨h3,rfl⟩ | ⟨h3,-⟩
    ·rcases zb6 y.key x.key with k | k | k
     ·exact k
     ·exact absurd k he
     ·exact absurd ⟨h3,k⟩ hd
    ·exact h1 x h3
theorem RiseE.mem_iff {l:List Entry} (h:RiseE l) {x:Entry}:x ∈ l↔zau l x.key=some x:=⟨zrf (riseE_iff.1 h),zez⟩
theorem RiseE.ext {a b:List Entry} (ha:RiseE a) (hb:RiseE b) (h:∀ x,x ∈ a↔x ∈ b):a=b:=by
 unfold RiseE at ha hb;have nd:∀ {l:List Entry},l.Pairwise (fun a b=>ltS a.key b.key=true)->l.Nodup:=fun hl=>hl.imp fun {a b} hab e=>by subst e;rw [zal] at hab;cases hab
 exact List.Perm.eq_of_pairwise (le:=fun a b=>ltS a.key b.key=true) (fun x y _ _ h1 h2=>by rw [zbm h1] at h2;cases h2) ha hb (zd2 (nd ha) (nd hb) h)
def zdc (a b:List Entry):List Entry:=b.foldl (fun o e=>zcs (zav (getE a e.key) e) false o) a
theorem zgz (a b:List Entry) (e:Entry):zdc a (b++[e])=zcs (zav (getE a e.key) e) false (zdc a b):=by simp [zdc,List.foldl_append]
theorem zuq (a:List Entry):∀ b:List Entry,(zdc a b).length<=a.length+b.length:=by
 intro b
 induction b using ze3 with
 | h0=>simp [zdc]
 | h1 b e ih=>rw [zgz];have:=zpm (zav (getE a e.key) e) (zdc a b) false;simp only [List.length_append,List.length_cons,List.length_nil];omega
theorem zoh {l:List Entry} {k:Str} (h:∀ x ∈ l,x.key ≠ k):getE l k=zai:=by
 unfold getE
 cases hf:zau l k with
 | none=>rfl
 | some y=>exact absurd (zip hf) (h y (zez hf))
theorem zgr {l:List Entry} (h:RiseE l) {x:Entry} (hx:x ∈ l):getE l x.key=x:=by unfold getE;rw [h.mem_iff.1 hx];rfl
theorem zia {a:Entry} (h:a.key ≠ []):zav a zai=a:=by
 unfold zav;rw [if_neg (fun e=>h (by rw [sameE_iff.1 e];rfl)),if_neg (fun e=>h (by rw [e];rfl))]
theorem zmk {a b:Entry} (h:a=zai ∨ a.key=b.key):(zav a b).key=b.key:=by
 unfold zav
 split
 ·rfl
 ·rcases h with rfl | h
  ·rename_i h1;exact absurd (sameE_iff.2 rfl) h1
  ·rw [if_pos h];exact h
theorem zoi (l:List Entry) (k:Str):getE l k=zai ∨ (getE l k ∈ l/\(getE l k).key=k):=by
 unfold getE
 cases hf:zau l k with
 | none=>exact .inl rfl
 | some y=>exact .inr ⟨zez hf,zip hf⟩
theorem zur {a:List Entry}:∀ b:List Entry,RiseE b->∀ x,x ∈ zdc a b↔(∃ e ∈ b,x=zav (getE a e.key) e) ∨ (x ∈ a/\∀ e ∈ b,e.key ≠ x.key):=by
 intro b
 induction b using ze3 with
 | h0=>intro _ x;simp [zdc]
 | h1 b e ih =>
  intro hb x;obtain⟨hb1,-,hb2⟩:=List.pairwise_append.1 hb;have hne:∀ y ∈ b,y.key ≠ e.key:=fun y hy=>zb0 (hb2 y hy e (by simp))
  have hk:∀ y:Entry,(zav (getE a y.key) y).key=y.key:=fun y=>zmk ((zoi a y.key).imp id fun h=>h.2)
  rw [zgz,ze6,ih hb1,hk e]
  constructor
  ·rintro (⟨-,rfl⟩ | ⟨⟨y,hy,rfl⟩ | ⟨h1,h2⟩,h3⟩)
   ·exact .inl ⟨e,by simp,rfl⟩
   ·exact .inl ⟨y,by simp [hy],rfl⟩
   ·exact .inr ⟨h1,fun y hy=>by
     rcases List.mem_append.1 hy with hy | hy
     ·exact h2 y hy
     ·rw [List.mem_singleton.1 hy];exact fun e=>h3 e.symm⟩
  ·rintro (⟨y,hy,rfl⟩ | ⟨h1,h2⟩)
   ·rcases List.mem_append.1 hy with hy | hy
    ·exact .inr ⟨.inl ⟨y,hy,rfl⟩,by rw [hk];exact hne y hy⟩
    ·rw [List.mem_singleton.1 hy];exact .inl ⟨rfl,rfl⟩
   ·exact .inr ⟨.inr ⟨h1,fun y hy=>h2 y (by simp [hy])⟩,fun e'=>h2 e (by simp) e'.symm⟩
theorem zst {a:List Entry} (ha:RiseE a):∀ b:List Entry,RiseE (zdc a b):=by
 intro b
 induction b using ze3 with
 | h0=>exact ha
 | h1 b e ih=>rw [zgz];exact zhm _ _ _ ih
theorem zxb {a b:List Entry} (ha:RiseE a) (hb:RiseE b) (na:∀ e ∈ a,e.key ≠ []):zdc a b=zgc a b:=by
 obtain⟨g1,g2⟩:=zss _ _ (riseE_iff.1 ha) (riseE_iff.1 hb)
 have hk:∀ k ∈ zbv a b,(zav (getE a k) (getE b k)).key=k:=by
  intro k hk
  by_cases hB:∃ y ∈ b,y.key=k
  ·obtain⟨y,hy,rfl⟩:=hB;rw [zgr hb hy];exact zmk ((zoi a y.key).imp id fun h=>h.2)
  ·rcases (g2 k).1 hk with h | h
   ·obtain⟨y,hy,rfl⟩:=List.mem_map.1 h;rw [zoh fun x hx e=>hB ⟨x,hx,e⟩,zgr ha hy,zia (na y hy)]
   ·obtain⟨y,hy,e⟩:=List.mem_map.1 h;exact absurd ⟨y,hy,e⟩ hB
 have hmap:(zgc a b).map (·.key)=zbv a b:=by unfold zgc;rw [List.map_map];exact (List.map_congr_left fun k h=>hk k h).trans (List.map_id _)
 refine RiseE.ext (zst ha b) (riseE_iff.2 (by rw [hmap];exact g1)) fun x=>?_
 rw [zur b hb];unfold zgc;simp only [List.mem_map]
 constructor
 ·rintro (⟨e,he,rfl⟩ | ⟨h1,h2⟩)
  ·exact⟨e.key,(g2 _).2 (.inr (List.mem_map.2 ⟨e,he,rfl⟩)),by rw [zgr hb he]⟩
  ·exact⟨x.key,(g2 _).2 (.inl (List.mem_map.2 ⟨x,h1,rfl⟩)),by rw [zgr ha h1,zoh h2,zia (na x h1)]⟩
 ·rintro⟨k,hk1,rfl⟩
  by_cases hB:∃ y ∈ b,y.key=k
  ·obtain⟨y,hy,rfl⟩:=hB;exact .inl ⟨y,hy,by rw [zgr hb hy]⟩
  ·rcases (g2 k).1 hk1 with h | h
   ·obtain⟨y,hy,rfl⟩:=List.mem_map.1 h;have hn:∀ x ∈ b,x.key ≠ y.key:=fun x hx e=>hB ⟨x,hx,e⟩
    rw [zoh hn,zgr ha hy,zia (na y hy)];exact .inr ⟨hy,hn⟩
   ·obtain⟨y,hy,e⟩:=List.mem_map.1 h;exact absurd ⟨y,hy,e⟩ hB
def mrg:List Str->List Str->List Str
 | [],[]=>[]
 | a :: r,[]=>a :: mrg r []
 | [],b :: s=>b :: mrg [] s
 | a :: r,b :: s=>if ltS b a=true then b :: mrg (a :: r) s else a :: mrg r (b :: s)
termination_by a b=>a.length+b.length
theorem zz3:mrg [] [] = []:=by rw [mrg]
theorem zm3 (a:Str) (r:List Str):mrg (a :: r) []=a :: mrg r []:=by rw [mrg]
theorem zk9 (b:Str) (s:List Str):mrg [] (b :: s)=b :: mrg [] s:=by rw [mrg]
theorem zeg (a b:Str) (r s:List Str):mrg (a :: r) (b :: s)=if ltS b a=true then b :: mrg (a :: r) s else a :: mrg r (b :: s):=by rw [mrg]
theorem zib (a b:List Str):(mrg a b).Perm (a++b):=by
 fun_induction mrg a b with
 | case1=>exact .nil
 | case2 a r ih=>exact ih.cons _
 | case3 b s ih=>exact ih.cons _
 | case4 a r b s h ih=>refine (ih.cons b).trans ?_;exact (List.perm_middle (l₁:=a :: r)).symm
 | case5 a r b s h ih=>exact ih.cons _
theorem zy4 (a b:List Str) (ha:RiseS a) (hb:RiseS b):(mrg a b).Pairwise fun x y=>ltS y x=false:=by
 unfold RiseS at *
 fun_induction mrg a b with
 | case1=>exact .nil
 | case2 a r ih=>obtain⟨h1,h2⟩:=List.pairwise_cons.1 ha;refine List.pairwise_cons.2 ⟨fun x hx=>?_,ih h2 hb⟩;have:=(zib r []).mem_iff.1 hx;simp only [List.append_nil] at this;exact zbm (h1 x this)
 | case3 b s ih=>obtain⟨h1,h2⟩:=List.pairwise_cons.1 hb;refine List.pairwise_cons.2 ⟨fun x hx=>?_,ih ha h2⟩;have:=(zib [] s).mem_iff.1 hx;simp only [List.nil_append] at this;exact zbm (h1 x this)
 | case4 a r b s h ih =>
  obtain⟨h1,h2⟩:=List.pairwise_cons.1 hb;obtain⟨h3,h4⟩:=List.pairwise_cons.1 ha;refine List.pairwise_cons.2 ⟨fun x hx=>?_,ih ha h2⟩;rcases List.mem_append.1 ((zib (a :: r) s).mem_iff.1 hx) with hx | hx
  ·rcases List.mem_cons.1 hx with rfl | hx
   ·exact zbm h
   ·exact zbm (zap h (h3 x hx))
  ·exact zbm (h1 x hx)
 | case5 a r b s h ih =>
  obtain⟨h1,h2⟩:=List.pairwise_cons.1 hb;obtain⟨h3,h4⟩:=List.pairwise_cons.1 ha;refine List.pairwise_cons.2 ⟨fun x hx=>?_,ih h4 hb⟩;rcases List.mem_append.1 ((zib r (b :: s)).mem_iff.1 hx) with hx | hx
  ·exact zbm (h3 x hx)
  ·rcases List.mem_cons.1 hx with rfl | hx
   ·simpa using h
   ·refine zcc fun hk=>h (zap (h1 x hx) hk)
theorem zy5 {a b:List Str} (ha:RiseS a) (hb:RiseS b):mrg a b=zbo (a++b) :=
 zc7 (lt:=ltS) (fun _ _ h1 h2=>zqn h1 h2) ((zib a b).trans (zc5 _).symm) (zy4 a b ha hb) (ze9 _)
def dd (o:List Str) (x:Str):List Str:=if o.getLast? = some x then o else o++[x]
theorem zz4 (l:List Str):(l.foldl dd []).getLast? = l.getLast?:=by
 induction l using ze3 with
 | h0=>rfl
 | h1 l x ih =>
  rw [List.foldl_append,List.foldl_cons,List.foldl_nil];unfold dd
  split
  ·rename_i h;rw [h];simp
  ·simp
theorem zus (l:List Str):Lib.compact l=l.foldl dd []:=by
 have key:∀ m,m<=l.length->Lib.compactUpTo l.toArray m=(l.take m).foldl dd []:=by
  intro m
  induction m with
  | zero=>intro _;simp [Lib.compactUpTo]
  | succ m ih =>
   intro hm;have hlt:m < l.length:=(by omega);rw [Lib.compactUpTo_succ,ih (by omega),List.take_succ_eq_append_getElem hlt,List.foldl_append,List.foldl_cons,List.foldl_nil];have hl:((l.take m).foldl dd []).getLast? = (l.take m).getLast?:=zz4 _;have e1:(l.toArray)[m]! = l[m]:=(by rw [getElem!_pos l.toArray m (by simpa using hlt)];simp);unfold dd;rw [e1]
   by_cases h0:m=0
   ·subst h0;rw [if_pos (by simp [Lib.keeps]),if_neg (by simp)]
   ·have e2:(l.toArray)[m - 1]! = l[m - 1]:=by rw [getElem!_pos l.toArray (m - 1) (by simp;omega)];simp
    have hg:(l.take m).getLast? = some l[m - 1]:=by rw [List.getLast?_eq_getElem?,List.length_take,Nat.min_eq_left (by omega),List.getElem?_take_of_lt (by omega),List.getElem?_eq_getElem (by omega)]
    have hd:((l.take m).foldl dd []).getLast? = some l[m - 1]:=hl.trans hg;rw [show (List.foldl (fun o x=>if o.getLast? = some x then o else o++[x]) [] (l.take m))=(l.take m).foldl dd [] from rfl,hd]
    by_cases h:l[m - 1]=l[m]
    ·rw [if_neg,if_pos (by rw [h]),List.append_nil];rw [Lib.keeps_neg (by omega) (by rw [e1,e2,h])];simp
    ·rw [if_pos,if_neg (fun k=>h (Option.some.inj k))];exact Lib.keeps_pos (by rw [e1,e2];exact fun k=>h k.symm)
 have:=key l.length (Nat.le_refl _);rw [List.take_length] at this;exact this
def zfe (a b:List Str):List Str:=(mrg a b).foldl dd []
theorem zut {a b:List Str} (ha:RiseS a) (hb:RiseS b):zfe a b=Lib.compact (zbo (a++b)):=by
 unfold zfe;rw [zus,zy5 ha hb]
theorem zi6 (a b:List Mark):za0 (a++b)=zat a b:=(zcd _).ext (ze8 a b) fun s=>by
 rw [zc8,zhd,zmo]
def zg7 (s t:State):State:=⟨za0 (s.all++t.all),zdc s.entries t.entries,zfe s.pruned t.pruned⟩
structure RM (s:State):Prop where
 seen:∀ e ∈ s.entries,GoodM e.seen/\e.key ≠ []
 rise:RiseE s.entries
 pruned:RiseS s.pruned
theorem zpn {s t:State} (hs:RM s) (ht:RM t):zg7 s t=zet s t:=by
 unfold zg7 zet;rw [zi6,zxb hs.rise ht.rise (fun e he=>(hs.seen e he).2),zut hs.pruned ht.pruned]
theorem zy6 {s:State} (h:RM s) (base:List Mark):RM (zfh s base) :=
 ⟨fun e he=>h.seen e (List.mem_filter.1 he).1,h.rise.filter _,h.pruned⟩
def zhr (s d:State) (base:List Mark):State × Nat:=if zch s.all (s.pruned++d.pruned) (za0 base) then (zba,160) else (zg7 s d,0)
theorem zix (l:List Mark) (P:Mark->Bool) (Q:Str->Bool) (h:∀ m,P m=Q m.1) (s:Str):ofM (l.filter P) s=if Q s then ofM l s else 0:=by
 cases hq:Q s with
 | true =>
  rw [if_pos rfl];refine zlg fun x=>?_
  rw [ofM_le,ofM_le]
  constructor
  ·intro k m hm e h0;exact k m (List.mem_filter.2 ⟨hm,by rw [h,e];exact hq⟩) e h0
  ·intro k m hm e h0;exact k m (List.mem_filter.1 hm).1 e h0
 | false =>
  rw [if_neg (by simp)];refine zew fun m hm e=>?_
  have:=(List.mem_filter.1 hm).2;rw [h,e,hq] at this;cases this
theorem zuu {s d:State} (hs:RM s) (hd:RM d) (base:List Mark):zhr s d base=zc2 s base d:=by
 have h:zc2 s base d=zc2 s (za0 base) d:=by
  unfold zc2
  have:za3 s.all (base.filter (zbd (s.pruned++d.pruned)))=za3 s.all ((za0 base).filter (zbd (s.pruned++d.pruned))):=by
   rw [Bool.eq_iff_iff,zgu,zgu]
   have k:∀ p,ofM ((za0 base).filter (zbd (s.pruned++d.pruned))) p=ofM (base.filter (zbd (s.pruned++d.pruned))) p:=fun p=>by rw [zix (za0 base) (zbd (s.pruned++d.pruned)) (fun q=>zbd (s.pruned++d.pruned) (q,0)) (fun m=>rfl),zix base (zbd (s.pruned++d.pruned)) (fun q=>zbd (s.pruned++d.pruned) (q,0)) (fun m=>rfl),zc8]
   constructor
   ·intro g p;rw [k];exact g p
   ·intro g p;rw [<- k];exact g p
  rw [this]
 rw [h,zsr (zcd base)];unfold zhr;rw [zpn hs hd]
end
section
open Go.RowKit Go.Shelf
theorem zpo (t:Str) (d:Dot) (dn:Bool):zcx t d dn []=if dn then [] else [(t,[d])]:=rfl
theorem zlo {W:World} {S R:Nat->Prop} {o v:Value} {x:Item} (h:Sl markT W S v x.2) (hS:∀ b,b < W.heap.size->S b->R b/\¬ zae o b):itemT.rd W (fun b=>R b/\¬ zae o b) x [St x.1,v]:=⟨v,rfl,h.mono (by decide) hS⟩
theorem zta (W:World) (d:Dot):Sl markT (W.alloc (.cells #[St d.1,U d.2] 97)) (fun b=>W.heap.size<=b) (.slice (some ⟨W.heap.size,0,none⟩) 1 1) [d] :=
 zax (l:=[d]) (RowIs.own (zah W 97 [St d.1,U d.2]) (Nat.le_refl _) (Nat.le_refl _) (by decide) rfl rfl rfl)
theorem Sl.alloc_ {α:Type} {T:Shape α} {w:World} {S:Nat->Prop} {v:Value} {l:List α} (h:Sl T w S v l) (hk:0 < T.k) (o:Obj):Sl T (w.alloc o) S v l:=h.ext hk ((Ext.refl w).alloc o)
theorem OwnL.alloc_ {α:Type} {T:Shape α} {tid base:Nat} {w:World} {S:Nat->Prop} {v:Value} {l:List α} (h:OwnL T tid w base S v l) (o:Obj):OwnL T tid (w.alloc o) base S v l:=h.ext ((Ext.refl w).alloc o)
theorem zfk {S:Nat->Prop} {v:Value} {l:List Item} {w:World} (t:Str) (d:Dot) (hv:Sl itemT w S v l) (hl0:l.length<=1000000) (hd0:∀ it ∈ l,it.2.length<=1000000) :
  Calls Tryz.prog 209 #[v,St t,.agg #[St d.1,U d.2]] w fun e w'=>∃ v',e=.returned v'/\Sl itemT w' (fun b=>S b ∨ w.heap.size<=b) v' (zcx t d false l)/\Ext w w':=by
 have hv':=hv.mono (S':=fun b=>S b/\b < w.heap.size) (by decide) (fun b h1 h2=>⟨h2,h1⟩);obtain⟨P0,c,rfl,h1,h2⟩:=hv.form;obtain⟨W1,hW1⟩:∃ W1,w.alloc (.cells #[St d.1,U d.2] 97)=W1:=⟨_,rfl⟩
 have hx1:Ext w W1:=by rw [<- hW1];exact (Ext.refl w).alloc _
 have c0:W1.cell? ⟨w.heap.size,0,none⟩=some (St d.1):=by rw [<- hW1];simp [go_sem]
 have c1:W1.cell? ⟨w.heap.size,1,none⟩=some (U d.2):=by rw [<- hW1];simp [go_sem]
 have hsz1:w.heap.size<=W1.heap.size:=hx1.size;have HAT:=zH (fun (pre post:List Item) (x:Item) (wr:World) (h:Ext W1 wr) (hl:l=pre++x :: post)=>zcu hv' (hx1.trans h) hl);have HX1:=zH hx1;obtain⟨R,hR⟩:∃ R:Nat->Prop,R=fun b=>S b ∨ w.heap.size<=b:=⟨_,rfl⟩
 have HRS:=zH (show ∀ b,S b->R b by intro b h;rw [hR];exact .inl h);have HRB:=zH (show ∀ b,w.heap.size<=b->R b by intro b h;rw [hR];exact .inr h);rw [<- hR];clear hv hv' hx1 hR;go_enter Tryz.func209,Tryz.ntmps209;go_wp2_with fail
 go_loopw [7,8,9] (fun o dn i wr=>∃ (pre post P:List Item) (db:Bool),l=pre++post/\i=I pre.length/\dn=.bool db/\P++zcx t d db post=zcx t d false l/\P.length<=pre.length+1/\(db=false->P.length<=pre.length)/\OwnL itemT 96 wr W1.heap.size (fun b=>R b/\¬ zae o b) o P/\Ext W1 wr) (fun _ _ i _=>l.length - (intOf i).toNat)
 case atStart=>exact⟨[],l,[],false,rfl,rfl,rfl,rfl,by simp,by simp,OwnL.nil _ _,Ext.refl _⟩
 case round =>
  obtain⟨pre,post,P,db,hl,rfl,rfl,hp,hpl,hpf,hown,hx⟩:=hrel;have b0:=hx.cell c0;have b1:=hx.cell c1;have hn3:=hx.size;have HX:=zH hx;have HO:=zH hown;have HOB:=zH (fun b hb=>(hown.base_le (b:=b) hb));obtain⟨CO,nO,rfl,-,-⟩:=hown.form
  cases post with
  | cons m post =>
   obtain⟨b,o,dv,rfl,e0,e1,hdv⟩:=HAT.out pre post m wr hx hl;have hlt:pre.length < l.length:=(by rw [hl];simp);have hxd:m.2.length<=1000000:=hd0 m (by rw [hl];simp);have HL:=zH hl;have HIC:=zH (zhl t d m db post);have HP:=zH hp;have HDV:=zH (fun W (h:Ext W1 W)=>hdv.ext (by decide) (HX1.out.trans h));obtain⟨DA,dc,rfl,-,-⟩:=hdv.form;have HE0:=zH (fun W (h:Ext wr W)=>h.cell e0);have HE1:=zH (fun W (h:Ext wr W)=>h.cell e1);have HB0:=zH (fun W (h:Ext wr W)=>h.cell b0);have HB1:=zH (fun W (h:Ext wr W)=>h.cell b1);have HPF:=zH hpf;have HRD:=zH (fun (W:World) (h:Ext W1 W) (u:Value) (hu:∀ b,zae u b->W1.heap.size<=b)=>zlo (R:=R) (o:=u) (x:=m) (HDV.out W h) fun b hb hS=>⟨HRS.out b hS.1,fun ho=>by have h1:=hu b ho;have h2:=hS.2;omega⟩);clear hl hx hp c0 c1 hown hdv e0 e1 b0 b1 hpf;go_wp2_with fail;rename_i K hK;have HK:=zH hK;clear hK;refine zaq [fun v _=>v=.slice (some ⟨b,o,none⟩) l.length c,fun v _=>v=I pre.length,fun v _=>v=.pointer (some ⟨b,o+pre.length * 2,none⟩),fun v _=>v=.pointer (some ⟨b,o+pre.length * 2,none⟩),fun v _=>v=St m.1,fun v _=>v=.slice (some ⟨b,o,none⟩) l.length c,fun v _=>v=I pre.length,fun v _=>v=.pointer (some ⟨b,o+pre.length * 2,none⟩),fun v _=>v=.pointer (some ⟨b,o+pre.length * 2+1,none⟩),fun v _=>v=.slice DA m.2.length dc,fun v _=>v=.agg #[St m.1,.slice DA m.2.length dc],fun v W=>∃ g,v=.pointer (some ⟨g,0,none⟩)/\wr.heap.size<=g/\RowIs W g 96 [St [],.slice none 0 0] []] rfl (by kernel_rfl) ?hR ?hstep ?hend
   case hR=>simp only [List.mem_cons,List.not_mem_nil,or_false,forall_eq_or_imp,forall_eq];exact⟨kP,kP,kP,kP,kP,kP,kP,kP,kP,kP,kP,fun v _ _ h he=>by obtain⟨g,e,z,h⟩:=h;exact⟨g,e,z,h.ext he⟩⟩
   case hstep =>
    simp only [List.length_cons,List.length_nil,Nat.reduceAdd,List.take_succ_cons,List.take_zero,zbf,and_true];refine ⟨?_,?_,?_,?_,?_,?_,?_,?_,?_,?_,?_,?_⟩
    ·intro x W he f;have h0:x 0=.slice (some ⟨b,o,none⟩) l.length c:=f.1;go_wp;exact sQ
    ·intro x W he f;have h0:x 9=I pre.length:=f.1;go_wp;exact sQ
    ·intro x W he f;have h0:x 17=.slice (some ⟨b,o,none⟩) l.length c:=f.1;have h1:x 18=I pre.length:=f.2.1;go_wp;exact sQ
    ·intro x W he f;have h0:x 19=.pointer (some ⟨b,o+pre.length * 2,none⟩):=f.1;go_wp;exact sQ
    ·intro x W he f;have h0:x 20=.pointer (some ⟨b,o+pre.length * 2,none⟩):=f.1;have c0:=HE0.out W he;go_wp;exact sQ
    ·intro x W he f;have h0:x 0=.slice (some ⟨b,o,none⟩) l.length c:=f.1;go_wp;exact sQ
    ·intro x W he f;have h0:x 9=I pre.length:=f.1;go_wp;exact sQ
    ·intro x W he f;have h0:x 22=.slice (some ⟨b,o,none⟩) l.length c:=f.1;have h1:x 23=I pre.length:=f.2.1;go_wp;exact sQ
    ·intro x W he f;have h0:x 24=.pointer (some ⟨b,o+pre.length * 2,none⟩):=f.1;go_wp;exact sQ
    ·intro x W he f;have h0:x 25=.pointer (some ⟨b,o+pre.length * 2+1,none⟩):=f.1;have c1:=HE1.out W he;go_wp;exact sQ
    ·intro x W he f;have h0:x 21=St m.1:=f.1;have h1:x 26=.slice DA m.2.length dc:=f.2.1;go_wp;exact sQ
    ·intro x W he f;have hs:=he.size;have hrow:=zah W 96 [St [],.slice none 0 0];go_wp;exact zaa ⟨W.heap.size,rfl,hs,hrow⟩ ((Ext.refl W).alloc _)
   case hend =>
    intro x Wz hxz f;have e27:x 27=.agg #[St m.1,.slice DA m.2.length dc]:=f.2.2.2.2.2.2.2.2.2.2.1;obtain⟨g,e10,hg,hrow⟩:∃ g,x 10=.pointer (some ⟨g,0,none⟩)/\wr.heap.size<=g/\RowIs Wz g 96 [St [],.slice none 0 0] []:=f.2.2.2.2.2.2.2.2.2.2.2.1;clear f;simp only [List.length_cons,List.length_nil,Nat.reduceAdd,List.take_succ_cons,List.take_zero,List.filterMap_cons,List.filterMap_nil,List.drop_succ_cons,List.drop_zero,zaw,Act.put,List.setIfInBounds_toArray,List.set_cons_succ,List.set_cons_zero,e27,e10];have z0:=hrow.frozen 0;have z1:=hrow.frozen 1;have r0:=hrow.cell (j:=0) rfl;have r1:=hrow.cell (j:=1) rfl;go_wp;refine HK.out _ _ ?_;clear HK K r0 r1 z0 z1 e27 e10
    have hr2:RowIs ((Wz.setCell ⟨g,0,none⟩ (St m.1)).setCell ⟨g,1,none⟩ (.slice DA m.2.length dc)) g 96 [St m.1,.slice DA m.2.length dc] []:=by
     have h:=(hrow.set (j:=0) (by simp) (St m.1)).set (j:=1) (by simp) (.slice DA m.2.length dc)
     simpa using h
    have hx2:Ext wr ((Wz.setCell ⟨g,0,none⟩ (St m.1)).setCell ⟨g,1,none⟩ (.slice DA m.2.length dc)):=(hxz.set (p:=⟨g,0,none⟩) hg _).set (p:=⟨g,1,none⟩) hg _;have hzw:Wz.heap.size<=((Wz.setCell ⟨g,0,none⟩ (St m.1)).setCell ⟨g,1,none⟩ (.slice DA m.2.length dc)).heap.size:=(by simp [World.size_setCell]);generalize ((Wz.setCell ⟨g,0,none⟩ (St m.1)).setCell ⟨g,1,none⟩ (.slice DA m.2.length dc))=W2 at *;have HR2:=zH hr2;have HX2:=zH hx2;have hn2:=hx2.size;have hgl:=hr2.lt;have r0:=hr2.cell (j:=0) rfl;have r1:=hr2.cell (j:=1) rfl;have b0:=HB0.out W2 hx2;have b1:=HB1.out W2 hx2;clear hrow hxz hr2 hx2
    by_cases he:m.1=t
    ·have heb:(m.1 == t)=true:=(by simpa using he);have hp:=HP.out;rw [HIC.out,if_pos he] at hp;have HP:=zH hp;clear hp he;have HC:=zH (zka d (HDV.out W2 (HX.out.trans HX2.out)) hxd);go_wp2_with fail;refine HC.out.mono ?_;rintro e W3 ⟨v3,rfl,hv3,hx3⟩;obtain⟨A3,c3,rfl,-,-⟩:=hv3.form;have hr3:=HR2.out.ext hx3;have z1:=hr3.frozen 1;have s0:=hr3.cell (j:=0) rfl;have s1:=hr3.cell (j:=1) rfl;have hr4:=hr3.set (j:=1) (by simp) (.slice A3 (putD m.2 d).length c3);simp only [List.set_cons_succ,List.set_cons_zero] at hr4;have q0:=hr4.cell (j:=0) rfl;have q1:=hr4.cell (j:=1) rfl;have hx4:=(HX2.out.trans hx3).set (p:=⟨g,1,none⟩) hg (.slice A3 (putD m.2 d).length c3);have hn5:=hx3.size;have hs4:W3.heap.size<=(W3.setCell ⟨g,1,none⟩ (.slice A3 (putD m.2 d).length c3)).heap.size:=(by simp [World.size_setCell]);have hv4:=hv3.keep (w':=W3.setCell ⟨g,1,none⟩ (.slice A3 (putD m.2 d).length c3)) (by decide) (fun b hb _=>Below.heap_setCell _ _ _ _ (by show b ≠ g;rcases hb with h | h;have:=h.2;omega;omega))
     have HRD2:=zH (fun (W:World) (h:Ext (W3.setCell ⟨g,1,none⟩ (.slice A3 (putD m.2 d).length c3)) W)=>zlo (R:=R) (o:=.slice CO P.length nO) (x:=(m.1,putD m.2 d)) (hv4.ext (by decide) h) fun b hb hS=>by
      rcases hS with hS | hS
      ·exact⟨HRS.out b hS.1,fun ho=>by have h1:=(HOB.out b ho).1;have h2:=hS.2;omega⟩
      ·exact⟨HRB.out b (by omega),fun ho=>by have h1:=(HOB.out b ho).2;omega⟩)
     have HX4:=zH hx4;clear hr3 hr4 hx4 hv3 hv4 hx3 r0 r1 b0 b1
     go_wp2_with (at_builtin;refine zbg (T:=itemT) rfl (.tmp 52) (.tmp 54) 33 rfl W1.heap.size 96 40 (.agg #[St [],.slice none 0 0]) Tryz.underlying33 zdt rfl (by decide) (R) _ _ rfl (HO.out.ext (HX4.out.alloc _)) _ 1 (m.1,putD m.2 d) [St m.1,.slice A3 (putD m.2 d).length c3] rfl (Src.newAt (by simp [World.size_setCell]) rfl (by intro u hu;simp at hu;rcases hu with rfl | rfl <;> rfl)) (HRD2.out _ ((Ext.refl _).alloc _)) (by omega) (by omega) (by simp;omega) (HX.out.trans (HX4.out.alloc _)) (Nat.le_refl _) ?_;intro v5 w5 hown5 hx5 hgr5)
     go_roundw
     case rel=>exact⟨pre++[m],post,P++[(m.1,putD m.2 d)],true,by rw [HL.out];simp,by simp,rfl,by rw [<- HP.out];simp,by simp;omega,by simp,hown5,hx5⟩
     case measure=>simp [intOf];omega
    ·have heb:(m.1 == t)=false:=by simpa using he
     cases db with
     | true =>
      have hp:=HP.out;rw [HIC.out,if_neg he,if_neg (by simp)] at hp;have HP:=zH hp;clear hp he
      go_wp2_with (at_builtin;refine zbg (T:=itemT) rfl (.tmp 52) (.tmp 54) 33 rfl W1.heap.size 96 40 (.agg #[St [],.slice none 0 0]) Tryz.underlying33 zdt rfl (by decide) (R) _ _ rfl (HO.out.ext (HX2.out.alloc _)) _ 1 m [St m.1,.slice DA m.2.length dc] rfl (Src.newAt (by simp [World.size_setCell]) rfl (by intro u hu;simp at hu;rcases hu with rfl | rfl <;> rfl)) (HRD.out _ ((HX.out.trans HX2.out).alloc _) _ (fun b hb=>(HOB.out b hb).1)) (by omega) (by omega) (by simp;omega) (HX.out.trans (HX2.out.alloc _)) (Nat.le_refl _) ?_;intro v5 w5 hown5 hx5 hgr5)
      go_roundw
      case rel=>exact⟨pre++[m],post,P++[m],true,by rw [HL.out];simp,by simp,rfl,by rw [<- HP.out];simp,by simp;omega,by simp <;> omega,hown5,hx5⟩
      case measure=>simp [intOf];omega
     | false =>
      by_cases hc:ltS t m.1=true
      ·have hcb:Op.bytesLess t m.1=true:=hc;have hp:=HP.out;rw [HIC.out,if_neg he,if_pos ⟨rfl,hc⟩] at hp;have HP:=zH hp;have hpf:=HPF.out rfl;have hod:=zta W2 d;have hb2:Ext W2 ((W2.alloc (.cells #[St d.1,U d.2] 97)).alloc (.cells #[St t,.slice (some ⟨W2.heap.size,0,none⟩) 1 1] 96)):=((Ext.refl _).alloc _).alloc _;have HR1:=zH (zlo (R:=R) (o:=.slice CO P.length nO) (x:=(t,[d])) ((hod.alloc_ (by decide) (.cells #[St t,.slice (some ⟨W2.heap.size,0,none⟩) 1 1] 96))) fun b hb hS=>⟨HRB.out b (by omega),fun ho=>by have h1:=(HOB.out b ho).2;omega⟩);have HB2:=zH hb2;clear hp he hc hod hb2
       go_wp2_with (at_builtin;first | (refine zbg (T:=itemT) rfl (.tmp 45) (.tmp 50) 33 rfl W1.heap.size 96 40 (.agg #[St [],.slice none 0 0]) Tryz.underlying33 zdt rfl (by decide) (R) _ _ rfl (HO.out.ext (HX2.out.trans HB2.out)) _ 1 (t,[d]) [St t,.slice (some ⟨W2.heap.size,0,none⟩) 1 1] rfl (Src.newAt (by simp [World.size_setCell]) rfl (by intro u hu;simp at hu;rcases hu with rfl | rfl <;> rfl)) HR1.out (by omega) (by omega) (by simp;omega) (HX.out.trans (HX2.out.trans HB2.out)) (Nat.le_refl _) ?_;intro v5 w5 hown5 hx5 hgr5;have hr5:=(HR2.out.ext HB2.out).keep (hgr5.same g (by have:=HB2.out.size;omega) (fun ho=>by have:=(HOB.out g ho).2;omega));have q0:=hr5.cell (j:=0) rfl;have q1:=hr5.cell (j:=1) rfl;have HO5:=zH hown5;have HX5:=zH hx5;have hn5:=hx5.size;have HOB5:=zH (fun b hb=>(hown5.base_le (b:=b) hb).1);obtain⟨C5,c5,rfl,-,-⟩:=hown5.form;rw [show (P++[(t,[d])]).length=P.length+1 by simp] at HO5 HOB5;clear hown5 hx5 hgr5 hr5) | (refine zbg (T:=itemT) rfl (.tmp 52) (.tmp 54) 33 rfl W1.heap.size 96 40 (.agg #[St [],.slice none 0 0]) Tryz.underlying33 zdt rfl (by decide) (R) _ _ rfl (HO5.out.alloc_ _) _ 1 m [St m.1,.slice DA m.2.length dc] rfl (Src.newAt (by simp [World.size_setCell]) rfl (by intro u hu;simp at hu;rcases hu with rfl | rfl <;> rfl)) (HRD.out _ (HX5.out.alloc _) _ HOB5.out) (by simp;omega) (by simp;omega) (by simp;omega) (HX5.out.alloc _) (Nat.le_refl _) ?_;intro v6 w6 hown6 hx6 hgr6))
       go_roundw
       case rel=>exact⟨pre++[m],post,P++[(t,[d])]++[m],true,by rw [HL.out];simp,by simp,rfl,by rw [<- HP.out];simp,by simp;omega,by simp,hown6,hx6⟩
       case measure=>simp [intOf];omega
      ·have hcb:Op.bytesLess t m.1=false:=(by simpa using hc);have hp:=HP.out;rw [HIC.out,if_neg he,if_neg (fun h=>hc h.2)] at hp;have HP:=zH hp;have hpf:=HPF.out rfl;clear hp he hc
       go_wp2_with (at_builtin;refine zbg (T:=itemT) rfl (.tmp 52) (.tmp 54) 33 rfl W1.heap.size 96 40 (.agg #[St [],.slice none 0 0]) Tryz.underlying33 zdt rfl (by decide) (R) _ _ rfl (HO.out.ext (HX2.out.alloc _)) _ 1 m [St m.1,.slice DA m.2.length dc] rfl (Src.newAt (by simp [World.size_setCell]) rfl (by intro u hu;simp at hu;rcases hu with rfl | rfl <;> rfl)) (HRD.out _ ((HX.out.trans HX2.out).alloc _) _ (fun b hb=>(HOB.out b hb).1)) (by omega) (by omega) (by simp;omega) (HX.out.trans (HX2.out.alloc _)) (Nat.le_refl _) ?_;intro v5 w5 hown5 hx5 hgr5)
       go_roundw
       case rel=>exact⟨pre++[m],post,P++[m],false,by rw [HL.out];simp,by simp,rfl,by rw [<- HP.out];simp,by simp;omega,by simp <;> omega,hown5,hx5⟩
       case measure=>simp [intOf];omega
  | nil =>
   rw [List.append_nil] at hl;subst hl;have HP:=zH hp;clear hp hx c0 c1 hown
   cases db with
   | true=>go_wp2_with fail;go_ret;exact⟨_,rfl,by rw [<- HP.out,zpo,if_pos rfl,List.append_nil];exact zln HO.out (by decide) (fun b h=>HRB.out b (by omega)),HX1.out.trans HX.out⟩
   | false =>
    have hpf:=hpf rfl;have HB2:=zH (show Ext wr ((wr.alloc (.cells #[St d.1,U d.2] 97)).alloc (.cells #[St t,.slice (some ⟨wr.heap.size,0,none⟩) 1 1] 96)) from ((Ext.refl _).alloc _).alloc _);have HR1:=zH (zlo (R:=R) (o:=.slice CO P.length nO) (x:=(t,[d])) (((zta wr d).alloc_ (by decide) (.cells #[St t,.slice (some ⟨wr.heap.size,0,none⟩) 1 1] 96))) fun b hb hS=>⟨HRB.out b (by omega),fun ho=>by have h1:=(HOB.out b ho).2;omega⟩)
    go_wp2_with (at_builtin;refine zbg (T:=itemT) rfl (.tmp 58) (.tmp 63) 33 rfl W1.heap.size 96 40 (.agg #[St [],.slice none 0 0]) Tryz.underlying33 zdt rfl (by decide) (R) _ _ rfl (HO.out.ext HB2.out) _ 1 (t,[d]) [St t,.slice (some ⟨wr.heap.size,0,none⟩) 1 1] rfl (Src.newAt (by simp [World.size_setCell]) rfl (by intro u hu;simp at hu;rcases hu with rfl | rfl <;> rfl)) HR1.out (by omega) (by omega) (by simp;omega) (HX.out.trans HB2.out) (Nat.le_refl _) ?_;intro v5 w5 hown5 hx5 hgr5)
    go_ret;exact⟨_,rfl,by rw [<- HP.out,zpo,if_neg (by simp)];exact zln hown5 (by decide) (fun b h=>HRB.out b (by omega)),HX1.out.trans hx5⟩
end
section
open Go.RowKit Go.Shelf
theorem zxd (pre:List Item) (m:Item) (t:Str):of13 (pre++[m]) t=if m.1=t then m.2.foldl putD (of13 pre t) else of13 pre t:=by
 unfold of13;rw [show zac (pre++[m])=zac pre++m.2.map (fun d=>(m.1,d)) by simp [zac],List.filter_append,List.map_append,List.foldl_append]
 by_cases h:m.1=t
 ·rw [if_pos h]
  congr 1
  rw [List.filter_eq_self.2 (by intro q hq;obtain⟨d,-,rfl⟩:=List.mem_map.1 hq;simpa using h),List.map_map];exact (List.map_congr_left fun d _=>rfl).trans (List.map_id' _)
 ·rw [if_neg h];rw [List.filter_eq_nil_iff (l:=m.2.map fun d=>(m.1,d)).2 (by intro q hq;obtain⟨d,-,rfl⟩:=List.mem_map.1 hq;simpa using h)]
  rfl
theorem zkc (ds:List Dot):∀ o:List Dot,(ds.foldl putD o).length<=o.length+ds.length:=by
 induction ds with
 | nil=>intro o;simp
 | cons d r ih=>intro o;rw [List.foldl_cons];have h1:=ih (putD o d);have h2:=zy0 o d;simp only [List.length_cons];omega
theorem zy7 (l:List Item) (t:Str):(of13 l t).length<=(zac l).length:=by
 unfold of13;refine Nat.le_trans (zkc _ _) ?_;simp only [List.length_nil,Nat.zero_add,List.length_map];exact List.length_filter_le _ _
theorem zeh (pre post:List Item) (m:Item):(zac (pre++m :: post)).length=(zac pre).length+m.2.length+(zac post).length:=by
 simp [zac];omega
theorem zg0 {S:Nat->Prop} {v:Value} {l:List Item} {w:World} (t:Str) (hv:Sl itemT w S v l) (hl0:(zac l).length<=900000) :
  Calls Tryz.prog 208 #[v,St t] w fun e w'=>∃ v',e=.returned v'/\Sl markT w' (fun b=>w.heap.size<=b) v' (of13 l t)/\Ext w w':=by
 have hv':=hv;obtain⟨P0,c,rfl,h1,h2⟩:=hv.form;have HAT:=zH (fun (pre post:List Item) (x:Item) (wr:World) (h:Ext w wr) (hl:l=pre++x :: post)=>zcu hv' h hl);clear hv hv';go_enter Tryz.func208,Tryz.ntmps208;go_wp2_with fail
 go_loopw [5,6] (fun o i wr=>∃ (pre post:List Item),l=pre++post/\i=I pre.length/\Sl markT wr (fun b=>w.heap.size<=b) o (of13 pre t)/\Ext w wr) (fun _ i _=>l.length - (intOf i).toNat)
 case atStart=>exact⟨[],l,rfl,rfl,Sl.nil _ _ (by decide),Ext.refl _⟩
 case round =>
  obtain⟨pre,post,hl,rfl,hown,hx⟩:=hrel
  cases post with
  | cons m post =>
   obtain⟨b,o,dv,rfl,e0,e1,hdv⟩:=HAT.out pre post m wr hx hl;have hlt:pre.length < l.length:=(by rw [hl];simp);have hpl:=zeh pre post m;rw [<- hl] at hpl;have hol:=zy7 pre t;have HL:=zH hl;have HX:=zH hx;have HSN:=zH (zxd pre m t);obtain⟨DA,dc,rfl,-,-⟩:=hdv.form;have HDT:=zH (fun (p2 q2:List Dot) (d:Dot) (W:World) (h:Ext w W) (hh:m.2=p2++d :: q2)=>zdv hdv h hh);generalize hQ:of13 pre t=Q at *;have HO:=zH hown;obtain⟨CO,nO,rfl,-,-⟩:=hown.form;clear hl hx hown hQ;go_wp2_with fail;obtain⟨wo,rfl⟩:∃ wo:World,wo=wr:=⟨_,rfl⟩
   go_loopw [5,7] (fun o j wr2=>∃ (p2 q2:List Dot),m.2=p2++q2/\j=I p2.length/\(m.1=t ∨ p2 = [])/\Sl markT wr2 (fun b=>w.heap.size<=b) o (p2.foldl putD Q)/\Ext wo wr2) (fun _ j _=>m.2.length - (intOf j).toNat)
   case atStart=>exact⟨[],m.2,rfl,rfl,.inr rfl,HO.out,Ext.refl _⟩
   case round =>
    obtain⟨p2,q2,hq,rfl,hor,hown2,hx2⟩:=hrel;have z0:=hx2.cell e0;have z1:=hx2.cell e1;have HQ:=zH hq;have HX2:=zH hx2;have HO2:=zH hown2;have HOR:=zH hor;have hfl:=zkc p2 Q;obtain⟨C2,n2,rfl,-,-⟩:=hown2.form
    cases q2 with
    | cons d q2 =>
     have hlt2:p2.length < m.2.length:=(by rw [hq];simp);obtain⟨b3,o3,rfl,d0,d1⟩:=HDT.out p2 q2 d wr (HX.out.trans hx2) hq
     by_cases he:m.1=t
     ·have heb:(m.1 == t)=true:=(by simpa using he);have HC:=zH (zka d HO2.out (by omega));have HTE:=zH he;clear hq hx2 hown2 hor e0 e1 he;go_wp2_with fail;refine HC.out.mono ?_;rintro e W3 ⟨v3,rfl,hv3,hx3⟩;obtain⟨A3,c3,rfl,-,-⟩:=hv3.form;have hs:=HX2.out.size;have hs0:=HX.out.size;have HV3:=zH (hv3.mono (S':=fun b=>w.heap.size<=b) (by decide) (fun b _ h=>by rcases h with h | h;exact h;omega));have HX3:=zH hx3;clear hv3 hx3;go_wp2_with fail;go_roundw
      case rel=>exact⟨p2++[d],q2,by rw [HQ.out];simp,by simp,.inl HTE.out,by rw [List.foldl_append];exact HV3.out,HX2.out.trans HX3.out⟩
      case measure=>simp [intOf];omega
     ·have heb:(m.1 == t)=false:=(by simpa using he);have HP2:=zH (show p2 = [] from HOR.out.resolve_left he);have HSX:=zH (show of13 (pre++[m]) t=p2.foldl putD Q by rw [HSN.out,if_neg he,HP2.out];rfl);clear hq hx2 hown2 hor e0 e1 he;go_wp2_with fail;go_roundw
      case rel=>exact⟨pre++[m],post,by rw [HL.out];simp,by simp,by rw [HSX.out];exact HO2.out,HX.out.trans HX2.out⟩
      case measure=>simp [intOf];omega
    | nil =>
     rw [List.append_nil] at hq;have hll:m.2.length=p2.length:=by rw [hq]
     have HSX:=zH (show of13 (pre++[m]) t=p2.foldl putD Q by
      rw [HSN.out,hq]
      by_cases he:m.1=t
      ·rw [if_pos he]
      ·rw [if_neg he,hor.resolve_left he];rfl)
     clear hq hx2 hown2 hor e0 e1;go_wp2_with fail;go_roundw
     case rel=>exact⟨pre++[m],post,by rw [HL.out];simp,by simp,by rw [HSX.out];exact HO2.out,HX.out.trans HX2.out⟩
     case measure=>simp [intOf];omega
  | nil=>rw [List.append_nil] at hl;subst hl;have HO:=zH hown;obtain⟨CO,nO,rfl,-,-⟩:=hown.form;clear hown;go_wp2_with fail;go_ret;exact⟨_,rfl,HO.out,hx⟩
end
section
open Go.RowKit Go.Shelf
theorem zxe {l:List Item} (h:RiseB l):l.length<=(zac l).length/\∀ it ∈ l,it.2.length<=(zac l).length:=by
 constructor
 ·have h2:=h.2;clear h
  induction l with
  | nil=>simp
  | cons x r ih =>
   have h0:=(h2 x (by simp)).1;have h1:=ih fun it hit=>h2 it (by simp [hit])
   have h3:0 < x.2.length:=List.length_pos_iff.2 h0;rw [zdm];simp only [List.length_cons,List.length_append,List.length_map];omega
 ·intro it hit;obtain⟨A,B,rfl⟩:=List.append_of_mem hit;rw [zeh];omega
theorem zpp (qs:List zam) (h:qs.length<=900000):(qs.foldl insQ []).length<=1000000/\∀ it ∈ qs.foldl insQ [],it.2.length<=1000000:=by
 obtain⟨g1,g2⟩:=zq9 qs [] zpl;have hp:(zac (qs.foldl insQ [])).Perm (setL qs):=zd2 g1.nodup (zf3 _) fun q=>by rw [g2,zgp];simp [zac]
 have hl:=hp.length_eq;have hs:=zjp qs;obtain⟨k1,k2⟩:=zxe g1;exact⟨by omega,fun it hit=>by have:=k2 it hit;omega⟩
theorem ziy (qs:List zam) (q:zam):(qs++[q]).foldl insQ []=zcx q.1 q.2 false (qs.foldl insQ []):=by rw [List.foldl_append];rfl
theorem zpq (X:List zam) (p2:List Dot) (t:Str) (d:Dot) (K:zam->Bool):X++((p2++[d]).map fun e=>(t,e)).filter K=(X++(p2.map fun e=>(t,e)).filter K)++if K (t,d) then [(t,d)] else []:=by
 rw [List.map_append,List.filter_append,List.append_assoc]
 congr 2
 simp only [List.map_cons,List.map_nil,List.filter_cons,List.filter_nil]
theorem zml (pre:List Item) (m:Item):zac (pre++[m])=zac pre++m.2.map fun d=>(m.1,d):=by simp [zac]
theorem zp1 {S1 S2 S3 S4:Nat->Prop} {a b:List Item} {sa sb:List Mark} {va vsa vb vsb:Value} {w:World} (ha:Sl itemT w S1 va a) (hsa:Sl markT w S2 vsa sa) (hb:Sl itemT w S3 vb b) (hsb:Sl markT w S4 vsb sb) (la:(zac a).length<=400000) (lb:(zac b).length<=400000) (na:a.length<=1000000) (nb:b.length<=1000000) :
  Calls Tryz.prog 133 #[va,vsa,vb,vsb] w fun e w'=>∃ v',e=.returned v'/\Sl itemT w' (fun b=>w.heap.size<=b) v' (zk7 a sa b sb)/\Ext w w':=by
 have ha':=ha;have hb':=hb;have hsa':=hsa;have hsb':=hsb;obtain⟨Aa,ca,rfl,-,-⟩:=ha.form;obtain⟨Ab,cb,rfl,-,-⟩:=hb.form;obtain⟨Asa,csa,rfl,-,-⟩:=hsa.form;obtain⟨Asb,csb,rfl,-,-⟩:=hsb.form;have HATa:=zH (fun (pre post:List Item) (x:Item) (wr:World) (h:Ext w wr) (hl:a=pre++x :: post)=>zcu ha' h hl);have HATb:=zH (fun (pre post:List Item) (x:Item) (wr:World) (h:Ext w wr) (hl:b=pre++x :: post)=>zcu hb' h hl);have HSLa:=zH (fun W (h:Ext w W)=>ha'.ext (by decide) h);have HSLb:=zH (fun W (h:Ext w W)=>hb'.ext (by decide) h);have HSLsa:=zH (fun W (h:Ext w W)=>hsa'.ext (by decide) h);have HSLsb:=zH (fun W (h:Ext w W)=>hsb'.ext (by decide) h);have HJ:=zH (show zk7 a sa b sb=((zac a).filter (zaz b sb)++(zac b).filter (zaz a sa)).foldl insQ [] from rfl);clear ha hb hsa hsb ha' hb' hsa' hsb';go_enter Tryz.func133,Tryz.ntmps133;go_wp2_with fail
 go_loopw [9,10] (fun o i wr=>∃ (Q:List zam),((i=I 0/\Q = []) ∨ (i=I 1/\Q=(zac a).filter (zaz b sb)) ∨ (i=I 2/\Q=(zac a).filter (zaz b sb)++(zac b).filter (zaz a sa)))/\Sl itemT wr (fun b=>w.heap.size<=b) o (Q.foldl insQ [])/\Ext w wr) (fun _ i _=>2 - (intOf i).toNat)
 case atStart=>exact⟨[],.inl ⟨rfl,rfl⟩,Sl.nil _ _ (by decide),Ext.refl _⟩
 case round =>
  obtain⟨Q,hcase,hoo,hxx⟩:=hrel;have HXX:=zH hxx;have HOO:=zH hoo;obtain⟨CO,nO,rfl,-,-⟩:=hoo.form;clear hoo hxx;rcases hcase with ⟨rfl,rfl⟩ | ⟨rfl,rfl⟩ | ⟨rfl,rfl⟩
  ·go_wp2_with fail;obtain⟨wo,rfl⟩:∃ wo:World,wo=wr:=⟨_,rfl⟩
   have hq0:([]:List zam).length<=400000:=by first | exact Nat.zero_le _ | exact Nat.le_trans (List.length_filter_le _ _) la
   go_loopw [9,14] (fun o i wr2=>∃ (pre post:List Item),a=pre++post/\i=I pre.length/\Sl itemT wr2 (fun b=>w.heap.size<=b) o (([]++(zac pre).filter (zaz b sb)).foldl insQ [])/\Ext w wr2) (fun _ i _=>a.length - (intOf i).toNat)
   case atStart=>exact⟨[],a,rfl,rfl,by simpa [zac] using HOO.out,HXX.out⟩
   case round =>
    obtain⟨pre,post,hl,rfl,hown,hx⟩:=hrel;have HX:=zH hx;have HO:=zH hown;obtain⟨CO,nO,rfl,-,-⟩:=hown.form
    cases post with
    | cons m post =>
     obtain⟨b1,o1,dv,hA,e0,e1,hdv⟩:=HATa.out pre post m wr hx hl;subst hA;have hlt:pre.length < a.length:=(by rw [hl];simp);have hpl:=zeh pre post m;rw [<- hl] at hpl;have HL:=zH hl;obtain⟨Y,hY⟩:∃ Y,[]++(zac pre).filter (zaz b sb)=Y:=⟨_,rfl⟩
     have hYl:Y.length<=400000+(zac pre).length:=(by rw [<- hY,List.length_append];have:=List.length_filter_le (zaz b sb) (zac pre);omega);have HPS:=zH (show []++(zac (pre++[m])).filter (zaz b sb)=Y++(m.2.map fun d=>(m.1,d)).filter (zaz b sb) by rw [zml,List.filter_append,<- List.append_assoc,hY]);rw [hY] at HO ⊢;obtain⟨DA,dc,rfl,-,-⟩:=hdv.form;have HDT:=zH (fun (p2 q2:List Dot) (d:Dot) (W:World) (h:Ext w W) (hh:m.2=p2++d :: q2)=>zdv hdv h hh);clear hl hx hown hdv hY;go_wp2_with fail;obtain⟨wi,rfl⟩:∃ wi:World,wi=wr:=⟨_,rfl⟩
     go_loopw [9,15] (fun o j wr3=>∃ (p2 q2:List Dot),m.2=p2++q2/\j=I p2.length/\Sl itemT wr3 (fun b=>w.heap.size<=b) o ((Y++(p2.map fun d=>(m.1,d)).filter (zaz b sb)).foldl insQ [])/\Ext wi wr3) (fun _ j _=>m.2.length - (intOf j).toNat)
     case atStart=>exact⟨[],m.2,rfl,rfl,by simpa using HO.out,Ext.refl _⟩
     case round =>
      obtain⟨p2,q2,hq,rfl,hown2,hx2⟩:=hrel;have z0:=hx2.cell e0;have z1:=hx2.cell e1;have HQ:=zH hq;have HX2:=zH (HX.out.trans hx2);have HO2:=zH hown2;have HXI:=zH hx2;obtain⟨C2,n2,rfl,-,-⟩:=hown2.form
      cases q2 with
      | cons d q2 =>
       have hlt2:p2.length < m.2.length:=(by rw [hq];simp);obtain⟨b3,o3,rfl,d0,d1⟩:=HDT.out p2 q2 d wr (HX.out.trans hx2) hq
       have hos:(Y++(p2.map fun d=>(m.1,d)).filter (zaz b sb)).length<=900000:=by have:=List.length_filter_le (zaz b sb) (p2.map fun d=>(m.1,d));simp only [List.length_append,List.length_map] at this ⊢;omega
       have HKS:=zH (zpq Y p2 m.1 d (zaz b sb));obtain⟨Z,hZ⟩:∃ Z,Y++(p2.map fun d=>(m.1,d)).filter (zaz b sb)=Z:=⟨_,rfl⟩
       rw [hZ] at HO2 HKS hos ⊢;have hsm:=zpp Z hos;have HSM:=zH hsm;clear hq hx2 hown2 hZ hsm;go_wp2_with fail;rename_i K hK;have HK:=zH hK;clear hK;obtain⟨g,hg⟩:∃ g,wr.heap.size=g:=⟨_,rfl⟩
       have hr2:=zah wr 97 [St d.1,U d.2];rw [hg] at hr2;have hxg:=(Ext.refl wr).alloc (.cells #[St d.1,U d.2] 97);rw [hg];generalize (wr.alloc (.cells #[St d.1,U d.2] 97))=W2 at *;have HXG:=zH (HX2.out.trans hxg);have HE0:=zH (fun W (h:Ext W2 W)=>h.cell (hxg.cell z0));have HD0:=zH (fun W (h:Ext W2 W)=>(hr2.ext h).cell (j:=0) rfl);have HD1:=zH (fun W (h:Ext W2 W)=>(hr2.ext h).cell (j:=1) rfl);have HOG:=zH (HO2.out.ext (by decide) hxg);have hsw:=HXG.out.size;have HHG:=zH (HXI.out.trans hxg);clear hr2 hxg z0 z1 d0 d1 e0 e1
       by_cases hin:d ∈ of13 b m.1
       ·have HZ1:=zH (show decide (d ∈ of13 b m.1)=true by simpa using hin);have HKK:=zH (show zaz b sb (m.1,d)=true by unfold zaz;simp [hin]);clear hin;refine zaq [fun v _=>v=.slice Ab b.length cb,fun v _=>v=.slice (some ⟨b1,o1,none⟩) a.length ca,fun v _=>v=I pre.length,fun v _=>v=.pointer (some ⟨b1,o1+pre.length * 2,none⟩),fun v _=>v=.pointer (some ⟨b1,o1+pre.length * 2,none⟩),fun v _=>v=St m.1,fun v W=>Sl markT W (fun b=>w.heap.size<=b) v (of13 b m.1),fun v _=>v=.agg #[St d.1,U d.2],fun v _=>v=.bool true,fun v _=>v=.bool true,fun _ _=>True,fun _ _=>True] rfl (by kernel_rfl) ?hR ?hstep ?hend
        case hR=>simp only [List.mem_cons,List.not_mem_nil,or_false,forall_eq_or_imp,forall_eq];exact⟨kP,kP,kP,kP,kP,kP,fun v _ _ h he=>h.ext (by decide) he,kP,kP,kP,fun _ _ _ _ _=>trivial,fun _ _ _ _ _=>trivial⟩
        case hstep =>
         simp only [List.length_cons,List.length_nil,Nat.reduceAdd,List.take_succ_cons,List.take_zero,zbf,and_true];refine ⟨?_,?_,?_,?_,?_,?_,?_,?_,?_,?_,?_,?_⟩
         ·intro x W he f;have h0:x 12=.slice Ab b.length cb:=f.1;go_wp;exact sQ
         ·intro x W he f;have h0:x 11=.slice (some ⟨b1,o1,none⟩) a.length ca:=f.1;go_wp;exact sQ
         ·intro x W he f;have h0:x 14=I pre.length:=f.1;go_wp;exact sQ
         ·intro x W he f;have h0:x 54=.slice (some ⟨b1,o1,none⟩) a.length ca:=f.1;have h1:x 55=I pre.length:=f.2.1;go_wp;exact sQ
         ·intro x W he f;have h0:x 56=.pointer (some ⟨b1,o1+pre.length * 2,none⟩):=f.1;go_wp;exact sQ
         ·intro x W he f;have h0:x 57=.pointer (some ⟨b1,o1+pre.length * 2,none⟩):=f.1;have q0:=HE0.out W he;go_wp;exact sQ
         ·intro x W he f;have h0:x 53=.slice Ab b.length cb:=f.1;have h1:x 58=St m.1:=f.2.1;have hs:=he.size;have HC:=zH (zg0 m.1 (HSLb.out W (HXG.out.trans he)) (by omega));go_wp;refine HC.out.mono ?_;rintro r W3 ⟨v3,rfl,hv3,hx3⟩;dsimp only;go_wp;exact zaa (v:=v3) (hv3.mono (by decide) (fun b _ h=>by omega)) hx3
         ·intro x W he f;have h0:x 16=.pointer (some ⟨g,0,none⟩):=f.1;have q0:=HD0.out W he;have q1:=HD1.out W he;go_wp;exact sQ
         ·intro x W he f;have h0:Sl markT W (fun b=>w.heap.size<=b) (x 59) (of13 b m.1):=f.1;have h1:x 60=.agg #[St d.1,U d.2]:=f.2.1;have HC0:=zfw d h0;rw [HZ1.out] at HC0;have HC:=zH HC0;clear HC0 h0;go_wp;refine HC.out.mono ?_;rintro r W3 ⟨rfl,hx3⟩;dsimp only;go_wp;exact zaa rfl hx3
         ·intro x W he f;have h0:x 61=.bool true:=f.1;go_wp;exact sQ
         ·intro x W he f;have hg:x 62=.bool true:=f.2.1;go_wp;exact zaa trivial (Ext.refl _)
         ·intro x W he f;have hg:x 62=.bool true:=f.2.1;go_wp;exact zaa trivial (Ext.refl _)
        case hend =>
         intro x Wz hxz f;have e62:x 62=.bool true:=f.2.2.2.2.2.2.2.2.2.1;clear f;simp only [List.length_cons,List.length_nil,Nat.reduceAdd,List.take_succ_cons,List.take_zero,List.filterMap_cons,List.filterMap_nil,List.drop_succ_cons,List.drop_zero,zaw,Act.put,List.setIfInBounds_toArray,List.set_cons_succ,List.set_cons_zero,e62];go_wp2_with fail;refine HK.out _ _ ?_;clear HK K;obtain⟨Wd,hWd⟩:∃ W,Wz.drew=W:=⟨_,rfl⟩
         have hdr:Ext Wz Wd:=(by rw [<- hWd];exact (Ext.refl _).drew);have HWD:=zH hWd;have e0:=HE0.out Wd (hxz.trans hdr);have d0:=HD0.out Wd (hxz.trans hdr);have d1:=HD1.out Wd (hxz.trans hdr);have HC:=zH (zfk m.1 d (HOG.out.ext (by decide) (hxz.trans hdr)) HSM.out.1 HSM.out.2);have HXD:=zH (hxz.trans hdr);have hsd:=HXD.out.size;clear hWd hdr;go_wp2_with fail;refine wp_region_still_tail 7 (by kernel_rfl) (by kernel_rfl) ?_;simp only [List.take_succ_cons,List.take_zero,List.drop_succ_cons,List.drop_zero];change wpStill _ _ (Wz).drew (fun a'=>wpList _ _ _ _ a' (Wz).drew) _ _;rw [HWD.out];generalize hA:Act.mk _ _=A0;repeat (refine wpStill_step (fun K2 hK2=>?_);subst hA;go_simp;(try rw [if_neg (by decide)]);generalize hA:Act.mk _ _=A0;refine hK2 A0 ?_;clear hK2 K2)
         refine wpStill_nil ?_;subst hA;go_wp2_with fail;refine HC.out.mono ?_;rintro e W5 ⟨v5,rfl,hv5,hx5⟩;have HV5:=zH (hv5.mono (S':=fun b=>w.heap.size<=b) (by decide) (fun b _ h=>by rcases h with h | h;exact h;omega));have HX5:=zH hx5;obtain⟨C5,c5,rfl,-,-⟩:=hv5.form;clear hv5 hx5;go_wp2_with fail;go_roundw
         case rel=>exact⟨p2++[d],q2,by rw [HQ.out];simp,by simp,by rw [HKS.out,HKK.out,if_pos rfl,ziy];exact HV5.out,HHG.out.trans (HXD.out.trans HX5.out)⟩
         case measure=>simp [intOf];omega
       ·have HZ1:=zH (show decide (d ∈ of13 b m.1)=false by simpa using hin);have HKK:=zH (show zaz b sb (m.1,d) = !hasM sb d by unfold zaz;simp [hin]);clear hin;refine zaq [fun v _=>v=.slice Ab b.length cb,fun v _=>v=.slice (some ⟨b1,o1,none⟩) a.length ca,fun v _=>v=I pre.length,fun v _=>v=.pointer (some ⟨b1,o1+pre.length * 2,none⟩),fun v _=>v=.pointer (some ⟨b1,o1+pre.length * 2,none⟩),fun v _=>v=St m.1,fun v W=>Sl markT W (fun b=>w.heap.size<=b) v (of13 b m.1),fun v _=>v=.agg #[St d.1,U d.2],fun v _=>v=.bool false,fun v _=>v=.bool false,fun v _=>v=.slice Asb sb.length csb,fun v _=>v=.agg #[St d.1,U d.2]] rfl (by kernel_rfl) ?hR ?hstep ?hend
        case hR=>simp only [List.mem_cons,List.not_mem_nil,or_false,forall_eq_or_imp,forall_eq];exact⟨kP,kP,kP,kP,kP,kP,fun v _ _ h he=>h.ext (by decide) he,kP,kP,kP,kP,kP⟩
        case hstep =>
         simp only [List.length_cons,List.length_nil,Nat.reduceAdd,List.take_succ_cons,List.take_zero,zbf,and_true];refine ⟨?_,?_,?_,?_,?_,?_,?_,?_,?_,?_,?_,?_⟩
         ·intro x W he f;have h0:x 12=.slice Ab b.length cb:=f.1;go_wp;exact sQ
         ·intro x W he f;have h0:x 11=.slice (some ⟨b1,o1,none⟩) a.length ca:=f.1;go_wp;exact sQ
         ·intro x W he f;have h0:x 14=I pre.length:=f.1;go_wp;exact sQ
         ·intro x W he f;have h0:x 54=.slice (some ⟨b1,o1,none⟩) a.length ca:=f.1;have h1:x 55=I pre.length:=f.2.1;go_wp;exact sQ
         ·intro x W he f;have h0:x 56=.pointer (some ⟨b1,o1+pre.length * 2,none⟩):=f.1;go_wp;exact sQ
         ·intro x W he f;have h0:x 57=.pointer (some ⟨b1,o1+pre.length * 2,none⟩):=f.1;have q0:=HE0.out W he;go_wp;exact sQ
         ·intro x W he f;have h0:x 53=.slice Ab b.length cb:=f.1;have h1:x 58=St m.1:=f.2.1;have hs:=he.size;have HC:=zH (zg0 m.1 (HSLb.out W (HXG.out.trans he)) (by omega));go_wp;refine HC.out.mono ?_;rintro r W3 ⟨v3,rfl,hv3,hx3⟩;dsimp only;go_wp;exact zaa (v:=v3) (hv3.mono (by decide) (fun b _ h=>by omega)) hx3
         ·intro x W he f;have h0:x 16=.pointer (some ⟨g,0,none⟩):=f.1;have q0:=HD0.out W he;have q1:=HD1.out W he;go_wp;exact sQ
         ·intro x W he f;have h0:Sl markT W (fun b=>w.heap.size<=b) (x 59) (of13 b m.1):=f.1;have h1:x 60=.agg #[St d.1,U d.2]:=f.2.1;have HC0:=zfw d h0;rw [HZ1.out] at HC0;have HC:=zH HC0;clear HC0 h0;go_wp;refine HC.out.mono ?_;rintro r W3 ⟨rfl,hx3⟩;dsimp only;go_wp;exact zaa rfl hx3
         ·intro x W he f;have h0:x 61=.bool false:=f.1;go_wp;exact sQ
         ·intro x W he f;have hg:x 62=.bool false:=f.2.1;have h0:x 13=.slice Asb sb.length csb:=f.1;go_wp;exact sQ
         ·intro x W he f;have hg:x 62=.bool false:=f.2.1;have h0:x 16=.pointer (some ⟨g,0,none⟩):=f.1;have q0:=HD0.out W he;have q1:=HD1.out W he;go_wp;exact sQ
        case hend =>
         intro x Wz hxz f;have e63:x 63=.slice Asb sb.length csb:=f.2.2.2.2.2.2.2.2.2.2.1;have e64:x 64=.agg #[St d.1,U d.2]:=f.2.2.2.2.2.2.2.2.2.2.2.1;have e62:x 62=.bool false:=f.2.2.2.2.2.2.2.2.2.1;have e63:x 63=.slice Asb sb.length csb:=f.2.2.2.2.2.2.2.2.2.2.1;have e64:x 64=.agg #[St d.1,U d.2]:=f.2.2.2.2.2.2.2.2.2.2.2.1;clear f;simp only [List.length_cons,List.length_nil,Nat.reduceAdd,List.take_succ_cons,List.take_zero,List.filterMap_cons,List.filterMap_nil,List.drop_succ_cons,List.drop_zero,zaw,Act.put,List.setIfInBounds_toArray,List.set_cons_succ,List.set_cons_zero,e62,e63,e64];have HC:=zH (zj1 (HSLsb.out Wz (HXG.out.trans hxz)) d);go_wp2_with fail;refine HC.out.mono ?_;rintro r W3 ⟨rfl,hx3⟩;dsimp only;generalize hz2:hasM sb d=z2;have HZ2:=zH hz2;clear hz2;cases z2
         ·have HKK:=zH (show zaz b sb (m.1,d)=true by rw [HKK.out,HZ2.out];rfl);have hxy:=hxz.trans hx3;go_wp2_with fail;refine HK.out _ _ ?_;clear HK K;obtain⟨Wd,hWd⟩:∃ W,W3.drew=W:=⟨_,rfl⟩
          have hdr:Ext W3 Wd:=(by rw [<- hWd];exact (Ext.refl _).drew);have HWD:=zH hWd;have e0:=HE0.out Wd (hxy.trans hdr);have d0:=HD0.out Wd (hxy.trans hdr);have d1:=HD1.out Wd (hxy.trans hdr);have HC:=zH (zfk m.1 d (HOG.out.ext (by decide) (hxy.trans hdr)) HSM.out.1 HSM.out.2);have HXD:=zH (hxy.trans hdr);have hsd:=HXD.out.size;clear hWd hdr;go_wp2_with fail;refine wp_region_still_tail 7 (by kernel_rfl) (by kernel_rfl) ?_;simp only [List.take_succ_cons,List.take_zero,List.drop_succ_cons,List.drop_zero];change wpStill _ _ (W3).drew (fun a'=>wpList _ _ _ _ a' (W3).drew) _ _;rw [HWD.out];generalize hA:Act.mk _ _=A0;repeat (refine wpStill_step (fun K2 hK2=>?_);subst hA;go_simp;(try rw [if_neg (by decide)]);generalize hA:Act.mk _ _=A0;refine hK2 A0 ?_;clear hK2 K2)
          refine wpStill_nil ?_;subst hA;go_wp2_with fail;refine HC.out.mono ?_;rintro e W5 ⟨v5,rfl,hv5,hx5⟩;have HV5:=zH (hv5.mono (S':=fun b=>w.heap.size<=b) (by decide) (fun b _ h=>by rcases h with h | h;exact h;omega));have HX5:=zH hx5;obtain⟨C5,c5,rfl,-,-⟩:=hv5.form;clear hv5 hx5;go_wp2_with fail;go_roundw
          case rel=>exact⟨p2++[d],q2,by rw [HQ.out];simp,by simp,by rw [HKS.out,HKK.out,if_pos rfl,ziy];exact HV5.out,HHG.out.trans (HXD.out.trans HX5.out)⟩
          case measure=>simp [intOf];omega
         ·have HKK:=zH (show zaz b sb (m.1,d)=false by rw [HKK.out,HZ2.out];rfl);have HXY:=zH (hxz.trans hx3);have HOY:=zH (HOG.out.ext (by decide) (hxz.trans hx3));go_wp2_with fail;refine HK.out _ _ ?_;clear HK K;go_wp2_with fail;go_roundw
          case rel=>exact⟨p2++[d],q2,by rw [HQ.out];simp,by simp,by rw [HKS.out,HKK.out,if_neg (by simp),List.append_nil];exact HOY.out,HHG.out.trans HXY.out⟩
          case measure=>simp [intOf];omega
      | nil =>
       rw [List.append_nil] at hq;have hll:m.2.length=p2.length:=(by rw [hq]);have HQM:=zH hq;clear hq hx2 hown2 e0 e1;go_wp2_with fail;go_roundw
       case rel=>exact⟨pre++[m],post,by rw [HL.out];simp,by simp,by rw [HPS.out,HQM.out];exact HO2.out,HX2.out⟩
       case measure=>simp [intOf];omega
    | nil =>
     rw [List.append_nil] at hl;have hll:a.length=pre.length:=(by rw [hl]);have HLA:=zH hl;clear hx hown hl;go_wp2_with fail;go_roundw
     case rel=>exact⟨_,.inr (.inl ⟨rfl,rfl⟩),by rw [show zac a=zac pre from congrArg zac HLA.out];exact HO.out,HX.out⟩
     case measure=>simp [intOf]
  ·go_wp2_with fail;obtain⟨wo,rfl⟩:∃ wo:World,wo=wr:=⟨_,rfl⟩
   have hq0:((zac a).filter (zaz b sb):List zam).length<=400000:=by first | exact Nat.zero_le _ | exact Nat.le_trans (List.length_filter_le _ _) la
   go_loopw [9,14] (fun o i wr2=>∃ (pre post:List Item),b=pre++post/\i=I pre.length/\Sl itemT wr2 (fun b=>w.heap.size<=b) o (((zac a).filter (zaz b sb)++(zac pre).filter (zaz a sa)).foldl insQ [])/\Ext w wr2) (fun _ i _=>b.length - (intOf i).toNat)
   case atStart=>exact⟨[],b,rfl,rfl,by simpa [zac] using HOO.out,HXX.out⟩
   case round =>
    obtain⟨pre,post,hl,rfl,hown,hx⟩:=hrel;have HX:=zH hx;have HO:=zH hown;obtain⟨CO,nO,rfl,-,-⟩:=hown.form
    cases post with
    | cons m post =>
     obtain⟨b1,o1,dv,hA,e0,e1,hdv⟩:=HATb.out pre post m wr hx hl;subst hA;have hlt:pre.length < b.length:=(by rw [hl];simp);have hpl:=zeh pre post m;rw [<- hl] at hpl;have HL:=zH hl;obtain⟨Y,hY⟩:∃ Y,(zac a).filter (zaz b sb)++(zac pre).filter (zaz a sa)=Y:=⟨_,rfl⟩
     have hYl:Y.length<=400000+(zac pre).length:=(by rw [<- hY,List.length_append];have:=List.length_filter_le (zaz a sa) (zac pre);omega);have HPS:=zH (show (zac a).filter (zaz b sb)++(zac (pre++[m])).filter (zaz a sa)=Y++(m.2.map fun d=>(m.1,d)).filter (zaz a sa) by rw [zml,List.filter_append,<- List.append_assoc,hY]);rw [hY] at HO ⊢;obtain⟨DA,dc,rfl,-,-⟩:=hdv.form;have HDT:=zH (fun (p2 q2:List Dot) (d:Dot) (W:World) (h:Ext w W) (hh:m.2=p2++d :: q2)=>zdv hdv h hh);clear hl hx hown hdv hY;go_wp2_with fail;obtain⟨wi,rfl⟩:∃ wi:World,wi=wr:=⟨_,rfl⟩
     go_loopw [9,15] (fun o j wr3=>∃ (p2 q2:List Dot),m.2=p2++q2/\j=I p2.length/\Sl itemT wr3 (fun b=>w.heap.size<=b) o ((Y++(p2.map fun d=>(m.1,d)).filter (zaz a sa)).foldl insQ [])/\Ext wi wr3) (fun _ j _=>m.2.length - (intOf j).toNat)
     case atStart=>exact⟨[],m.2,rfl,rfl,by simpa using HO.out,Ext.refl _⟩
     case round =>
      obtain⟨p2,q2,hq,rfl,hown2,hx2⟩:=hrel;have z0:=hx2.cell e0;have z1:=hx2.cell e1;have HQ:=zH hq;have HX2:=zH (HX.out.trans hx2);have HO2:=zH hown2;have HXI:=zH hx2;obtain⟨C2,n2,rfl,-,-⟩:=hown2.form
      cases q2 with
      | cons d q2 =>
       have hlt2:p2.length < m.2.length:=(by rw [hq];simp);obtain⟨b3,o3,rfl,d0,d1⟩:=HDT.out p2 q2 d wr (HX.out.trans hx2) hq
       have hos:(Y++(p2.map fun d=>(m.1,d)).filter (zaz a sa)).length<=900000:=by have:=List.length_filter_le (zaz a sa) (p2.map fun d=>(m.1,d));simp only [List.length_append,List.length_map] at this ⊢;omega
       have HKS:=zH (zpq Y p2 m.1 d (zaz a sa));obtain⟨Z,hZ⟩:∃ Z,Y++(p2.map fun d=>(m.1,d)).filter (zaz a sa)=Z:=⟨_,rfl⟩
       rw [hZ] at HO2 HKS hos ⊢;have hsm:=zpp Z hos;have HSM:=zH hsm;clear hq hx2 hown2 hZ hsm;go_wp2_with fail;rename_i K hK;have HK:=zH hK;clear hK;obtain⟨g,hg⟩:∃ g,wr.heap.size=g:=⟨_,rfl⟩
       have hr2:=zah wr 97 [St d.1,U d.2];rw [hg] at hr2;have hxg:=(Ext.refl wr).alloc (.cells #[St d.1,U d.2] 97);rw [hg];generalize (wr.alloc (.cells #[St d.1,U d.2] 97))=W2 at *;have HXG:=zH (HX2.out.trans hxg);have HE0:=zH (fun W (h:Ext W2 W)=>h.cell (hxg.cell z0));have HD0:=zH (fun W (h:Ext W2 W)=>(hr2.ext h).cell (j:=0) rfl);have HD1:=zH (fun W (h:Ext W2 W)=>(hr2.ext h).cell (j:=1) rfl);have HOG:=zH (HO2.out.ext (by decide) hxg);have hsw:=HXG.out.size;have HHG:=zH (HXI.out.trans hxg);clear hr2 hxg z0 z1 d0 d1 e0 e1
       by_cases hin:d ∈ of13 a m.1
       ·have HZ1:=zH (show decide (d ∈ of13 a m.1)=true by simpa using hin);have HKK:=zH (show zaz a sa (m.1,d)=true by unfold zaz;simp [hin]);clear hin;refine zaq [fun v _=>v=.slice Aa a.length ca,fun v _=>v=.slice (some ⟨b1,o1,none⟩) b.length cb,fun v _=>v=I pre.length,fun v _=>v=.pointer (some ⟨b1,o1+pre.length * 2,none⟩),fun v _=>v=.pointer (some ⟨b1,o1+pre.length * 2,none⟩),fun v _=>v=St m.1,fun v W=>Sl markT W (fun b=>w.heap.size<=b) v (of13 a m.1),fun v _=>v=.agg #[St d.1,U d.2],fun v _=>v=.bool true,fun v _=>v=.bool true,fun _ _=>True,fun _ _=>True] rfl (by kernel_rfl) ?hR ?hstep ?hend
        case hR=>simp only [List.mem_cons,List.not_mem_nil,or_false,forall_eq_or_imp,forall_eq];exact⟨kP,kP,kP,kP,kP,kP,fun v _ _ h he=>h.ext (by decide) he,kP,kP,kP,fun _ _ _ _ _=>trivial,fun _ _ _ _ _=>trivial⟩
        case hstep =>
         simp only [List.length_cons,List.length_nil,Nat.reduceAdd,List.take_succ_cons,List.take_zero,zbf,and_true];refine ⟨?_,?_,?_,?_,?_,?_,?_,?_,?_,?_,?_,?_⟩
         ·intro x W he f;have h0:x 12=.slice Aa a.length ca:=f.1;go_wp;exact sQ
         ·intro x W he f;have h0:x 11=.slice (some ⟨b1,o1,none⟩) b.length cb:=f.1;go_wp;exact sQ
         ·intro x W he f;have h0:x 14=I pre.length:=f.1;go_wp;exact sQ
         ·intro x W he f;have h0:x 54=.slice (some ⟨b1,o1,none⟩) b.length cb:=f.1;have h1:x 55=I pre.length:=f.2.1;go_wp;exact sQ
         ·intro x W he f;have h0:x 56=.pointer (some ⟨b1,o1+pre.length * 2,none⟩):=f.1;go_wp;exact sQ
         ·intro x W he f;have h0:x 57=.pointer (some ⟨b1,o1+pre.length * 2,none⟩):=f.1;have q0:=HE0.out W he;go_wp;exact sQ
         ·intro x W he f;have h0:x 53=.slice Aa a.length ca:=f.1;have h1:x 58=St m.1:=f.2.1;have hs:=he.size;have HC:=zH (zg0 m.1 (HSLa.out W (HXG.out.trans he)) (by omega));go_wp;refine HC.out.mono ?_;rintro r W3 ⟨v3,rfl,hv3,hx3⟩;dsimp only;go_wp;exact zaa (v:=v3) (hv3.mono (by decide) (fun b _ h=>by omega)) hx3
         ·intro x W he f;have h0:x 16=.pointer (some ⟨g,0,none⟩):=f.1;have q0:=HD0.out W he;have q1:=HD1.out W he;go_wp;exact sQ
         ·intro x W he f;have h0:Sl markT W (fun b=>w.heap.size<=b) (x 59) (of13 a m.1):=f.1;have h1:x 60=.agg #[St d.1,U d.2]:=f.2.1;have HC0:=zfw d h0;rw [HZ1.out] at HC0;have HC:=zH HC0;clear HC0 h0;go_wp;refine HC.out.mono ?_;rintro r W3 ⟨rfl,hx3⟩;dsimp only;go_wp;exact zaa rfl hx3
         ·intro x W he f;have h0:x 61=.bool true:=f.1;go_wp;exact sQ
         ·intro x W he f;have hg:x 62=.bool true:=f.2.1;go_wp;exact zaa trivial (Ext.refl _)
         ·intro x W he f;have hg:x 62=.bool true:=f.2.1;go_wp;exact zaa trivial (Ext.refl _)
        case hend =>
         intro x Wz hxz f;have e62:x 62=.bool true:=f.2.2.2.2.2.2.2.2.2.1;clear f;simp only [List.length_cons,List.length_nil,Nat.reduceAdd,List.take_succ_cons,List.take_zero,List.filterMap_cons,List.filterMap_nil,List.drop_succ_cons,List.drop_zero,zaw,Act.put,List.setIfInBounds_toArray,List.set_cons_succ,List.set_cons_zero,e62];go_wp2_with fail;refine HK.out _ _ ?_;clear HK K;obtain⟨Wd,hWd⟩:∃ W,Wz.drew=W:=⟨_,rfl⟩
         have hdr:Ext Wz Wd:=(by rw [<- hWd];exact (Ext.refl _).drew);have HWD:=zH hWd;have e0:=HE0.out Wd (hxz.trans hdr);have d0:=HD0.out Wd (hxz.trans hdr);have d1:=HD1.out Wd (hxz.trans hdr);have HC:=zH (zfk m.1 d (HOG.out.ext (by decide) (hxz.trans hdr)) HSM.out.1 HSM.out.2);have HXD:=zH (hxz.trans hdr);have hsd:=HXD.out.size;clear hWd hdr;go_wp2_with fail;refine wp_region_still_tail 7 (by kernel_rfl) (by kernel_rfl) ?_;simp only [List.take_succ_cons,List.take_zero,List.drop_succ_cons,List.drop_zero];change wpStill _ _ (Wz).drew (fun a'=>wpList _ _ _ _ a' (Wz).drew) _ _;rw [HWD.out];generalize hA:Act.mk _ _=A0;repeat (refine wpStill_step (fun K2 hK2=>?_);subst hA;go_simp;(try rw [if_neg (by decide)]);generalize hA:Act.mk _ _=A0;refine hK2 A0 ?_;clear hK2 K2)
         refine wpStill_nil ?_;subst hA;go_wp2_with fail;refine HC.out.mono ?_;rintro e W5 ⟨v5,rfl,hv5,hx5⟩;have HV5:=zH (hv5.mono (S':=fun b=>w.heap.size<=b) (by decide) (fun b _ h=>by rcases h with h | h;exact h;omega));have HX5:=zH hx5;obtain⟨C5,c5,rfl,-,-⟩:=hv5.form;clear hv5 hx5;go_wp2_with fail;go_roundw
         case rel=>exact⟨p2++[d],q2,by rw [HQ.out];simp,by simp,by rw [HKS.out,HKK.out,if_pos rfl,ziy];exact HV5.out,HHG.out.trans (HXD.out.trans HX5.out)⟩
         case measure=>simp [intOf];omega
       ·have HZ1:=zH (show decide (d ∈ of13 a m.1)=false by simpa using hin);have HKK:=zH (show zaz a sa (m.1,d) = !hasM sa d by unfold zaz;simp [hin]);clear hin;refine zaq [fun v _=>v=.slice Aa a.length ca,fun v _=>v=.slice (some ⟨b1,o1,none⟩) b.length cb,fun v _=>v=I pre.length,fun v _=>v=.pointer (some ⟨b1,o1+pre.length * 2,none⟩),fun v _=>v=.pointer (some ⟨b1,o1+pre.length * 2,none⟩),fun v _=>v=St m.1,fun v W=>Sl markT W (fun b=>w.heap.size<=b) v (of13 a m.1),fun v _=>v=.agg #[St d.1,U d.2],fun v _=>v=.bool false,fun v _=>v=.bool false,fun v _=>v=.slice Asa sa.length csa,fun v _=>v=.agg #[St d.1,U d.2]] rfl (by kernel_rfl) ?hR ?hstep ?hend
        case hR=>simp only [List.mem_cons,List.not_mem_nil,or_false,forall_eq_or_imp,forall_eq];exact⟨kP,kP,kP,kP,kP,kP,fun v _ _ h he=>h.ext (by decide) he,kP,kP,kP,kP,kP⟩
        case hstep =>
         simp only [List.length_cons,List.length_nil,Nat.reduceAdd,List.take_succ_cons,List.take_zero,zbf,and_true];refine ⟨?_,?_,?_,?_,?_,?_,?_,?_,?_,?_,?_,?_⟩
         ·intro x W he f;have h0:x 12=.slice Aa a.length ca:=f.1;go_wp;exact sQ
         ·intro x W he f;have h0:x 11=.slice (some ⟨b1,o1,none⟩) b.length cb:=f.1;go_wp;exact sQ
         ·intro x W he f;have h0:x 14=I pre.length:=f.1;go_wp;exact sQ
         ·intro x W he f;have h0:x 54=.slice (some ⟨b1,o1,none⟩) b.length cb:=f.1;have h1:x 55=I pre.length:=f.2.1;go_wp;exact sQ
         ·intro x W he f;have h0:x 56=.pointer (some ⟨b1,o1+pre.length * 2,none⟩):=f.1;go_wp;exact sQ
         ·intro x W he f;have h0:x 57=.pointer (some ⟨b1,o1+pre.length * 2,none⟩):=f.1;have q0:=HE0.out W he;go_wp;exact sQ
         ·intro x W he f;have h0:x 53=.slice Aa a.length ca:=f.1;have h1:x 58=St m.1:=f.2.1;have hs:=he.size;have HC:=zH (zg0 m.1 (HSLa.out W (HXG.out.trans he)) (by omega));go_wp;refine HC.out.mono ?_;rintro r W3 ⟨v3,rfl,hv3,hx3⟩;dsimp only;go_wp;exact zaa (v:=v3) (hv3.mono (by decide) (fun b _ h=>by omega)) hx3
         ·intro x W he f;have h0:x 16=.pointer (some ⟨g,0,none⟩):=f.1;have q0:=HD0.out W he;have q1:=HD1.out W he;go_wp;exact sQ
         ·intro x W he f;have h0:Sl markT W (fun b=>w.heap.size<=b) (x 59) (of13 a m.1):=f.1;have h1:x 60=.agg #[St d.1,U d.2]:=f.2.1;have HC0:=zfw d h0;rw [HZ1.out] at HC0;have HC:=zH HC0;clear HC0 h0;go_wp;refine HC.out.mono ?_;rintro r W3 ⟨rfl,hx3⟩;dsimp only;go_wp;exact zaa rfl hx3
         ·intro x W he f;have h0:x 61=.bool false:=f.1;go_wp;exact sQ
         ·intro x W he f;have hg:x 62=.bool false:=f.2.1;have h0:x 13=.slice Asa sa.length csa:=f.1;go_wp;exact sQ
         ·intro x W he f;have hg:x 62=.bool false:=f.2.1;have h0:x 16=.pointer (some ⟨g,0,none⟩):=f.1;have q0:=HD0.out W he;have q1:=HD1.out W he;go_wp;exact sQ
        case hend =>
         intro x Wz hxz f;have e63:x 63=.slice Asa sa.length csa:=f.2.2.2.2.2.2.2.2.2.2.1;have e64:x 64=.agg #[St d.1,U d.2]:=f.2.2.2.2.2.2.2.2.2.2.2.1;have e62:x 62=.bool false:=f.2.2.2.2.2.2.2.2.2.1;have e63:x 63=.slice Asa sa.length csa:=f.2.2.2.2.2.2.2.2.2.2.1;have e64:x 64=.agg #[St d.1,U d.2]:=f.2.2.2.2.2.2.2.2.2.2.2.1;clear f;simp only [List.length_cons,List.length_nil,Nat.reduceAdd,List.take_succ_cons,List.take_zero,List.filterMap_cons,List.filterMap_nil,List.drop_succ_cons,List.drop_zero,zaw,Act.put,List.setIfInBounds_toArray,List.set_cons_succ,List.set_cons_zero,e62,e63,e64];have HC:=zH (zj1 (HSLsa.out Wz (HXG.out.trans hxz)) d);go_wp2_with fail;refine HC.out.mono ?_;rintro r W3 ⟨rfl,hx3⟩;dsimp only;generalize hz2:hasM sa d=z2;have HZ2:=zH hz2;clear hz2;cases z2
         ·have HKK:=zH (show zaz a sa (m.1,d)=true by rw [HKK.out,HZ2.out];rfl);have hxy:=hxz.trans hx3;go_wp2_with fail;refine HK.out _ _ ?_;clear HK K;obtain⟨Wd,hWd⟩:∃ W,W3.drew=W:=⟨_,rfl⟩
          have hdr:Ext W3 Wd:=(by rw [<- hWd];exact (Ext.refl _).drew);have HWD:=zH hWd;have e0:=HE0.out Wd (hxy.trans hdr);have d0:=HD0.out Wd (hxy.trans hdr);have d1:=HD1.out Wd (hxy.trans hdr);have HC:=zH (zfk m.1 d (HOG.out.ext (by decide) (hxy.trans hdr)) HSM.out.1 HSM.out.2);have HXD:=zH (hxy.trans hdr);have hsd:=HXD.out.size;clear hWd hdr;go_wp2_with fail;refine wp_region_still_tail 7 (by kernel_rfl) (by kernel_rfl) ?_;simp only [List.take_succ_cons,List.take_zero,List.drop_succ_cons,List.drop_zero];change wpStill _ _ (W3).drew (fun a'=>wpList _ _ _ _ a' (W3).drew) _ _;rw [HWD.out];generalize hA:Act.mk _ _=A0;repeat (refine wpStill_step (fun K2 hK2=>?_);subst hA;go_simp;(try rw [if_neg (by decide)]);generalize hA:Act.mk _ _=A0;refine hK2 A0 ?_;clear hK2 K2)
          refine wpStill_nil ?_;subst hA;go_wp2_with fail;refine HC.out.mono ?_;rintro e W5 ⟨v5,rfl,hv5,hx5⟩;have HV5:=zH (hv5.mono (S':=fun b=>w.heap.size<=b) (by decide) (fun b _ h=>by rcases h with h | h;exact h;omega));have HX5:=zH hx5;obtain⟨C5,c5,rfl,-,-⟩:=hv5.form;clear hv5 hx5;go_wp2_with fail;go_roundw
          case rel=>exact⟨p2++[d],q2,by rw [HQ.out];simp,by simp,by rw [HKS.out,HKK.out,if_pos rfl,ziy];exact HV5.out,HHG.out.trans (HXD.out.trans HX5.out)⟩
          case measure=>simp [intOf];omega
         ·have HKK:=zH (show zaz a sa (m.1,d)=false by rw [HKK.out,HZ2.out];rfl);have HXY:=zH (hxz.trans hx3);have HOY:=zH (HOG.out.ext (by decide) (hxz.trans hx3));go_wp2_with fail;refine HK.out _ _ ?_;clear HK K;go_wp2_with fail;go_roundw
          case rel=>exact⟨p2++[d],q2,by rw [HQ.out];simp,by simp,by rw [HKS.out,HKK.out,if_neg (by simp),List.append_nil];exact HOY.out,HHG.out.trans HXY.out⟩
          case measure=>simp [intOf];omega
      | nil =>
       rw [List.append_nil] at hq;have hll:m.2.length=p2.length:=(by rw [hq]);have HQM:=zH hq;clear hq hx2 hown2 e0 e1;go_wp2_with fail;go_roundw
       case rel=>exact⟨pre++[m],post,by rw [HL.out];simp,by simp,by rw [HPS.out,HQM.out];exact HO2.out,HX2.out⟩
       case measure=>simp [intOf];omega
    | nil =>
     rw [List.append_nil] at hl;have hll:b.length=pre.length:=(by rw [hl]);have HLA:=zH hl;clear hx hown hl;go_wp2_with fail;go_roundw
     case rel=>exact⟨_,.inr (.inr ⟨rfl,rfl⟩),by rw [show zac b=zac pre from congrArg zac HLA.out];exact HO.out,HX.out⟩
     case measure=>simp [intOf]
  ·go_wp2_with fail;go_ret;exact⟨_,rfl,by rw [HJ.out];exact HOO.out,HXX.out⟩
end
section
open Go.RowKit Go.Shelf
theorem zxf (a b:Cell):zje a b=zdd a b:=by
 rw [zyz];unfold zje
 have h:ziu a b < 0↔ltOf cmpC a b=true:=by
  unfold ziu zgf;rw [zz1];have t:∀ c:Cell,zbr c=if c.2.2 then 0 else 1:=fun _=>rfl
  rw [t,t];obtain⟨a1,a2,a3⟩:=a;obtain⟨b1,b2,b3⟩:=b
  by_cases he:(a1,a2,a3)=(b1,b2,b3)
  ·rw [if_pos he];injection he with e1 e2
   injection e2 with e2 e3
   subst e1;subst e2;subst e3;simp [zal]
  ·rw [if_neg he];cases a3 <;> cases b3 <;> by_cases h1:a1 < b1 <;> by_cases h2:a1=b1 <;> by_cases h3:ltS a2 b2=true <;> simp_all <;> omega
 by_cases hc:ziu a b < 0
 ·rw [if_pos hc,if_pos (h.1 hc)]
 ·rw [if_neg hc,if_neg fun k=>hc (h.2 k)]
theorem zsv {S:Nat->Prop} {a:Entry} {a1 a2 a3:Value} {w:World} (ha:EntAt w S a a1 a2 a3) :
  Calls Tryz.prog 131 #[entV a a1 a2 a3] w fun e w'=>e=.returned (.bool (za8 a zai))/\Ext w w':=by
 obtain⟨A1,n1,rfl,-,-⟩:=ha.seen.form;obtain⟨A2,n2,rfl,-,-⟩:=ha.counts.form;obtain⟨A3,n3,rfl,-,-⟩:=ha.items.form;have hx:=(Ext.refl w).alloc (.cells (entC a (.slice A1 a.seen.length n1) (.slice A2 a.counts.length n2) (.slice A3 a.items.length n3)) 37);have HS:=zH (zmb (ha.ext hx) (EntAt.none _ S none none none));have HX:=zH hx;clear ha hx;go_enter Tryz.func131,Tryz.ntmps131;go_wp2_with fail;refine HS.out.mono ?_;rintro r W1 ⟨rfl,hx1⟩;go_wp2_with fail;go_ret;exact⟨rfl,HX.out.trans hx1⟩
theorem EntAt.put7 {w:World} {S:Nat->Prop} {e e':Entry} {v1 v2 v3 u1 u2 u3:Value} {q:Nat} (h:EntAt w S e v1 v2 v3) (hq:∀ b,S b->b ≠ q):EntAt (put7 w q e' u1 u2 u3) S e v1 v2 v3:=by
 have hs:∀ b,b ≠ q->(Go.Proofs.YtdikcgmdmcfpfaaGreat.put7 w q e' u1 u2 u3).heap[b]? = w.heap[b]?:=fun b hb=>((((((Below.heap_setCell _ _ _ b hb).trans (Below.heap_setCell _ _ _ b hb)).trans (Below.heap_setCell _ _ _ b hb)).trans (Below.heap_setCell _ _ _ b hb)).trans (Below.heap_setCell _ _ _ b hb)).trans (Below.heap_setCell _ _ _ b hb)).trans (Below.heap_setCell _ _ _ b hb)
 exact⟨h.seen.keep (by decide) fun b hb _=>hs b (hq b hb),h.counts.keep (by decide) fun b hb _=>hs b (hq b hb),h.items.keep (by decide) fun b hb _=>hs b (hq b hb)⟩
structure RefSm (e:Entry):Prop where
 seen:e.seen.length<=100000
 counts:e.counts.length<=100000
 items:e.items.length<=100000
 places:(zac e.items).length<=100000
theorem zrh {S1 S2:Nat->Prop} {a b:Entry} {a1 a2 a3 b1 b2 b3:Value} {w:World} (ha:EntAt w S1 a a1 a2 a3) (hb:EntAt w S2 b b1 b2 b3) (sa:RefSm a) (sb:RefSm b) (ga:GoodM a.seen) (gb:GoodM b.seen) :
  Calls Tryz.prog 75 #[entV a a1 a2 a3,entV b b1 b2 b3] w fun r w'=>∃ u1 u2 u3,r=.returned (entV (zav a b) u1 u2 u3)/\EntAt w' (fun x=>(S1 x ∨ S2 x) ∨ w.heap.size<=x) (zav a b) u1 u2 u3/\Ext w w':=by
 have HJ:=zH (show zav a b=if za8 a zai then b else if a.key=b.key then ⟨a.key,zat a.seen b.seen,zbl a.counts b.counts,zb9 a.items a.seen b.items b.seen,zdd a.cell b.cell⟩ else a from rfl);generalize zav a b=J at *;obtain⟨sa1,sa2,sa3,sa4⟩:=sa;obtain⟨sb1,sb2,sb3,sb4⟩:=sb;obtain⟨k,aS,ac,ai,p1,p2,p3⟩:=a;obtain⟨kb,bs,bc,bi,q1,q2,q3⟩:=b;obtain⟨A1,n1,rfl,-,-⟩:=ha.seen.form;obtain⟨A2,n2,rfl,-,-⟩:=ha.counts.form;obtain⟨A3,n3,rfl,-,-⟩:=ha.items.form;obtain⟨B1,m1,rfl,-,-⟩:=hb.seen.form;obtain⟨B2,m2,rfl,-,-⟩:=hb.counts.form;obtain⟨B3,m3,rfl,-,-⟩:=hb.items.form;simp only at sa1 sa2 sa3 sa4 sb1 sb2 sb3 sb4 ga gb;have hx0:=(((Ext.refl w).alloc (.cells #[St k,.slice A1 aS.length n1,.slice A2 ac.length n2,.slice A3 ai.length n3,U p1,St p2,.bool p3] 37)).alloc (.cells #[St kb,.slice B1 bs.length m1,.slice B2 bc.length m2,.slice B3 bi.length m3,U q1,St q2,.bool q3] 37)).alloc (.cells #[St [],.slice none 0 0,.slice none 0 0,.slice none 0 0,.int .u64 0,St [],.bool false] 37);have rA:=((zah w 37 [St k,.slice A1 aS.length n1,.slice A2 ac.length n2,.slice A3 ai.length n3,U p1,St p2,.bool p3]).alloc (.cells #[St kb,.slice B1 bs.length m1,.slice B2 bc.length m2,.slice B3 bi.length m3,U q1,St q2,.bool q3] 37)).alloc (.cells #[St [],.slice none 0 0,.slice none 0 0,.slice none 0 0,.int .u64 0,St [],.bool false] 37);have rB:=(zah (w.alloc (.cells #[St k,.slice A1 aS.length n1,.slice A2 ac.length n2,.slice A3 ai.length n3,U p1,St p2,.bool p3] 37)) 37 [St kb,.slice B1 bs.length m1,.slice B2 bc.length m2,.slice B3 bi.length m3,U q1,St q2,.bool q3]).alloc (.cells #[St [],.slice none 0 0,.slice none 0 0,.slice none 0 0,.int .u64 0,St [],.bool false] 37);have rR:=zah ((w.alloc (.cells #[St k,.slice A1 aS.length n1,.slice A2 ac.length n2,.slice A3 ai.length n3,U p1,St p2,.bool p3] 37)).alloc (.cells #[St kb,.slice B1 bs.length m1,.slice B2 bc.length m2,.slice B3 bi.length m3,U q1,St q2,.bool q3] 37)) 37 [St [],.slice none 0 0,.slice none 0 0,.slice none 0 0,.int .u64 0,St [],.bool false];rw [World.size_alloc] at rB;rw [World.size_alloc,World.size_alloc] at rR;have hz:w.heap.size+3<=(((w.alloc (.cells #[St k,.slice A1 aS.length n1,.slice A2 ac.length n2,.slice A3 ai.length n3,U p1,St p2,.bool p3] 37)).alloc (.cells #[St kb,.slice B1 bs.length m1,.slice B2 bc.length m2,.slice B3 bi.length m3,U q1,St q2,.bool q3] 37)).alloc (.cells #[St [],.slice none 0 0,.slice none 0 0,.slice none 0 0,.int .u64 0,St [],.bool false] 37)).heap.size:=by simp
 have HA:=zH ha;have HB:=zH hb;clear ha hb;obtain⟨k0,k1,k2,k3,k4,k5,k6⟩:=rA.p7;obtain⟨j0,j1,j2,j3,j4,j5,j6⟩:=rB.p7;go_enter Tryz.func75,Tryz.ntmps75;go_wp2_with fail;generalize hW0:((w.alloc (.cells #[St k,.slice A1 aS.length n1,.slice A2 ac.length n2,.slice A3 ai.length n3,U p1,St p2,.bool p3] 37)).alloc (.cells #[St kb,.slice B1 bs.length m1,.slice B2 bc.length m2,.slice B3 bi.length m3,U q1,St q2,.bool q3] 37)).alloc (.cells #[St [],.slice none 0 0,.slice none 0 0,.slice none 0 0,.int .u64 0,St [],.bool false] 37)=W0 at *;clear hW0;have HN:=zH (zsv (HA.out.ext hx0));refine HN.out.mono ?_;rintro r W1 ⟨rfl,hx1⟩;have hx01:=hx0.trans hx1;have rA1:=rA.ext hx1;have rB1:=rB.ext hx1;have rR1:=rR.ext hx1;have hz1:=Nat.le_trans hz hx1.size;clear rA rB rR hx0 hz k0 k1 k2 k3 k4 k5 k6 j0 j1 j2 j3 j4 j5 j6;obtain⟨k0,k1,k2,k3,k4,k5,k6⟩:=rA1.p7;obtain⟨j0,j1,j2,j3,j4,j5,j6⟩:=rB1.p7;obtain⟨r0,r1,r2,r3,r4,r5,r6⟩:=rR1.p7;obtain⟨f0,f1,f2,f3,f4,f5,f6⟩:=rR1.q7;have HX:=zH hx01;cases hn:za8 ⟨k,aS,ac,ai,(p1,p2,p3)⟩ zai
 case true =>
  obtain rfl:J=⟨kb,bs,bc,bi,(q1,q2,q3)⟩:=by rw [HJ.out,hn];rfl
  clear HJ hn;go_wp2_with fail
  (try simp only [Exit.inBlock,Exit.then])
  refine bodyPost_ret (v:=entV ⟨kb,bs,bc,bi,(q1,q2,q3)⟩ (.slice B1 bs.length m1) (.slice B2 bc.length m2) (.slice B3 bi.length m3)) (by simp [results,Tryz.f75,go_sem,entV,r0,r1,r2,r3,r4,r5,r6]) rfl ?_;have hp:=zb4 (q:=w.heap.size+1+1) HX.out (by omega) ⟨kb,bs,bc,bi,(q1,q2,q3)⟩ (.slice B1 bs.length m1) (.slice B2 bc.length m2) (.slice B3 bi.length m3);have hq:=(HB.out.ext hp).mono (S':=fun x=>(S1 x ∨ S2 x) ∨ w.heap.size<=x) (fun b _ h=>.inl (.inr h));exact⟨.slice B1 bs.length m1,.slice B2 bc.length m2,.slice B3 bi.length m3,rfl,hq,hp⟩
 case false =>
  by_cases hk:k=kb
  ·subst hk;obtain rfl:J=⟨k,zat aS bs,zbl ac bc,zb9 ai aS bi bs,zdd (p1,p2,p3) (q1,q2,q3)⟩:=by rw [HJ.out,hn];simp
   clear HJ hn HN;go_wp2_with fail;refine zaq [fun v _=>v=.pointer (some ⟨w.heap.size,0,none⟩),fun v _=>v=St k,fun v _=>v=.pointer (some ⟨w.heap.size,1,none⟩),fun v _=>v=.slice A1 aS.length n1,fun v _=>v=.pointer (some ⟨w.heap.size+1,1,none⟩),fun v _=>v=.slice B1 bs.length m1,fun v W=>Sl markT W (fun b=>W1.heap.size<=b) v (za0 (aS++bs)),fun v _=>v=.pointer (some ⟨w.heap.size,2,none⟩),fun v _=>v=.slice A2 ac.length n2,fun v _=>v=.pointer (some ⟨w.heap.size+1,2,none⟩),fun v _=>v=.slice B2 bc.length m2,fun v W=>Sl zbh W (fun b=>W1.heap.size<=b) v (zbl ac bc),fun v _=>v=.pointer (some ⟨w.heap.size,3,none⟩),fun v _=>v=.slice A3 ai.length n3,fun v _=>v=.pointer (some ⟨w.heap.size,1,none⟩),fun v _=>v=.slice A1 aS.length n1,fun v _=>v=.pointer (some ⟨w.heap.size+1,3,none⟩),fun v _=>v=.slice B3 bi.length m3,fun v _=>v=.pointer (some ⟨w.heap.size+1,1,none⟩),fun v _=>v=.slice B1 bs.length m1,fun v W=>Sl itemT W (fun b=>W1.heap.size<=b) v (zk7 ai aS bi bs),fun v _=>v=.pointer (some ⟨w.heap.size,4,none⟩),fun v _=>v=.agg #[U p1,St p2,.bool p3],fun v _=>v=.pointer (some ⟨w.heap.size+1,4,none⟩),fun v _=>v=.agg #[U q1,St q2,.bool q3],fun v _=>v=zbe (zje (p1,p2,p3) (q1,q2,q3))] rfl (by kernel_rfl) ?hR ?hstep ?hend
   case hR=>simp only [List.mem_cons,List.not_mem_nil,or_false,forall_eq_or_imp,forall_eq];exact⟨kP,kP,kP,kP,kP,kP,fun v _ _ h he=>h.ext (by decide) he,kP,kP,kP,kP,fun v _ _ h he=>h.ext (by decide) he,kP,kP,kP,kP,kP,kP,kP,kP,fun v _ _ h he=>h.ext (by decide) he,kP,kP,kP,kP,kP⟩
   case hstep =>
    simp only [List.length_cons,List.length_nil,Nat.reduceAdd,List.take_succ_cons,List.take_zero,zbf,and_true];refine ⟨?_,?_,?_,?_,?_,?_,?_,?_,?_,?_,?_,?_,?_,?_,?_,?_,?_,?_,?_,?_,?_,?_,?_,?_,?_,?_⟩
    ·intro x W he f;have h0:x 2=.pointer (some ⟨w.heap.size,0,none⟩):=f.1;go_wp;exact sQ
    ·intro x W he f;have h0:x 14=.pointer (some ⟨w.heap.size,0,none⟩):=f.1;have q0:=(rA1.ext he).cell (j:=0) rfl;go_wp;exact sQ
    ·intro x W he f;have h0:x 2=.pointer (some ⟨w.heap.size,0,none⟩):=f.1;go_wp;exact sQ
    ·intro x W he f;have h0:x 16=.pointer (some ⟨w.heap.size,1,none⟩):=f.1;have q1:=(rA1.ext he).cell (j:=1) rfl;go_wp;exact sQ
    ·intro x W he f;have h0:x 3=.pointer (some ⟨w.heap.size+1,0,none⟩):=f.1;go_wp;exact sQ
    ·intro x W he f;have h0:x 18=.pointer (some ⟨w.heap.size+1,1,none⟩):=f.1;have q1:=(rB1.ext he).cell (j:=1) rfl;go_wp;exact sQ
    ·intro x W he f;have h0:x 17=.slice A1 aS.length n1:=f.1;have h1:x 19=.slice B1 bs.length m1:=f.2.1;have hs:=he.size;have HC:=zH (zk1 (HA.out.ext (hx01.trans he)).seen (HB.out.ext (hx01.trans he)).seen (by simp only;omega) (by simp only;omega));go_wp;refine HC.out.mono ?_;rintro r W3 ⟨v3,rfl,hv3,hx3⟩;dsimp only;go_wp;exact zaa (v:=v3) ((zax hv3).mono (by decide) (fun b _ h=>by omega)) hx3
    ·intro x W he f;have h0:x 2=.pointer (some ⟨w.heap.size,0,none⟩):=f.1;go_wp;exact sQ
    ·intro x W he f;have h0:x 21=.pointer (some ⟨w.heap.size,2,none⟩):=f.1;have q2:=(rA1.ext he).cell (j:=2) rfl;go_wp;exact sQ
    ·intro x W he f;have h0:x 3=.pointer (some ⟨w.heap.size+1,0,none⟩):=f.1;go_wp;exact sQ
    ·intro x W he f;have h0:x 23=.pointer (some ⟨w.heap.size+1,2,none⟩):=f.1;have q2:=(rB1.ext he).cell (j:=2) rfl;go_wp;exact sQ
    ·intro x W he f;have h0:x 22=.slice A2 ac.length n2:=f.1;have h1:x 24=.slice B2 bc.length m2:=f.2.1;have hs:=he.size;have HC:=zH (zp0 (HA.out.ext (hx01.trans he)).counts (HB.out.ext (hx01.trans he)).counts (by simp only;omega) (by simp only;omega));go_wp;refine HC.out.mono ?_;rintro r W3 ⟨v3,rfl,hv3,hx3⟩;dsimp only;go_wp;exact zaa (v:=v3) ((zi7 hv3).mono (by decide) (fun b _ h=>by omega)) hx3
    ·intro x W he f;have h0:x 2=.pointer (some ⟨w.heap.size,0,none⟩):=f.1;go_wp;exact sQ
    ·intro x W he f;have h0:x 26=.pointer (some ⟨w.heap.size,3,none⟩):=f.1;have q3:=(rA1.ext he).cell (j:=3) rfl;go_wp;exact sQ
    ·intro x W he f;have h0:x 2=.pointer (some ⟨w.heap.size,0,none⟩):=f.1;go_wp;exact sQ
    ·intro x W he f;have h0:x 28=.pointer (some ⟨w.heap.size,1,none⟩):=f.1;have q1:=(rA1.ext he).cell (j:=1) rfl;go_wp;exact sQ
    ·intro x W he f;have h0:x 3=.pointer (some ⟨w.heap.size+1,0,none⟩):=f.1;go_wp;exact sQ
    ·intro x W he f;have h0:x 30=.pointer (some ⟨w.heap.size+1,3,none⟩):=f.1;have q3:=(rB1.ext he).cell (j:=3) rfl;go_wp;exact sQ
    ·intro x W he f;have h0:x 3=.pointer (some ⟨w.heap.size+1,0,none⟩):=f.1;go_wp;exact sQ
    ·intro x W he f;have h0:x 32=.pointer (some ⟨w.heap.size+1,1,none⟩):=f.1;have q1:=(rB1.ext he).cell (j:=1) rfl;go_wp;exact sQ
    ·intro x W he f;have h0:x 27=.slice A3 ai.length n3:=f.1;have h1:x 29=.slice A1 aS.length n1:=f.2.1;have h2:x 31=.slice B3 bi.length m3:=f.2.2.1;have h3:x 33=.slice B1 bs.length m1:=f.2.2.2.1;have hs:=he.size;have HC:=zH (zp1 (HA.out.ext (hx01.trans he)).items (HA.out.ext (hx01.trans he)).seen (HB.out.ext (hx01.trans he)).items (HB.out.ext (hx01.trans he)).seen (by simp only;omega) (by simp only;omega) (by simp only;omega) (by simp only;omega));go_wp;refine HC.out.mono ?_;rintro r W3 ⟨v3,rfl,hv3,hx3⟩;dsimp only;go_wp;exact zaa (v:=v3) (hv3.mono (by decide) (fun b _ h=>by omega)) hx3
    ·intro x W he f;have h0:x 2=.pointer (some ⟨w.heap.size,0,none⟩):=f.1;go_wp;exact sQ
    ·intro x W he f;have h0:x 35=.pointer (some ⟨w.heap.size,4,none⟩):=f.1;have q4:=(rA1.ext he).cell (j:=4) rfl;have q5:=(rA1.ext he).cell (j:=5) rfl;have q6:=(rA1.ext he).cell (j:=6) rfl;go_wp;exact sQ
    ·intro x W he f;have h0:x 3=.pointer (some ⟨w.heap.size+1,0,none⟩):=f.1;go_wp;exact sQ
    ·intro x W he f;have h0:x 37=.pointer (some ⟨w.heap.size+1,4,none⟩):=f.1;have q4:=(rB1.ext he).cell (j:=4) rfl;have q5:=(rB1.ext he).cell (j:=5) rfl;have q6:=(rB1.ext he).cell (j:=6) rfl;go_wp;exact sQ
    ·intro x W he f;have h0:x 36=.agg #[U p1,St p2,.bool p3]:=f.1;have h1:x 38=.agg #[U q1,St q2,.bool q3]:=f.2.1;have hs:=he.size;have HC:=zH (zq5 (p1,p2,p3) (q1,q2,q3) W);go_wp;refine HC.out.mono ?_;rintro r W3 ⟨rfl,hx3⟩;dsimp only;go_wp;exact zaa rfl hx3
   case hend =>
    intro x Wz hxz f;have e15:x 15=St k:=f.2.1;have f20:Sl markT Wz (fun b=>W1.heap.size<=b) (x 20) (za0 (aS++bs)):=f.2.2.2.2.2.2.1;have f25:Sl zbh Wz (fun b=>W1.heap.size<=b) (x 25) (zbl ac bc):=f.2.2.2.2.2.2.2.2.2.2.2.1;have f34:Sl itemT Wz (fun b=>W1.heap.size<=b) (x 34) (zk7 ai aS bi bs):=f.2.2.2.2.2.2.2.2.2.2.2.2.2.2.2.2.2.2.2.2.1;have e39:x 39=zbe (zje (p1,p2,p3) (q1,q2,q3)):=f.2.2.2.2.2.2.2.2.2.2.2.2.2.2.2.2.2.2.2.2.2.2.2.2.2.1;clear f;rw [zi6] at f20;rw [zw8 ga gb] at f34;rw [zxf] at e39;obtain⟨C1,c1,e20,-,-⟩:=f20.form;obtain⟨C2,c2,e25,-,-⟩:=f25.form;obtain⟨C3,c3,e34,-,-⟩:=f34.form;rw [e20] at f20;rw [e25] at f25;rw [e34] at f34;obtain⟨⟨c1_,c2_,c3_⟩,hj⟩:∃ j,zdd (p1,p2,p3) (q1,q2,q3)=j:=⟨_,rfl⟩
    rw [hj] at e39;simp only [List.length_cons,List.length_nil,Nat.reduceAdd,List.take_succ_cons,List.take_zero,List.filterMap_cons,List.filterMap_nil,List.drop_succ_cons,List.drop_zero,zaw,Act.put,List.setIfInBounds_toArray,List.set_cons_succ,List.set_cons_zero,e15,e20,e25,e34,e39];have hrz:=rR1.ext hxz;clear r0 r1 r2 r3 r4 r5 r6 f0 f1 f2 f3 f4 f5 f6 k0 k1 k2 k3 k4 k5 k6 j0 j1 j2 j3 j4 j5 j6;obtain⟨r0,r1,r2,r3,r4,r5,r6⟩:=hrz.p7;obtain⟨f0,f1,f2,f3,f4,f5,f6⟩:=hrz.q7;have HZ:=zH (HX.out.trans hxz);have HEA:=zH (show EntAt Wz (fun b=>W1.heap.size<=b) ⟨k,zat aS bs,zbl ac bc,zb9 ai aS bi bs,(c1_,c2_,c3_)⟩ (.slice C1 (zat aS bs).length c1) (.slice C2 (zbl ac bc).length c2) (.slice C3 (zb9 ai aS bi bs).length c3) from ⟨f20,f25,f34⟩);clear hrz hxz f20 f25 f34;go_wp2_with fail
    (try simp only [Exit.inBlock,Exit.then])
    refine bodyPost_ret (v:=entV ⟨k,zat aS bs,zbl ac bc,zb9 ai aS bi bs,(c1_,c2_,c3_)⟩ (.slice C1 (zat aS bs).length c1) (.slice C2 (zbl ac bc).length c2) (.slice C3 (zb9 ai aS bi bs).length c3)) (by simp [results,Tryz.f75,go_sem,entV,r0,r1,r2,r3,r4,r5,r6]) rfl ?_;have hp:=zb4 (q:=w.heap.size+1+1) HZ.out (by omega) ⟨k,zat aS bs,zbl ac bc,zb9 ai aS bi bs,(c1_,c2_,c3_)⟩ (.slice C1 (zat aS bs).length c1) (.slice C2 (zbl ac bc).length c2) (.slice C3 (zb9 ai aS bi bs).length c3);have hq:=(EntAt.put7 (e':=⟨k,zat aS bs,zbl ac bc,zb9 ai aS bi bs,(c1_,c2_,c3_)⟩) (u1:=(.slice C1 (zat aS bs).length c1)) (u2:=(.slice C2 (zbl ac bc).length c2)) (u3:=(.slice C3 (zb9 ai aS bi bs).length c3)) (q:=w.heap.size+1+1) HEA.out (fun b h=>by omega)).mono (S':=fun x=>(S1 x ∨ S2 x) ∨ w.heap.size<=x) (fun b _ h=>.inr (by omega));refine ⟨.slice C1 (zat aS bs).length c1,.slice C2 (zbl ac bc).length c2,.slice C3 (zb9 ai aS bi bs).length c3,by rw [hj],?_⟩;rw [hj];exact⟨hq,hp⟩
  ·have hkb:(k == kb)=false:=(by simp [hk]);obtain rfl:J=⟨k,aS,ac,ai,(p1,p2,p3)⟩:=by rw [HJ.out,hn];simp [hk]
   clear HJ hn;go_wp2_with fail
   (try simp only [Exit.inBlock,Exit.then])
   refine bodyPost_ret (v:=entV ⟨k,aS,ac,ai,(p1,p2,p3)⟩ (.slice A1 aS.length n1) (.slice A2 ac.length n2) (.slice A3 ai.length n3)) (by simp [results,Tryz.f75,go_sem,entV,r0,r1,r2,r3,r4,r5,r6]) rfl ?_;have hp:=zb4 (q:=w.heap.size+1+1) HX.out (by omega) ⟨k,aS,ac,ai,(p1,p2,p3)⟩ (.slice A1 aS.length n1) (.slice A2 ac.length n2) (.slice A3 ai.length n3);have hq:=(HA.out.ext hp).mono (S':=fun x=>(S1 x ∨ S2 x) ∨ w.heap.size<=x) (fun b _ h=>.inl (.inl h));exact⟨.slice A1 aS.length n1,.slice A2 ac.length n2,.slice A3 ai.length n3,rfl,hq,hp⟩
end
end Go.Proofs.YtdikcgmdmcfpfaaGreat
