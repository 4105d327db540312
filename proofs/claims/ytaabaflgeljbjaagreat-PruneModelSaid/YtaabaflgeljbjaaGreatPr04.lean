/- Laws. -/
import Derived.Shelf.SlSortCmp.WholeK
import Derived.Test.YtaabaflgeljbjaaGreatPr01
set_option linter.unusedVariables false
set_option linter.unusedSimpArgs false
set_option maxRecDepth 100000
set_option maxHeartbeats 40000000
namespace Go.Proofs.YtaabaflgeljbjaaGreat
open List renaming pairwise_cons→Qa,getElem?_eq_getElem→Qb,getElem?_append_right→Qc,mem_cons→Qd,getElem?_append_left→Qe,getElem?_eq_none→Qf,mem_cons_self→Qg
section
open Go.RowKit Go.Sort
theorem zi4 {α:Type}[Inhabited α]{enc:α->List Value}{k:Nat}(hk:∀x,(enc x).length=k)(h0:0<k)(d:Array α):(flatK enc k d).toList=d.toList.flatMap enc:=by
 apply List.ext_getElem?
 intro t
 have m:(d.toList.flatMap enc).length=d.size * k:=by
  have:∀l:List α,(l.flatMap enc).length=l.length * k:=by
   intro l
   induction l with
   | nil=>simp
   | cons a r j=>simp[j,hk];rw[Nat.add_mul];omega
  rw[this];simp
 by_cases b:t<d.size * k
 ·have c:t / k<d.size:=Nat.div_lt_of_lt_mul (by rw[Nat.mul_comm];exact b);have h:t % k<k:=Nat.mod_lt _ h0
  have h1:(flatK enc k d).toList[t]? = some ((enc d[t / k]!)[t % k]!):=by rw[<- get_flatK enc k d t b,Array.getElem?_toList,Array.getElem?_eq_getElem (by simpa using b),getElem!_pos (flatK enc k d) t (by simpa using b)]
  rw[h1,List.flatMap_def];have g:d[t / k]! = d.toList[t / k]'(by simpa using c):=by rw[getElem!_pos d (t / k) c];simp
  have e:=zii (k:=k) (d.toList.map enc) (t / k) (t % k) (enc d[t / k]!) ((enc d[t / k]!)[t % k]!) (by
   intro x i;obtain⟨y,-,rfl⟩:=List.mem_map.1 i
   exact hk y) (by rw[List.getElem?_map,Qb (by simpa using c),g];rfl) (by
   have f:t % k<(enc d[t / k]!).length:=(by rw[hk];exact h);rw[Qb f,getElem!_pos (enc d[t / k]!) (t % k) f])
  rw[Nat.div_add_mod' t k]at e;exact e.symm
 rw[Qf (by simp;omega),Qf (by omega)]
theorem zjp {w:World}{g T:Nat}{F:Array Value}{tail:List Value}(a:RowIs w g T F.toList tail):Holds id w g 0 F:=by
 intro j b;rw[Nat.zero_add];refine⟨a.cell ?_,a.frozen j⟩;rw[Array.getElem?_toList,Array.getElem?_eq_getElem b,getElem!_pos F j b]
 rfl
theorem zki {w:World}{g T:Nat}{xs tail:List Value}(c:RowIs w g T xs tail)(F:Array Value)(hF:F.size=xs.length):RowIs (putRow id w g 0 F) g T F.toList tail:=by
 have d:w.heap[g]? = some (.cells (xs++tail).toArray T (0,0)):=c;unfold RowIs putRow mapBlock;simp only[Array.getElem?_modify,if_true,d,Option.map_some,onCells]
 congr 2
 apply Array.ext_getElem?
 intro i;unfold putCells;rw[Array.getElem?_mapIdx]
 by_cases hi:i<F.size
 ·have a:(xs++tail).toArray[i]? = some (xs[i]'(by omega)):=by
   simp[Qe (by omega:i<xs.length),Qb (by omega:i<xs.length)]
  have b:(F.toList++tail).toArray[i]? = some (F[i]'hi):=by simp[Qe (by simpa using hi:i<F.toList.length)]
  rw[a,b];simp[hi,getElem!_pos F i hi]
 have e:(xs++tail).toArray[i]? = (F.toList++tail).toArray[i]?:=by
  simp only[List.getElem?_toArray];rw[Qc (by omega),Qc (by simpa using hi)];simp[hF]
 rw[e]
 cases f:(F.toList++tail).toArray[i]? with
 | none=>rfl
 | some u=>simp[hi]
theorem zi5 {base:Nat}{w:World}{g:Nat}(a:base<=g)(F:Array Value):RowKit.Below base w (putRow id w g 0 F):=by
 refine⟨rfl,rfl,rfl,by simp,fun k hk=>?_⟩;unfold putRow mapBlock;rw[Array.getElem?_modify,zN (by omega)]
theorem znr {α:Type}[Inhabited α]{enc:α->List Value}{k:Nat}(hk:∀x,(enc x).length=k)(h0:0<k){base:Nat}{w:World}{g T n:Nat}{l:List α}{d':Array α}{tail:List Value}{os:Array Obj}(d:RowIs w g T (l.flatMap enc) tail)(f:base<=g)(e:d'.size=l.length):RowIs (sortWorldK enc k w g 0 n d' os) g T (d'.toList.flatMap enc) tail/\RowKit.Below base w (sortWorldK enc k w g 0 n d' os):=by
 have m:∀l:List α,(l.flatMap enc).length=l.length * k:=by
  intro l
  induction l with
  | nil=>simp
  | cons a r p=>simp[p,hk];rw[Nat.add_mul];omega
 have h1:RowIs (putRow id (Sort.ahead w n) g 0 (flatK enc k d')) g T (flatK enc k d').toList tail:=zki (w:=Sort.ahead w n) d _ (by rw[m];simp[e]);have o:g<w.heap.size:=d.lt;unfold sortWorldK putRowK
 constructor
 ·rw[zi4 hk h0]at h1;unfold RowIs at h1 ⊢;unfold grow;rw[Array.getElem?_append_left (by simp[Sort.ahead];exact o)];exact h1
 have c:=zi5 (w:=Sort.ahead w n) f (flatK enc k d');have b:RowKit.Below base w (putRow id (Sort.ahead w n) g 0 (flatK enc k d')):=⟨c.os,c.tape,c.output,c.size,c.block⟩
 exact⟨b.os,b.tape,b.output,Nat.le_trans b.size (by simp),fun j h=>by unfold grow;have i:j<(putRow id (Sort.ahead w n) g 0 (flatK enc k d')).heap.size:=(by simp[Sort.ahead];omega);rw[Array.getElem?_append_left i];exact b.block j h⟩
end
section
open Go.Sort
def zkl {α:Type}(lt:α->α->Bool)(x:α):List α->List α
 | []=>[x]
 | a::r=>if lt a x then a::zkl lt x r else x::a::r
def zco {α:Type}(lt:α->α->Bool):List α->List α
 | []=>[]
 | a::r=>zkl lt a (zco lt r)
section
variable {α:Type} {lt:α->α->Bool}
theorem zkm (x:α):∀l,(zkl lt x l).Perm (x::l)
 | []=>.refl _
 | a::r=>by
  unfold zkl
  split
  ·exact((zkm x r).cons a).trans (.swap x a r)
  exact .refl _
theorem zbq:∀l:List α,(zco lt l).Perm l
 | []=>.refl _
 | a::r=>(zkm a _).trans ((zbq r).cons a)
theorem zlj (d:SWO lt)(x:α):∀l:List α,l.Pairwise (fun a b=>lt b a=false)->(zkl lt x l).Pairwise (fun a b=>lt b a=false)
 | [],_=>by simp[zkl]
 | a::r,h=>by
  obtain⟨h1,g⟩:=Qa.1 h;unfold zkl
  split
  ·rename_i e;refine Qa.2 ⟨fun y c=>?_,zlj d x r g⟩;rcases Qd.1 ((zkm x r).mem_iff.1 c)with rfl|c
   ·cases i:lt y a with
    | false=>rfl
    | true=>have:=d.trans _ _ _ i e;rw[d.irrefl]at this;cases this
   exact h1 y c
  rename_i e;have f:lt a x=false:=(by simpa using e);refine Qa.2 ⟨fun y c=>?_,h⟩;rcases Qd.1 c with rfl|c
  ·exact f
  exact d.ntrans _ _ _ (h1 y c) f
theorem zdn (c:SWO lt):∀l:List α,(zco lt l).Pairwise (fun a b=>lt b a=false)
 | []=>.nil
 | a::r=>zlj c a _ (zdn c r)
theorem zej (e:∀a b,lt a b=false->lt b a=false->a=b):∀ {d c:List α},d.Perm c->d.Pairwise (fun a b=>lt b a=false)->c.Pairwise (fun a b=>lt b a=false)->d=c
 | [],c,hp,_,_=>by rw[List.nil_perm.1 hp]
 | a::r1,[],hp,_,_=>by simp at hp
 | a::r1,b::r2,hp,h1,h2=>by
  obtain⟨ha,g⟩:=Qa.1 h1;obtain⟨hb,i⟩:=Qa.1 h2
  have f:a=b:=by
   rcases Qd.1 (hp.mem_iff.1 (Qg (a:=a) (l:=r1)))with h|h
   ·exact h
   rcases Qd.1 (hp.mem_iff.2 (Qg (a:=b) (l:=r2)))with h'|h'
   ·exact h'.symm
   exact e a b (hb a h) (ha b h')
  subst f;rw[zej e (List.Perm.cons_inv hp) g i]
theorem ztu (h:SWO lt)(f:∀a b,lt a b=false->lt b a=false->a=b)[Inhabited α]{l:List α}{d':Array α}(m:PermIn 0 l.toArray.size l.toArray d')(n:SortedIn lt 0 l.toArray.size d'):d'.toList=zco lt l:=by
 obtain⟨h1,-,c⟩:=m;have o:d'.size=l.length:=by simpa using h1
 have g:d'.toList.Perm l:=by
  have e:d'.extract 0 l.toArray.size=d':=by rw[<- h1];simp
  rw[e]at c
  simpa using c
 refine zej f (g.trans (zbq l).symm) ?_ (zdn h l);rw[List.pairwise_iff_getElem];intro i j hi d k;have:=n i j (Nat.zero_le _) k (by simp at d ⊢;omega);rw[getElem!_pos d' i (by simpa using hi),getElem!_pos d' j (by simpa using d)]at this
 simpa using this
end
def orI (a b:Int):Int:=if a≠0 then a else b
def cmpM (a b:Mark):Int:=orI (cmpS a.1 b.1) (cmpN b.2 a.2)
def cmpD (a b:Mark):Int:=orI (cmpS a.1 b.1) (cmpN a.2 b.2)
theorem cmpS_lt {a b:Str}:cmpS a b<0↔ltS a b=true:=by
 unfold cmpS;rcases zfp a b with⟨h1,d,c,e,f⟩|rfl|⟨h1,d,c,e,f⟩
 ·simp[h1]
 ·simp[zap]
 simp[h1,c]
theorem cmpS_eq {a b:Str}:cmpS a b=0↔a=b:=by
 unfold cmpS;rcases zfp a b with⟨h1,e,d,f,c⟩|rfl|⟨h1,e,d,f,c⟩
 ·simp[h1,c]
 ·simp[zap]
 simp[h1,d,c]
theorem zot {a b:Nat}:cmpN a b<0↔a<b:=by unfold cmpN;split<;>(try split)<;>omega
theorem ya1 {a b:Nat}:cmpN a b=0↔a=b:=by unfold cmpN;split<;>(try split)<;>omega
theorem cmpM_lt {a b:Mark}:ltOf cmpM a b=true↔ltS a.1 b.1=true ∨ (a.1=b.1/\b.2<a.2):=by
 unfold ltOf cmpM orI;rw[decide_eq_true_eq]
 by_cases h:a.1=b.1
 ·rw[zN (by rw[cmpS_eq.2 h];simp),zot];simp[h,zap]
 rw[zP (fun e=>h (cmpS_eq.1 e)),cmpS_lt];simp[h]
theorem cmpD_lt {a b:Mark}:ltOf cmpD a b=true↔ltS a.1 b.1=true ∨ (a.1=b.1/\a.2<b.2):=by
 unfold ltOf cmpD orI;rw[decide_eq_true_eq]
 by_cases h:a.1=b.1
 ·rw[zN (by rw[cmpS_eq.2 h];simp),zot];simp[h,zap]
 rw[zP (fun e=>h (cmpS_eq.1 e)),cmpS_lt];simp[h]
theorem ziy {a b:Mark}(h:ltOf cmpM a b=false):ltS b.1 a.1=true ∨ (a.1=b.1/\a.2<=b.2):=by
 rcases zcj a.1 b.1 with h1|h1|h1
 ·rw[cmpM_lt.2 (.inl h1)]at h;cases h
 ·refine .inr ⟨h1,?_⟩;rcases Nat.lt_or_ge b.2 a.2 with h2|h2
  ·rw[cmpM_lt.2 (.inr ⟨h1,h2⟩)]at h;cases h
  exact h2
 exact .inl h1
theorem zbt {b:Bool}(h:b=true->False):b=false:=by cases b;rfl;exact(h rfl).elim
theorem zkn:SWO (ltOf cmpM) where
 irrefl x:=zbt fun h=>by
  rcases cmpM_lt.1 h with h|⟨-,h⟩
  ·rw[zap]at h;cases h
  omega
 trans x y z h1 h2:=by
  rw[cmpM_lt]at *;rcases h1 with h1|⟨e1,h1⟩<;>rcases h2 with h2|⟨e2,h2⟩
  ·exact .inl (zay h1 h2)
  ·exact .inl (e2▸h1)
  ·exact .inl (e1▸h2)
  exact .inr ⟨e1.trans e2,by omega⟩
 ntrans x y z h1 h2:=zbt fun h=>by
  rcases ziy h1 with h1|⟨e1,h1⟩<;>rcases ziy h2 with h2|⟨e2,h2⟩<;>rcases cmpM_lt.1 h with h|⟨e,h⟩
  ·have:=zay (zay h2 h1) h;rw[zap]at this;cases this
  ·have:=zay h2 h1;rw[e,zap]at this;cases this
  ·rw[<- e2]at h;have:=zay h1 h;rw[zap]at this;cases this
  ·rw[e2,<- e,zap]at h1;cases h1
  ·rw[e1]at h;have:=zay h2 h;rw[zap]at this;cases this
  ·rw[<- e1,e,zap]at h2;cases h2
  ·rw[e1,e2,zap]at h;cases h
  omega
theorem zo8 (a b:Mark)(h1:ltOf cmpM a b=false)(c:ltOf cmpM b a=false):a=b:=by
 rcases ziy h1 with h1|⟨e1,h1⟩<;>rcases ziy c with c|⟨e2,c⟩
 ·have:=zay h1 c;rw[zap]at this;cases this
 ·rw[e2,zap]at h1;cases h1
 ·rw[e1,zap]at c;cases c
 exact Prod.ext e1 (by omega)
def za6:Mark->List Mark->List Mark
 | _,[]=>[]
 | last,m::r=>if m.1==last.1 then za6 m r else m::za6 m r
def zb0:List Mark->List Mark
 | []=>[]
 | m::r=>m::za6 m r
def noM (m:Mark):Bool:=m.1.isEmpty||m.2==0
def zbu (l:List Mark):List Mark:=zb0 (zco (ltOf cmpM) (l.filter fun m=>!noM m))
end
end Go.Proofs.YtaabaflgeljbjaaGreat
