/- Laws. -/
import Derived.Test.YtaabaflgeljbjaaGreatPr03
import Derived.Test.YtaabaflgeljbjaaGreatPr05
import Derived.Laws.StructEq
set_option linter.unusedVariables false
set_option linter.unusedSimpArgs false
set_option maxRecDepth 100000
set_option maxHeartbeats 40000000
namespace Go.Proofs.YtaabaflgeljbjaaGreat
open Go renaming World→Xa,Value→Xb
section
open Go.RowKit
section
variable {κ:Type} [DecidableEq κ] {P:Program} {kt:TypeId} {K:κ->Xb}
theorem zkb (a:∀x y w,(Op.equal kt (K x) (K y)).run P w=.ok (decide (y=x)) w)(x:κ):∀(es:List MapEntry) (ks:List κ) (i:Nat) (w:Xa),es.map (·.key)=ks.map K ->
  (Instr.findAsking kt (K x) es i).run P w=.ok ((ks.findIdx? (fun y=>decide (y=x))).bind fun j=>(es[j]?).map fun e=>(i+j,e.val)) w
 | [],[],_,_,_=>rfl
 | [],_::_,_,_,h=>by simp at h
 | _::_,[],_,_,h=>by simp at h
 | e::es,k::ks,i,w,h=>by
  simp only[List.map_cons,List.cons.injEq]at h;obtain⟨h1,c⟩:=h;unfold Instr.findAsking;simp only[Sem.run_bind,h1,a,Result.andThen_ok]
  by_cases hk:k=x
  ·subst hk;simp[List.findIdx?_cons]
  simp only[hk,decide_false,Bool.false_eq_true,if_false,zkb a x es ks (i+1) w c,List.findIdx?_cons]
  congr 1
  cases d:ks.findIdx? (fun y=>decide (y=x))
  case none=>rfl
  rename_i j
  simp only[Option.bind_some,Option.map_some,List.getElem?_cons_succ]
  congr 1
  funext e
  simp;omega
theorem zmr {a:Array Field}(c:P.underlying kt=some (.struct a))(d:∀e x w,(Instr.checkKey e 10000 kt (K x)).run P w=.ok () w)(f:∀x y w,(Op.equal kt (K x) (K y)).run P w=.ok (decide (y=x)) w)(i:∀x,Instr.sameBits 10000 (K x) (K x)=true):KeyOk P kt K where
 check:=d
 find x es ks w h:=by
  cases es
  case nil=>
   cases ks with
   | nil=>simp[Instr.findKey,run_underlying c,Instr.findNow]
   | cons k ks=>simp at h
  rename_i e es
  have g:Instr.findNow (.struct a) (K x) (e::es) 0=none:=by unfold Instr.findNow;simp[Instr.sameNow]
  simp only[Instr.findKey,Sem.run_bind,run_underlying c,Result.andThen_ok,g];rw[zkb f x (e::es) ks 0 w h];simp
 same:=i
end
abbrev dotV (d:Dot):Xb:=.agg #[St d.1,U d.2]
abbrev zar (p:zan):Xb:=.agg #[St p.1,St p.2.1,U p.2.2]
abbrev zeg (_:Unit):Xb:=.agg #[]
section
set_option maxRecDepth 100000
theorem zna (d:Nat)(x y:Dot)(w:Xa):(Op.equalIn (d+1+1) 59 (.agg #[St x.1,U x.2]) (.agg #[St y.1,U y.2])).run Tryz.prog w=.ok (decide (y=x)) w:=by
 have k:Tryz.prog.underlying 59=some (.struct (Tryz.prog.fieldsOf 59)):=by kernel_rfl
 have l:Tryz.prog.stoodInHeld 59=false:=by kernel_rfl
 have m:=Tryz.underlying9;have n:=Tryz.underlying27;have a1:=Tryz.isAgg9;have a2:=Tryz.isAgg27;have o:=Tryz.sizeOf9;have p:=Tryz.sizeOf27;rw[run_equalIn_agg w (d+1) 59 _ _ k l];simp only[Program.fieldsOf,Tryz.underlying59];go_simp;obtain⟨h,f⟩:=x;obtain⟨i,g⟩:=y
 by_cases h1:h=i
 ·by_cases a:f=g
  ·subst h1;subst a;simp
  subst h1;have c:¬g=f:=fun e=>a e.symm
  have j:¬(f:Int)=g:=fun e=>a (Int.ofNat_inj.1 e)
  simp[j,c]
 have c:¬i=h:=fun e=>h1 e.symm
 simp[h1,c]
theorem ya3 (x y:Dot)(w:Xa):(Op.equal 59 (dotV x) (dotV y)).run Tryz.prog w=.ok (decide (y=x)) w:=zna 9998 x y w
theorem zwr (x y:zan)(w:Xa):(Op.equal 220 (zar x) (zar y)).run Tryz.prog w=.ok (decide (y=x)) w:=by
 have g:Tryz.prog.underlying 220=some (.struct (Tryz.prog.fieldsOf 220)):=by kernel_rfl
 have h:Tryz.prog.stoodInHeld 220=false:=by kernel_rfl
 have l:=Tryz.underlying9;have a1:=Tryz.isAgg9;have a3:=Tryz.isAgg59;have m:=Tryz.sizeOf9;have n:=Tryz.sizeOf59
 have key:∀d,(Op.equalIn (d+1+1+1) 220 (zar x) (zar y)).run Tryz.prog w=.ok (decide (y=x)) w:=by
  intro d;have k:=zna d;rw[run_equalIn_agg w (d+1+1) 220 _ _ g h];simp only[Program.fieldsOf,Tryz.underlying220];go_simp;obtain⟨a,i⟩:=x;obtain⟨c,j⟩:=y
  by_cases h0:a=c
  ·subst h0
   by_cases h1:j=i
   ·simp[h1]
   simp[h1]
  have f:¬c=a:=fun e=>h0 e.symm
  simp[h0,f]
 exact key 9997
theorem zlp (n:Nat)(e:Bool)(s:Str)(w:Xa):(Instr.checkKey e (n+1) 9 (St s)).run Tryz.prog w=.ok () w:=by
 unfold Instr.checkKey;simp[run_underlying Tryz.underlying9]
theorem zq5 (n:Nat)(e:Bool)(s:Nat)(w:Xa):(Instr.checkKey e (n+1) 27 (U s)).run Tryz.prog w=.ok () w:=by
 unfold Instr.checkKey;simp[run_underlying Tryz.underlying27]
theorem zlq (n:Nat)(e:Bool)(x:Dot)(w:Xa):(Instr.checkKey e (n+1+1) 59 (.agg #[St x.1,U x.2])).run Tryz.prog w=.ok () w:=by
 have a1:=Tryz.isAgg9;have a2:=Tryz.isAgg27;have a:=Tryz.sizeOf9;have c:=Tryz.sizeOf27;have c1:=zlp n e;have c2:=zq5 n e;unfold Instr.checkKey;simp only[Sem.run_bind,run_underlying Tryz.underlying59,Result.andThen_ok];go_simp
theorem zow (n:Nat)(e:Bool)(x:zan)(w:Xa):(Instr.checkKey e (n+1+1+1) 220 (zar x)).run Tryz.prog w=.ok () w:=by
 have a1:=Tryz.isAgg9;have a3:=Tryz.isAgg59;have a:=Tryz.sizeOf9;have c:=Tryz.sizeOf59;have c1:=zlp (n+1) e;have c2:=zlq n e;unfold Instr.checkKey;simp only[Sem.run_bind,run_underlying Tryz.underlying220,Result.andThen_ok];go_simp
theorem zq6 (n:Nat)(s:Str):Instr.sameBits n (St s) (St s)=true:=by
 cases n<;>simp[Instr.sameBits,zi2]
theorem zws (n:Nat)(s:Nat):Instr.sameBits n (U s) (U s)=true:=by
 cases n<;>simp[Instr.sameBits]
theorem zy7 (n:Nat)(x:Dot):Instr.sameBits (n+1) (dotV x) (dotV x)=true:=by
 simp[Instr.sameBits,zq6,zws]
theorem zua (n:Nat)(x:zan):Instr.sameBits (n+1) (zar x) (zar x)=true:=by
 simp[Instr.sameBits,zq6,zws]
theorem zwt:KeyOk Tryz.prog 59 dotV:=zmr Tryz.underlying59 (fun e x w=>zlq 9998 e x w) ya3 (zy7 9999)
theorem zjd:KeyOk Tryz.prog 220 zar:=zmr Tryz.underlying220 (fun e x w=>zow 9997 e x w) zwr (zua 9999)
theorem znb (w:Xa):(zeroValue 141).run Tryz.prog w=.ok (zeg ()) w:=Tryz.zeroValue141 w
end
theorem ze3 {κ:Type}(ks:List κ):(ks.map fun k=>(k,())).map Prod.fst=ks:=by simp[Function.comp_def]
theorem zub {κ:Type}(L:List (κ×Unit)):L=(L.map Prod.fst).map fun k=>(k,()):=by
 rw[List.map_map];exact(List.map_id' L).symm.trans (List.map_congr_left fun p _=>rfl)
theorem zdl {κ:Type}{a b:List κ}(ha:a.Nodup)(hb:b.Nodup)(h:∀x,x∈a↔x∈b):a.Perm b:=(List.perm_ext_iff_of_nodup ha hb).2 h
section
variable {κ:Type} [DecidableEq κ] {K:κ->Xb} {w w':Xa} {b:Nat} {ks:List κ}
def SetOf (K:κ->Xb)(w:Xa)(b:Nat)(ks:List κ):Prop:=MapIs K zeg w b (ks.map fun k=>(k,()))
def addK (ks:List κ)(k:κ):List κ:=if k∈ks then ks else ks++[k]
def setL (ks:List κ):List κ:=ks.foldl addK []
theorem zwu (ks:List κ)(k:κ):putL (ks.map fun k=>(k,())) k ()=(addK ks k).map fun k=>(k,()):=by
 rw[zub (putL _ _ _),zjo,ze3]
 rfl
theorem SetOf.lt (h:SetOf K w b ks):b<w.heap.size:=MapIs.lt h
theorem SetOf.ext (a:SetOf K w b ks)(c:Ext w w'):SetOf K w' b ks:=MapIs.ext a c
theorem SetOf.keep (a:SetOf K w b ks)(c:w'.heap[b]? = w.heap[b]?):SetOf K w' b ks:=MapIs.keep a c
theorem SetOf.nodup (h:SetOf K w b ks):ks.Nodup:=by have:=MapIs.nodup h;rwa[ze3]at this
theorem SetOf.new (w:Xa):SetOf K (w.alloc (.map #[] 0)) w.heap.size []:=MapIs.new w
theorem zks {ks:List κ}{k x:κ}:x∈addK ks k↔x∈ks ∨ x=k:=by
 unfold addK
 split
 ·rename_i a;exact⟨.inl,fun c=>c.elim id (fun e=>e▸a)⟩
 simp
theorem zkt {ks:List κ}(h:ks.Nodup)(k:κ):(addK ks k).Nodup:=by
 unfold addK
 split
 ·exact h
 rename_i hk;rw[List.nodup_append];exact⟨h,by simp,fun a ha b hb=>by simp at hb;subst hb;rintro rfl;exact hk ha⟩
theorem zq7 (ks:List κ)(k:κ):(addK ks k).length<=ks.length+1:=by
 unfold addK
 split<;>simp
theorem zd6:∀(l ks:List κ) (x:κ),x∈l.foldl addK ks↔x∈ks ∨ x∈l
 | [],ks,x=>by simp
 | a::r,ks,x=>by rw[List.foldl_cons,zd6 r,zks,List.mem_cons];exact or_assoc
theorem zd9:∀(l ks:List κ),ks.Nodup->(l.foldl addK ks).Nodup
 | [],_,h=>h
 | a::r,ks,h=>zd9 r _ (zkt h a)
theorem zhp:∀(l ks:List κ),(l.foldl addK ks).length<=ks.length+l.length
 | [],ks=>by simp
 | a::r,ks=>by rw[List.foldl_cons,List.length_cons];have h1:=zhp r (addK ks a);have c:=zq7 ks a;omega
theorem mem_setL {l:List κ}{x:κ}:x∈setL l↔x∈l:=by unfold setL;rw[zd6];simp
theorem zdm (l:List κ):(setL l).Nodup:=zd9 l [] .nil
theorem zgj (l:List κ):(setL l).length<=l.length:=by have:=zhp l [];simpa[setL]using this
theorem zh6 (l:List κ)(x:κ):setL (l++[x])=addK (setL l) x:=by simp[setL]
theorem zle:∀(l ks:List κ),(ks++l).Nodup->l.foldl addK ks=ks++l
 | [],ks,_=>by simp
 | a::r,ks,h=>by
  have ha:a∉ks:=fun hk=>by rw[List.nodup_append]at h;exact h.2.2 a hk a (by simp) rfl
  rw[List.foldl_cons,show addK ks a=ks++[a] by simp[addK,ha],zle r (ks++[a]) (by simpa using h)];simp
theorem zc9 {P:Program}{t kt d:TypeId}(g:P.underlying t=some (.map kt d))(c:KeyOk P kt K)(e:SetOf K w b ks)(k:κ) :
  ∃w',(Instr.mapUpdate t (.map (some b)) (K k) (.agg #[])).run P w=.ok () w'/\SetOf K w' b (addK ks k)/\Turned w w' b:=by
 obtain⟨w',h1,a,f⟩:=zaw (V:=zeg) g c e k ();rw[zwu]at a;exact⟨w',h1,a,f⟩
theorem zih {P:Program}{t kt a:TypeId}(e:P.underlying t=some (.map kt a))(c:KeyOk P kt K)(f:∀w,(zeroValue a).run P w=.ok (.agg #[]) w)(d:SetOf K w b ks)(k:κ) :
  (Instr.lookup t (.map (some b)) (K k) true).run P w=.ok (.tuple #[.agg #[],.bool (decide (k∈ks))]) w:=by
 have:=(zbi (V:=zeg) (z:=()) e c f d k).2
 rwa[ze3]at this
end
theorem zgr {w wr:Xa}{S:Nat->Prop}{A:Option Addr}{n c:Nat}{l pre post:List Item}{m:Item}(d:Sl itemT w S (.slice A n c) l)(hb:Ext w wr)(e:l=pre++m::post) :
  ∃b o v,A=some ⟨b,o,none⟩/\wr.cell? ⟨b,o+pre.length * 2,none⟩=some (St m.1)/\wr.cell? ⟨b,o+pre.length * 2+1,none⟩=some v/\Sl markT w S v m.2:=by
 obtain⟨b,o,vs,h,f,i,⟨v,rfl,g⟩,a⟩:=d.at_ e;injection f with e1 e2 e3
 subst e1;exact⟨b,o,v,rfl,hb.cell (a 0 _ rfl),hb.cell (a 1 _ rfl),g⟩
theorem zje {w wr:Xa}{S:Nat->Prop}{A:Option Addr}{n c:Nat}{l pre post:List Dot}{m:Dot}(d:Sl markT w S (.slice A n c) l)(hb:Ext w wr)(e:l=pre++m::post) :
  ∃b o,A=some ⟨b,o,none⟩/\wr.cell? ⟨b,o+pre.length * 2,none⟩=some (St m.1)/\wr.cell? ⟨b,o+pre.length * 2+1,none⟩=some (U m.2):=by
 obtain⟨b,o,vs,g,f,h,rfl,a⟩:=d.at_ e;injection f with e1 e2 e3
 subst e1;exact⟨b,o,rfl,hb.cell (a 0 _ rfl),hb.cell (a 1 _ rfl)⟩
end
end Go.Proofs.YtaabaflgeljbjaaGreat
