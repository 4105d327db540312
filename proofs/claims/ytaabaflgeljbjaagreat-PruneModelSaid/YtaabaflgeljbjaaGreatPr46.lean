/- Laws. -/
import Derived.Test.YtaabaflgeljbjaaGreatPr36
import Derived.Test.YtaabaflgeljbjaaGreatPr39
import Derived.Deep.OwnRows
import Derived.Laws.OwnMore
set_option linter.unusedVariables false
set_option linter.unusedSimpArgs false
set_option maxRecDepth 100000
set_option maxHeartbeats 40000000
namespace Go.Proofs.YtaabaflgeljbjaaGreat
open Go.Value renaming slice→Xa,pointer→Xb,bool→Xc
open Go.Obj renaming cells→Xd
open Go renaming World→Xe,Value→Xf
open Ext renaming refl→Xg
open Go renaming undef→Qa
open List renaming getElem?_eq_getElem→Qb,mem_of_getElem?→Qe,getElem?_eq_some_iff→Qg,getElem?_map→Qh,length_map→Qi,replicate→Qj
open Nat renaming le_refl→Qc,le_of_lt→Qd,lt_succ_of_lt→Qf
section
open Go.RowKit Go.Shelf
theorem ykd (W:Xe)(z:Xf)(n:Nat)(T:TypeId):RowIs (W.alloc (Xd (madeCells #[z] n) T)) W.heap.size T (Qj n z) []:=by
 unfold RowIs;rw[List.append_nil,Go.heap_alloc_new,show madeCells #[z] n=(Qj n z).toArray from ?_];refine Array.ext (by simp[madeCells]) fun i h1 a=>?_
 simp[madeCells,Nat.mod_one]
theorem yht {w:Xe}{S:Nat->Prop}{A:Option Addr}{n c k:Nat}{l pre post:List Ev}{m:Ev}(e:Sl evT w S (Xa A n c) l)(f:l=pre++m::post)(g:pre.length=k) :
  ∃b o v,A=some ⟨b,o,none⟩/\Sl zvd w S v m.kn/\∀a,Ext w a->a.cell? ⟨b,o+k * 5,none⟩=some (St m.key)/\a.cell? ⟨b,o+k * 5+1,none⟩=some (I m.n)/\a.cell? ⟨b,o+k * 5+2,none⟩=some (K8 m.op) /\
   a.cell? ⟨b,o+k * 5+3,none⟩=some (St m.tx)/\a.cell? ⟨b,o+k * 5+4,none⟩=some v:=by
 subst g;obtain⟨b,o,vs,i,h,j,⟨v,rfl,hk⟩,d⟩:=e.at_ f;injection h with e1 e2 e3
 subst e1;exact⟨b,o,v,rfl,hk,fun a hb=>⟨hb.cell (d 0 _ rfl),hb.cell (d 1 _ rfl),hb.cell (d 2 _ rfl),hb.cell (d 3 _ rfl),hb.cell (d 4 _ rfl)⟩⟩
theorem ygx {α:Type}{l:List α}{m:Nat}{e:α}(a:l[m]? = some e):l=l.take m++e::l.drop (m+1)/\(l.take m).length=m:=by
 obtain⟨h1,b⟩:=Qg.1 a;exact⟨by rw[<- b,List.getElem_cons_drop,List.take_append_drop],by rw[List.length_take];omega⟩
theorem yhu {w wr:Xe}{S:Nat->Prop}{A:Option Addr}{n c i:Nat}{l:List Bool}{b:Bool}(a:Sl zvd w S (Xa A n c) l)(e:Ext w wr)(hi:l[i]? = some b):∃g o,A=some ⟨g,o,none⟩/\wr.cell? ⟨g,o+i,none⟩=some (Xc b):=by
 obtain⟨h,f⟩:=ygx hi;obtain⟨g,o,vs,m,j,-,rfl,d⟩:=a.at_ h;injection j with e1 e2 e3
 subst e1;refine⟨g,o,rfl,e.cell ?_⟩;have:=d 0 _ rfl;rw[f,show zvd.k=1 from rfl,Nat.mul_one,Nat.add_zero]at this;exact this
theorem yik:IntKind.u8.wrap (((({ data:=#[97] }:ByteArray)[0]).toNat:Int)-97)=0:=by decide
theorem yil:IntKind.u8.wrap (((({ data:=#[98] }:ByteArray)[0]).toNat:Int)-97)=1:=by decide
attribute [local go_sem] yik yil
def yg1:List Bool->Code->Code
 | [],c=>c
 | false::p,.seq a _=>yg1 p a
 | true::p,.seq _ b=>yg1 p b
 | _::p,.block _ c=>yg1 p c
 | _::p,.loop c=>yg1 p c
 | false::p,.cond _ a _=>yg1 p a
 | true::p,.cond _ _ b=>yg1 p b
 | _,c=>c
def yg4:Option Nat->Int
 | none=>-1
 | some j=>j
structure ModAt (w wr:Xe) (E:List Ev) (V:Vec) (m:Nat) (j:Option Nat) (a b:Bool):Prop where
 last:ygw E V m j
 low:∀i,j=some i->i<m
 row:RowIs wr (w.heap.size+1+1) 3 (rowM E m) []
 box:RowIs wr (w.heap.size+1) 125 [Xc a,Xc b] []
 res:RowIs wr w.heap.size 125 [Xc false,Xc false] []
 ha:a=true↔ygu E V m [97]
 hb:b=true↔ygu E V m [98]
 ext:Ext w wr
structure ModIn (w wr:Xe) (X:List Xf) (a b:Bool):Prop where
 row:RowIs wr (w.heap.size+1+1) 3 X []
 box:RowIs wr (w.heap.size+1) 125 [Xc a,Xc b] []
 res:RowIs wr w.heap.size 125 [Xc false,Xc false] []
 ext:Ext w wr
theorem ModIn.on {w wr W:Xe}{e:List Xf}{a b:Bool}(c:ModIn w wr e a b)(d:Ext wr W):ModIn w W e a b:=⟨c.row.ext d,c.box.ext d,c.res.ext d,c.ext.trans d⟩
theorem ModIn.set {w wr:Xe}{d:List Xf}{a b:Bool}(c:ModIn w wr d a b){m:Nat}(e:m<d.length)(v:Xf):ModIn w (wr.setCell ⟨w.heap.size+1+1,m,none⟩ v) (d.set m v) a b :=
 ⟨c.row.set e v,c.box.other (by simp) v,c.res.other (by simp;omega) v,c.ext.set (by simp;omega) v⟩
theorem yhj {E:List Ev}{V:Vec}{m:Nat}{e:Ev}(b:E[m]? = some e)(a:¬(zao V e=true/\e.op=1)):sumM V (E.take (m+1))=sumM V (E.take m):=by rw[yg6 b,yhp,zN a,Int.add_zero]
theorem yko {E:List Ev}{V:Vec}{m:Nat}{e:Ev}(b:E[m]? = some e)(a:zao V e=true/\e.op=1):sumM V (E.take (m+1))=sumM V (E.take m)+e.n:=by rw[yg6 b,yhp,zP a]
theorem yg9 {E:List Ev}{V:Vec}{m:Nat}{e:Ev}(b:E[m]? = some e)(a:¬(zao V e=true/\e.op=2))(t:Str):ygu E V (m+1) t↔ygu E V m t:=by
 rw[yg0 b];exact⟨fun k=>k.elim id fun k=>absurd ⟨k.1,k.2.1⟩ a,.inl⟩
theorem ModAt.keep {w wr W:Xe}{E:List Ev}{V:Vec}{m:Nat}{j:Option Nat}{a b:Bool}{e:Ev}(c:ModAt w wr E V m j a b)(hi:ModIn w W (rowM E (m+1)) a b)(d:E[m]? = some e)(g:¬(zao V e=true/\e.op=4))(f:¬(zao V e=true/\e.op=2)):ModAt w W E V (m+1) j a b :=
 ⟨yhx c.last d g,fun i hi=>Qf (c.low i hi),hi.row,hi.box,hi.res,c.ha.trans (yg9 d f _).symm,c.hb.trans (yg9 d f _).symm,hi.ext⟩
theorem ModAt.put {w wr W:Xe}{E:List Ev}{V:Vec}{m:Nat}{j:Option Nat}{a b c d:Bool}{e:Ev}(f:ModAt w wr E V m j a b)(hi:ModIn w W (rowM E (m+1)) c d)(h:E[m]? = some e)(g:¬(zao V e=true/\e.op=4))(ha:c=true↔ygu E V (m+1) [97])(hb:d=true↔ygu E V (m+1) [98]):ModAt w W E V (m+1) j c d :=
 ⟨yhx f.last h g,fun i hi=>Qf (f.low i hi),hi.row,hi.box,hi.res,ha,hb,hi.ext⟩
theorem ModAt.write {w wr W:Xe}{E:List Ev}{V:Vec}{m:Nat}{j:Option Nat}{a b:Bool}{e:Ev}{i:Nat}(c:ModAt w wr E V m j a b)(hi:ModIn w W (rowM E (m+1)) a b)(d:E[m]? = some e)(g:e.op=4)(f:ygw E V (m+1) (some i))(h:i<=m):ModAt w W E V (m+1) (some i) a b :=
 ⟨f,fun i hi=>by cases hi;omega,hi.row,hi.box,hi.res,c.ha.trans (yg9 d (by omega) _).symm,c.hb.trans (yg9 d (by omega) _).symm,hi.ext⟩
theorem ModIn.set0 {w wr:Xe}{X:List Xf}{a b:Bool}(h:ModIn w wr X a b)(v:Bool):ModIn w (wr.setCell ⟨w.heap.size+1,0,none⟩ (Xc v)) X v b :=
 ⟨h.row.other (by simp) _,h.box.set (j:=0) (by simp) _,h.res.other (by simp) _,h.ext.set (by simp) _⟩
theorem ModIn.set1 {w wr:Xe}{X:List Xf}{a b:Bool}(h:ModIn w wr X a b)(v:Bool):ModIn w (wr.setCell ⟨w.heap.size+1,1,none⟩ (Xc v)) X a v :=
 ⟨h.row.other (by simp) _,h.box.set (j:=1) (by simp) _,h.res.other (by simp) _,h.ext.set (by simp) _⟩
end
section
open Go.RowKit Go.Shelf
attribute [local go_sem] yik yil
theorem yju {E:List Ev}{V:Vec}{S S':Nat->Prop}{w wr F:Xe}{c c2 m i l g U:Nat}{au:Xf}{j:Option Nat}{a b:Bool}{e:Ev}{u13 u14 u15 u19 u20 u21 u22 u23 u24 u25 u26 u27 u28 u29 u30 u31 u32 u33 u34 u35 u36 u37 u38 u39 u40 u41 u42 u43 u44 u45 u46 u47 u48 u49 u50 u51 u52 u53 u54 u55 u56 u57 u58 u59 u60 u61 u62 u63 u64 u65 u66 u67 u68 u69 u70 u71 u72 u73 u74 u75 u76 u77 u78 u79 u80 u81 u82 u83 u84 u85 u86 u87 u88 u89 u90 u91 u92 u93 u94 u95 u96 u97 u98 u99 u100 u101 u102 u103 u104 u105 u106 u107 u108 u109 u110 u111 u112 u113 u114 u115 u116 u117 u118 u119 u120 u121 u122 u123 u124 u125 u126 u127 u128 u129 u130 u131 u132 u133 u134 u135 u136 u137 u138 u139 u140 u141 u142 u143 u144 u145 u146 u147 u148 u149 u150 u151 u152 u153 u154 u155 u156 u157 u158 u159 u160 u161 u162 u163 u164 u165 u166 u167 u168 u169 u170 u171 u172 u173 u174 u175 u176 u177 u178 u179 u180 u181 u182 u183 u184 u185 u186 u187 u188 u189 u190 u191 u192 u193 u194 u195 u196 u197:Xf}{Q:Exit->Act->Xe->Prop}(bi:E.length<=200)(L:HistOk E)(f:Sl evT w S (Xa (some ⟨i,l,none⟩) E.length c) E)(aj:Sl zvd w S' (Xa (some ⟨g,U,none⟩) E.length c2) (E.map (zao V)))(M:E[m]? = some e)(a5:m<E.length)(ad:ModAt w wr E V m j a b)(hi:ModIn w F (rowM E (m+1)) a b)(ai:zao V e=true)(R:e.op=2)(N:∀v,Ext w v->v.cell? ⟨i,l+m * 5,none⟩=some (St e.key)/\v.cell? ⟨i,l+m * 5+1,none⟩=some (I e.n)/\v.cell? ⟨i,l+m * 5+2,none⟩=some (K8 e.op)/\v.cell? ⟨i,l+m * 5+3,none⟩=some (St e.tx)/\v.cell? ⟨i,l+m * 5+4,none⟩=some au)(ae:∀ ⦃u13 u14 u15 u19 u20 u21 u22 u23 u24 u25 u26 u27 u28 u29 u30 u31 u32 u33 u34 u35 u36 u37 u38 u39 u40 u41 u42 u43 u44 u45 u46 u47 u48 u49 u50 u51 u52 u53 u54 u55 u56 u57 u58 u59 u60 u61 u62 u63 u64 u65 u66 u67 u68 u69 u70 u71 u72 u73 u74 u75 u76 u77 u78 u79 u80 u81 u82 u83 u84 u85 u86 u87 u88 u89 u90 u91 u92 u93 u94 u95 u96 u97 u98 u99 u100 u101 u102 u103 u104 u105 u106 u107 u108 u109 u110 u111 u112 u113 u114 u115 u116 u117 u118 u119 u120 u121 u122 u123 u124 u125 u126 u127 u128 u129 u130 u131 u132 u133 u134 u135 u136 u137 u138 u139 u140 u141 u142 u143 u144 u145 u146 u147 u148 u149 u150 u151 u152 u153 u154 u155 u156 u157 u158 u159 u160 u161 u162 u163 u164 u165 u166 u167 u168 u169 u170 u171 u172 u173 u174 u175 u176 u177 u178 u179 u180 u181 u182 u183 u184 u185 u186 u187 u188 u189 u190 u191 u192 u193 u194 u195 u196 u197:Xf⦄ ⦃ab:Xe⦄ ⦃ao:Option Nat⦄ ⦃p a0:Bool⦄,ModAt w ab E V (m+1) ao p a0->Q .normal ⟨#[Xa (some ⟨i,l,none⟩) E.length c,Xa (some ⟨g,U,none⟩) E.length c2,Qa,Qa,.int .i64 0,Xb (some ⟨w.heap.size,0,none⟩),.string { data:=#[] },Xc false,I (sumM V (E.take m)),Xb (some ⟨w.heap.size+1,0,none⟩),Xa (some ⟨w.heap.size+1+1,0,none⟩) E.length E.length,I (yg4 ao),I m,u13,u14,u15,Xa (some ⟨i,l,none⟩) E.length c,.int .i64 (E.length:Int),Xa (some ⟨w.heap.size+1+1,0,none⟩) E.length E.length,u19,u20,u21,u22,u23,u24,u25,u26,u27,u28,u29,u30,u31,u32,u33,u34,u35,u36,u37,u38,u39,u40,u41,u42,u43,u44,u45,u46,u47,u48,u49,u50,u51,u52,u53,u54,u55,u56,u57,u58,u59,u60,u61,u62,u63,u64,u65,u66,u67,u68,u69,u70,u71,u72,u73,u74,u75,u76,u77,u78,u79,u80,u81,u82,u83,u84,u85,u86,u87,u88,u89,u90,u91,u92,u93,u94,u95,u96,u97,u98,u99,u100,u101,u102,u103,u104,u105,u106,u107,u108,u109,u110,u111,u112,u113,u114,u115,u116,u117,u118,u119,u120,u121,u122,u123,u124,u125,u126,u127,u128,u129,u130,u131,u132,u133,u134,u135,u136,u137,u138,u139,u140,u141,u142,u143,u144,u145,u146,u147,u148,u149,u150,u151,u152,u153,u154,u155,u156,u157,u158,u159,u160,u161,u162,u163,u164,u165,u166,u167,u168,u169,u170,u171,u172,u173,u174,u175,u176,u177,u178,u179,u180,u181,u182,u183,u184,u185,u186,u187,u188,u189,u190,u191,u192,u193,u194,u195,u196,u197,Qa,Qa,Qa,Qa,Qa,Qa,Qa,Qa,Qa,Qa,Qa],[]⟩ ab) :
  (yg1 [true,true,true,true,true,false,true,true,true,true,false,true,true,true,true] (Tryz.f56.body.getD .skip)).wp Tryz.prog Q ⟨#[Xa (some ⟨i,l,none⟩) E.length c,Xa (some ⟨g,U,none⟩) E.length c2,Qa,Qa,.int .i64 0,Xb (some ⟨w.heap.size,0,none⟩),.string { data:=#[] },Xc false,I (sumM V (E.take m)),Xb (some ⟨w.heap.size+1,0,none⟩),Xa (some ⟨w.heap.size+1+1,0,none⟩) E.length E.length,I (yg4 j),I m,u13,u14,u15,Xa (some ⟨i,l,none⟩) E.length c,.int .i64 (E.length:Int),Xa (some ⟨w.heap.size+1+1,0,none⟩) E.length E.length,u19,u20,u21,u22,u23,u24,u25,u26,u27,u28,u29,u30,u31,u32,u33,u34,u35,u36,u37,u38,u39,u40,u41,u42,u43,u44,u45,u46,u47,u48,u49,u50,u51,u52,u53,u54,u55,u56,u57,u58,u59,u60,u61,u62,u63,u64,u65,u66,u67,u68,u69,u70,u71,u72,u73,u74,u75,u76,u77,u78,u79,u80,u81,u82,u83,u84,u85,u86,u87,u88,u89,u90,u91,u92,u93,u94,u95,u96,u97,u98,u99,u100,u101,u102,u103,u104,u105,u106,u107,u108,u109,u110,u111,u112,u113,u114,u115,u116,u117,u118,u119,u120,u121,u122,u123,u124,u125,u126,u127,u128,u129,u130,u131,u132,u133,u134,u135,u136,u137,u138,u139,u140,u141,u142,u143,u144,u145,u146,u147,u148,u149,u150,u151,u152,u153,u154,u155,u156,u157,u158,u159,u160,u161,u162,u163,u164,u165,u166,u167,u168,u169,u170,u171,u172,u173,u174,u175,u176,u177,u178,u179,u180,u181,u182,u183,u184,u185,u186,u187,u188,u189,u190,u191,u192,u193,u194,u195,u196,u197,Qa,Qa,Qa,Qa,Qa,Qa,Qa,Qa,Qa,Qa,Qa],[]⟩ F:=by
 simp only[Tryz.f56,Option.getD_some,yg1];have H:=zH L;have av:=zH f;have ax:=zH aj;have s:=zH M;have t:=zH ad;have d:=zH hi;have Z:=zH ai;have B:=zH R;have X:=zH N;have aa:=zH ae;have ay:=zH (L.ok e (Qe M));obtain⟨f0,f1,J,D,ac⟩:=N F hi.ext;rw[R]at J;clear L f aj M ad hi ai R N ae;go_wp2_with fail;obtain⟨w0,a6⟩:∃W:Xe,W=F:=⟨_,rfl⟩
 subst a6
 go_loopw [14,15] (fun g k a8=>∃(kk:Nat) (h:Bool),g=Xc h/\k=I kk/\m<kk/\kk<=E.length/\(h=true↔yhs E V m e.tx kk)/\ModIn w a8 (rowM E (m+1)) a b) (fun _ k _=>E.length-(intOf k).toNat)
 case atStart=>exact⟨m+1,false,rfl,by simp,by omega,a5,⟨fun K=>(by cases K),fun K=>absurd K (yi3 E V m e.tx)⟩,d.out⟩
 obtain⟨kk,h,rfl,rfl,an,bh,ah,hi⟩:=hrel;have d:=zH hi;have G:=zH ah;clear hi ah
 by_cases af:kk<E.length
 ·obtain⟨x,r⟩:∃x,E[kk]? = some x:=⟨_,Qb af⟩
  have az:=zH r;obtain⟨bc,bo,v2,a1,T,ag⟩:=yht av.out (ygx r).1 (ygx r).2;cases a1;obtain⟨a9,bd,rfl,-,-⟩:=T.form;have ak:(E.map (zao V))[kk]? = some (zao V x):=(by rw[Qh,r];rfl);obtain⟨kb,O⟩:∃b,x.kn[m]? = some b:=⟨_,Qb (by rw[H.out.len kk x r];exact an)⟩
  obtain⟨u,q⟩:∃W,wr.drew=W:=⟨_,rfl⟩
  have A:Ext wr u:=(by rw[<- q];exact(Xg _).drew);have C:=zH q;clear q;have d:=zH (d.out.on A);obtain⟨bj,bk,bm,bn,a7⟩:=ag u d.out.ext;obtain⟨f0,f1,J,D,ac⟩:=X.out u d.out.ext;obtain⟨be,bp,a2,a3⟩:=yhu ax.out d.out.ext ak;cases a2;obtain⟨bf,bq,rfl,bg⟩:=yhu T d.out.ext O;obtain⟨aq,P⟩:∃b,zao V x=b:=⟨_,rfl⟩
  obtain⟨ar,al⟩:∃b,(x.key==keyA)=b:=⟨_,rfl⟩
  obtain⟨ap,a4⟩:∃b,(x.tx==e.tx)=b:=⟨_,rfl⟩
  have aw:Hid ((h||(aq&&(ar&&(ap&&kb))))=true↔yhs E V m e.tx (kk+1)):=zH (by rw[yjg an az.out,<- G.out,P,<- beq_iff_eq (a:=x.key),al,<- beq_iff_eq (a:=x.tx),a4,O];simp);rw[P]at a3;rw[show keyA = [64,115]from rfl]at al;have am:=H.out.len kk x r;rw[am]at a7;clear r T ag ak O A P am;go_wp2_with fail;cases h;case' false=>(cases aq;case' true=>(cases ar;case' true=>(cases ap;case' true=>cases kb)))
  all_goals(
   refine wp_region_still_tail 37 (by kernel_rfl) (by kernel_rfl) ?_
   simp only[zD];change wpStill _ _ wr.drew (fun p=>wpList _ _ _ _ p wr.drew) _ _;rw[C.out];generalize f:Act.mk _ _=A0;repeat (refine wpStill_step (fun z o=>?_);subst f;go_simp;(try rw[zN (by decide)]);generalize f:Act.mk _ _=A0;refine o A0 ?_;clear o z)
   refine wpStill_nil ?_;subst f;go_wp2_with fail;go_roundw
   case rel=>exact⟨kk+1,_,rfl,by simp,by omega,af,aw.out,d.out⟩
   case measure=>simp[intOf];omega)
 obtain rfl:kk=E.length:=by omega
 have Y:=zH (G.out.trans (yjq H.out.toHist V m e.tx));obtain⟨u,q⟩:∃W,wr.drew=W:=⟨_,rfl⟩
 have A:Ext wr u:=(by rw[<- q];exact(Xg _).drew);have C:=zH q;clear q;have d:=zH (d.out.on A);obtain⟨f0,f1,J,D,ac⟩:=X.out u d.out.ext;have ba:=d.out.box.cell (j:=0) rfl;have bb:=d.out.box.cell (j:=1) rfl;have br:=d.out.box.frozen 0;have q1:=d.out.box.frozen 1;clear A G;go_wp2_with fail;rcases ay.out.text with ht|ht
 ·rw[ht]at D;have y:Hid (((a || !h)=true↔ygu E V (m+1) [97])/\(b=true↔ygu E V (m+1) [98])):=zH ⟨by rw[yg0 s.out,<- t.out.ha,Z.out,B.out,ht,<- ht,<- Y.out];cases a<;>cases h<;>simp,by rw[yg0 s.out,<- t.out.hb,ht];simp⟩;clear ht;cases a;case' false=>cases h
  all_goals(
   refine wp_region_still_tail 21 (by kernel_rfl) (by kernel_rfl) ?_
   simp only[zD];change wpStill _ _ wr.drew (fun p=>wpList _ _ _ _ p wr.drew) _ _;rw[C.out];generalize f:Act.mk _ _=A0;repeat (refine wpStill_step (fun z o=>?_);subst f;go_simp;(try rw[zN (by decide)]);generalize f:Act.mk _ _=A0;refine o A0 ?_;clear o z)
   refine wpStill_nil ?_;subst f;go_wp2_with fail;exact aa.out (t.out.put (d.out.set0 _) s.out (by rw[B.out];simp) y.out.1 y.out.2))
 rw[ht]at D;have y:Hid (((b || !h)=true↔ygu E V (m+1) [98])/\(a=true↔ygu E V (m+1) [97])):=zH ⟨by rw[yg0 s.out,<- t.out.hb,Z.out,B.out,ht,<- ht,<- Y.out];cases b<;>cases h<;>simp,by rw[yg0 s.out,<- t.out.ha,ht];simp⟩;clear ht;cases b;case' false=>cases h
 all_goals(
  refine wp_region_still_tail 21 (by kernel_rfl) (by kernel_rfl) ?_
  simp only[zD];change wpStill _ _ wr.drew (fun p=>wpList _ _ _ _ p wr.drew) _ _;rw[C.out];generalize f:Act.mk _ _=A0;repeat (refine wpStill_step (fun z o=>?_);subst f;go_simp;(try rw[zN (by decide)]);generalize f:Act.mk _ _=A0;refine o A0 ?_;clear o z)
  refine wpStill_nil ?_;subst f;go_wp2_with fail;exact aa.out (t.out.put (d.out.set1 _) s.out (by rw[B.out];simp) y.out.2 y.out.1))
end
section
open Go.RowKit Go.Shelf
attribute [local go_sem] yik yil
theorem yi6 {E:List Ev}{V:Vec}{S S':Nat->Prop}{w wr l:Xe}{c c2 m t u g Z:Nat}{ak:Xf}{j:Option Nat}{a b:Bool}{e:Ev}{u13 u14 u15 u19 u20 u21 u22 u23 u24 u25 u26 u27 u28 u29 u30 u31 u32 u33 u34 u35 u36 u37 u38 u39 u40 u41 u42 u43 u44 u45 u46 u47 u48 u49 u50 u51 u52 u53 u54 u55 u56 u57 u58 u59 u60 u61 u62 u63 u64 u65 u66 u67 u68 u69 u70 u71 u72 u73 u74 u75 u76 u77 u78 u79 u80 u81 u82 u83 u84 u85 u86 u87 u88 u89 u90 u91 u92 u93 u94 u95 u96 u97 u98 u99 u100 u101 u102 u103 u104 u105 u106 u107 u108 u109 u110 u111 u112 u113 u114 u115 u116 u117 u118 u119 u120 u121 u122 u123 u124 u125 u126 u127 u128 u129 u130 u131 u132 u133 u134 u135 u136 u137 u138 u139 u140 u141 u142 u143 u144 u145 u146 u147 u148 u149 u150 u151 u152 u153 u154 u155 u156 u157 u158 u159 u160 u161 u162 u163 u164 u165 u166 u167 u168 u169 u170 u171 u172 u173 u174 u175 u176 u177 u178 u179 u180 u181 u182 u183 u184 u185 u186 u187 u188 u189 u190 u191 u192 u193 u194 u195 u196 u197:Xf}{Q:Exit->Act->Xe->Prop}(bb:E.length<=200)(O:HistOk E)(h:Sl evT w S (Xa (some ⟨t,u,none⟩) E.length c) E)(ah:Sl zvd w S' (Xa (some ⟨g,Z,none⟩) E.length c2) (E.map (zao V)))(R:E[m]? = some e)(ai:m<E.length)(ad:ModAt w wr E V m j a b)(hi:ModIn w l (rowM E (m+1)) a b)(ag:zao V e=true)(U:e.op=4)(T:∀C,Ext w C->C.cell? ⟨t,u+m * 5,none⟩=some (St e.key)/\C.cell? ⟨t,u+m * 5+1,none⟩=some (I e.n)/\C.cell? ⟨t,u+m * 5+2,none⟩=some (K8 e.op)/\C.cell? ⟨t,u+m * 5+3,none⟩=some (St e.tx)/\C.cell? ⟨t,u+m * 5+4,none⟩=some ak)(ae:∀ ⦃u13 u14 u15 u19 u20 u21 u22 u23 u24 u25 u26 u27 u28 u29 u30 u31 u32 u33 u34 u35 u36 u37 u38 u39 u40 u41 u42 u43 u44 u45 u46 u47 u48 u49 u50 u51 u52 u53 u54 u55 u56 u57 u58 u59 u60 u61 u62 u63 u64 u65 u66 u67 u68 u69 u70 u71 u72 u73 u74 u75 u76 u77 u78 u79 u80 u81 u82 u83 u84 u85 u86 u87 u88 u89 u90 u91 u92 u93 u94 u95 u96 u97 u98 u99 u100 u101 u102 u103 u104 u105 u106 u107 u108 u109 u110 u111 u112 u113 u114 u115 u116 u117 u118 u119 u120 u121 u122 u123 u124 u125 u126 u127 u128 u129 u130 u131 u132 u133 u134 u135 u136 u137 u138 u139 u140 u141 u142 u143 u144 u145 u146 u147 u148 u149 u150 u151 u152 u153 u154 u155 u156 u157 u158 u159 u160 u161 u162 u163 u164 u165 u166 u167 u168 u169 u170 u171 u172 u173 u174 u175 u176 u177 u178 u179 u180 u181 u182 u183 u184 u185 u186 u187 u188 u189 u190 u191 u192 u193 u194 u195 u196 u197:Xf⦄ ⦃ab:Xe⦄ ⦃aj:Option Nat⦄ ⦃o ao:Bool⦄,ModAt w ab E V (m+1) aj o ao->Q .normal ⟨#[Xa (some ⟨t,u,none⟩) E.length c,Xa (some ⟨g,Z,none⟩) E.length c2,Qa,Qa,.int .i64 0,Xb (some ⟨w.heap.size,0,none⟩),.string { data:=#[] },Xc false,I (sumM V (E.take m)),Xb (some ⟨w.heap.size+1,0,none⟩),Xa (some ⟨w.heap.size+1+1,0,none⟩) E.length E.length,I (yg4 aj),I m,u13,u14,u15,Xa (some ⟨t,u,none⟩) E.length c,.int .i64 (E.length:Int),Xa (some ⟨w.heap.size+1+1,0,none⟩) E.length E.length,u19,u20,u21,u22,u23,u24,u25,u26,u27,u28,u29,u30,u31,u32,u33,u34,u35,u36,u37,u38,u39,u40,u41,u42,u43,u44,u45,u46,u47,u48,u49,u50,u51,u52,u53,u54,u55,u56,u57,u58,u59,u60,u61,u62,u63,u64,u65,u66,u67,u68,u69,u70,u71,u72,u73,u74,u75,u76,u77,u78,u79,u80,u81,u82,u83,u84,u85,u86,u87,u88,u89,u90,u91,u92,u93,u94,u95,u96,u97,u98,u99,u100,u101,u102,u103,u104,u105,u106,u107,u108,u109,u110,u111,u112,u113,u114,u115,u116,u117,u118,u119,u120,u121,u122,u123,u124,u125,u126,u127,u128,u129,u130,u131,u132,u133,u134,u135,u136,u137,u138,u139,u140,u141,u142,u143,u144,u145,u146,u147,u148,u149,u150,u151,u152,u153,u154,u155,u156,u157,u158,u159,u160,u161,u162,u163,u164,u165,u166,u167,u168,u169,u170,u171,u172,u173,u174,u175,u176,u177,u178,u179,u180,u181,u182,u183,u184,u185,u186,u187,u188,u189,u190,u191,u192,u193,u194,u195,u196,u197,Qa,Qa,Qa,Qa,Qa,Qa,Qa,Qa,Qa,Qa,Qa],[]⟩ ab) :
  (yg1 [true,true,true,true,true,false,true,true,true,true,false,true,true,true,true] (Tryz.f56.body.getD .skip)).wp Tryz.prog Q ⟨#[Xa (some ⟨t,u,none⟩) E.length c,Xa (some ⟨g,Z,none⟩) E.length c2,Qa,Qa,.int .i64 0,Xb (some ⟨w.heap.size,0,none⟩),.string { data:=#[] },Xc false,I (sumM V (E.take m)),Xb (some ⟨w.heap.size+1,0,none⟩),Xa (some ⟨w.heap.size+1+1,0,none⟩) E.length E.length,I (yg4 j),I m,u13,u14,u15,Xa (some ⟨t,u,none⟩) E.length c,.int .i64 (E.length:Int),Xa (some ⟨w.heap.size+1+1,0,none⟩) E.length E.length,u19,u20,u21,u22,u23,u24,u25,u26,u27,u28,u29,u30,u31,u32,u33,u34,u35,u36,u37,u38,u39,u40,u41,u42,u43,u44,u45,u46,u47,u48,u49,u50,u51,u52,u53,u54,u55,u56,u57,u58,u59,u60,u61,u62,u63,u64,u65,u66,u67,u68,u69,u70,u71,u72,u73,u74,u75,u76,u77,u78,u79,u80,u81,u82,u83,u84,u85,u86,u87,u88,u89,u90,u91,u92,u93,u94,u95,u96,u97,u98,u99,u100,u101,u102,u103,u104,u105,u106,u107,u108,u109,u110,u111,u112,u113,u114,u115,u116,u117,u118,u119,u120,u121,u122,u123,u124,u125,u126,u127,u128,u129,u130,u131,u132,u133,u134,u135,u136,u137,u138,u139,u140,u141,u142,u143,u144,u145,u146,u147,u148,u149,u150,u151,u152,u153,u154,u155,u156,u157,u158,u159,u160,u161,u162,u163,u164,u165,u166,u167,u168,u169,u170,u171,u172,u173,u174,u175,u176,u177,u178,u179,u180,u181,u182,u183,u184,u185,u186,u187,u188,u189,u190,u191,u192,u193,u194,u195,u196,u197,Qa,Qa,Qa,Qa,Qa,Qa,Qa,Qa,Qa,Qa,Qa],[]⟩ l:=by
 simp only[Tryz.f56,Option.getD_some,yg1];have a5:=zH O;have al:=zH h;have a6:=zH ah;have x:=zH R;have r:=zH ad;have p:=zH hi;have aa:=zH ag;have y:=zH U;have am:=zH T;have A:=zH ae;have a7:=zH (O.ok e (Qe R));obtain⟨f0,f1,ac,ap,L⟩:=T l hi.ext;rw[U]at ac;clear O h ah R ad hi ag U T ae;obtain⟨F,Y⟩:∃s,zc6 E m=s:=⟨_,rfl⟩
 obtain⟨K,P⟩:∃W,l.drew=W:=⟨_,rfl⟩
 have ax:Ext l K:=by rw[<- P];exact(Xg _).drew
 have B:=zH P;clear P;have p:=zH (p.out.on ax);obtain⟨f0,f1,ac,ap,L⟩:=am.out K p.out.ext;have r1:=p.out.row.cell (yg5 (i:=m) (Nat.lt_succ_self m) ai);rw[Y]at r1;have an:=zH Y;clear Y
 cases j
 case none=>
  rw[show yg4 none = -1 from rfl];clear r1 f0 f1 L;go_wp2_with fail;refine wp_region_still_tail 36 (by kernel_rfl) (by kernel_rfl) ?_;simp only[zD];change wpStill _ _ l.drew (fun o=>wpList _ _ _ _ o l.drew) _ _;rw[B.out];generalize h:Act.mk _ _=A0;repeat (refine wpStill_step (fun q k=>?_);subst h;go_simp;(try rw[zN (by decide)]);generalize h:Act.mk _ _=A0;refine k A0 ?_;clear k q)
  refine wpStill_nil ?_;subst h;go_wp2_with fail;exact A.out (r.out.write p.out x.out y.out (yio r.out.last x.out aa.out y.out) (Qc m))
 rename_i z
 rw[show yg4 (some z)=(z:Int)from rfl];have J:z<m:=r.out.low z rfl;obtain⟨f,H,ay⟩:=r.out.last;obtain⟨a8,bd,v2,aw,bc,af⟩:=yht al.out (ygx H).1 (ygx H).2;cases aw;obtain⟨az,a0,a1,a2,a3⟩:=af K p.out.ext;obtain⟨D,X⟩:∃s,zc6 E z=s:=⟨_,rfl⟩
 have a4:=p.out.row.cell (yg5 (i:=z) (Qf J) ai);rw[X]at a4;have v:=yi5 r.out.last x.out H aa.out y.out;rw[an.out,X]at v;have v:=zH v;have a9:((z:Int)<0)=False:=eq_false (by omega);have ba:z<E.length:=by omega
 clear H ay af X az a0 a1 a3 f0 f1 L;go_wp2_with fail
 by_cases h1:D<F
 ·have aq:(F:Int)>D:=(by omega);refine wp_region_still_tail 36 (by kernel_rfl) (by kernel_rfl) ?_;simp only[zD];change wpStill _ _ l.drew (fun o=>wpList _ _ _ _ o l.drew) _ _;rw[B.out];generalize h:Act.mk _ _=A0;repeat (refine wpStill_step (fun q k=>?_);subst h;go_simp;(try rw[zN (by decide)]);generalize h:Act.mk _ _=A0;refine k A0 ?_;clear k q)
  refine wpStill_nil ?_;subst h;go_wp2_with fail;exact A.out (r.out.write p.out x.out y.out (by have d:=v.out;rw[zP (.inl h1)]at d;exact d) (Qc m))
 have aq:decide ((D:Int)<F)=false:=by simp;omega
 by_cases M:D=F
 ·have ar:((F:Int)==D)=true:=(by simp[M]);rcases zfp f.tx e.tx with⟨G,N,au,av,-⟩|G|⟨G,N,au,av,-⟩
  ·skip
   refine wp_region_still_tail 36 (by kernel_rfl) (by kernel_rfl) ?_;simp only[zD];change wpStill _ _ l.drew (fun o=>wpList _ _ _ _ o l.drew) _ _;rw[B.out];generalize h:Act.mk _ _=A0;repeat (refine wpStill_step (fun q k=>?_);subst h;go_simp;(try rw[zN (by decide)]);generalize h:Act.mk _ _=A0;refine k A0 ?_;clear k q)
   refine wpStill_nil ?_;subst h;go_wp2_with fail;exact A.out (r.out.write p.out x.out y.out (by have d:=v.out;rw[zP (.inr ⟨M,G⟩)]at d;exact d) (Qc m))
  ·have N:=zap e.tx;rw[G]at a2 v;refine wp_region_still_tail 36 (by kernel_rfl) (by kernel_rfl) ?_;simp only[zD];change wpStill _ _ l.drew (fun o=>wpList _ _ _ _ o l.drew) _ _;rw[B.out];generalize h:Act.mk _ _=A0;repeat (refine wpStill_step (fun q k=>?_);subst h;go_simp;(try rw[zN (by decide)]);generalize h:Act.mk _ _=A0;refine k A0 ?_;clear k q)
   refine wpStill_nil ?_;subst h;go_wp2_with fail;exact A.out (r.out.write p.out x.out y.out (by have d:=v.out;rw[zN (fun d=>d.elim h1 fun d=>by rw[N]at d;cases d.2)]at d;exact d) (Qd J))
  skip
  refine wp_region_still_tail 36 (by kernel_rfl) (by kernel_rfl) ?_;simp only[zD];change wpStill _ _ l.drew (fun o=>wpList _ _ _ _ o l.drew) _ _;rw[B.out];generalize h:Act.mk _ _=A0;repeat (refine wpStill_step (fun q k=>?_);subst h;go_simp;(try rw[zN (by decide)]);generalize h:Act.mk _ _=A0;refine k A0 ?_;clear k q)
  refine wpStill_nil ?_;subst h;go_wp2_with fail;exact A.out (r.out.write p.out x.out y.out (by have d:=v.out;rw[zN (fun d=>d.elim h1 fun d=>by rw[G]at d;cases d.2)]at d;exact d) (Qd J))
 have ar:((F:Int)==D)=false:=(by rw[beq_eq_false_iff_ne];omega);refine wp_region_still_tail 36 (by kernel_rfl) (by kernel_rfl) ?_;simp only[zD];change wpStill _ _ l.drew (fun o=>wpList _ _ _ _ o l.drew) _ _;rw[B.out];generalize h:Act.mk _ _=A0;repeat (refine wpStill_step (fun q k=>?_);subst h;go_simp;(try rw[zN (by decide)]);generalize h:Act.mk _ _=A0;refine k A0 ?_;clear k q)
 refine wpStill_nil ?_;subst h;go_wp2_with fail;exact A.out (r.out.write p.out x.out y.out (by have d:=v.out;rw[zN (fun d=>d.elim h1 fun d=>M d.1)]at d;exact d) (Qd J))
end
section
open Go.RowKit Go.Shelf
attribute [local go_sem] yik yil
theorem yjv {E:List Ev}{V:Vec}{b4 b5:Xf}{S S':Nat->Prop}{w:Xe}(a6:HistOk E)(ha:Sl evT w S b4 E)(hk:Sl zvd w S' b5 (E.map (zao V))) :
  Calls Tryz.prog 56 #[b4,b5] w fun r w'=>∃a b tx is,r=.returned (.tuple #[I (sumM V E),.agg #[Xc a,Xc b],St tx,Xc is])/\(a=true↔yg2 E V [97])/\(b=true↔yg2 E V [98])/\(∃j,ygw E V E.length j/\(tx,is)=yhr E j)/\Ext w w':=by
 obtain⟨A,c,rfl,-,-⟩:=ha.form;obtain⟨B,c2,rfl,-,-⟩:=hk.form;have bu:E.length<=200:=a6.most;have ac:=zH a6;have aj:=zH ha;have al:=zH hk;have cm:=run_make_row' (P:=Tryz.prog) 172 3 (I 0) 8 Tryz.underlying172 (by kernel_rfl) rfl .i64 .i64 E.length (by omega) (by omega);clear a6 ha hk;rw[Qi]at al;go_enter Tryz.func56,Tryz.ntmps56;simp only[Qi];have b0:Ext w (((w.alloc (Xd #[Xc false,Xc false] 125)).alloc (Xd #[Xc false,Xc false] 125)).alloc (Xd (madeCells #[I 0] E.length) 3)):=(((Xg w).alloc _).alloc _).alloc _;have b1:(w.alloc (Xd #[Xc false,Xc false] 125)).heap.size=w.heap.size+1:=by simp
 have b2:((w.alloc (Xd #[Xc false,Xc false] 125)).alloc (Xd #[Xc false,Xc false] 125)).heap.size=w.heap.size+1+1:=by simp
 have bf:Hid (ModAt w (((w.alloc (Xd #[Xc false,Xc false] 125)).alloc (Xd #[Xc false,Xc false] 125)).alloc (Xd (madeCells #[I 0] E.length) 3)) E V 0 none false false):=zH ⟨yi4 E V,fun i d=>(by cases d),by rw[yjr,<- b2];exact ykd _ _ _ _,by rw[<- b1];exact(zaf _ _ [Xc false,Xc false]).alloc _,((zaf w _ [Xc false,Xc false]).alloc _).alloc _,⟨fun d=>(by cases d),fun d=>absurd d (yhw E V _)⟩,⟨fun d=>(by cases d),fun d=>absurd d (yhw E V _)⟩,b0⟩;clear b0 b1 b2;go_wp2_with fail;clear cm
 go_loopw [8,11,12] (fun s q i wr=>∃(m:Nat) (j:Option Nat) (a b:Bool),i=I m/\m<=E.length/\s=I (sumM V (E.take m))/\q=I (yg4 j)/\ModAt w wr E V m j a b) (fun _ _ i _=>E.length-(intOf i).toNat)
 case atStart=>exact⟨0,none,false,false,rfl,Nat.zero_le _,rfl,rfl,bf.out⟩
 obtain⟨m,j,a,b,rfl,c0,rfl,rfl,bp⟩:=hrel;have y:=zH bp;clear bp bf
 by_cases C:m<E.length
 ·obtain⟨e,U⟩:∃e,E[m]? = some e:=⟨_,Qb C⟩
  have F:=zH U;have az:=zH (ac.out.ok e (Qe U));have ax:=zH (ac.out.len m e U);have b9:Hid ((E.map (zao V))[m]? = some (zao V e)):=zH (by rw[Qh,U];rfl);obtain⟨M,N,db,rfl,ba,bq⟩:=yht aj.out (ygx U).1 (ygx U).2;obtain⟨cq,cs,rfl,-,-⟩:=ba.form;have cc:=zH ba;have ab:=zH bq;clear U ba bq;refine wpH ?_;intro K ad;go_wp2_with fail;refine ad.out _ _ ?_;clear ad K;refine wp_seq_k ?_;intro bj a8
  have bn:∀ ⦃u13 u14 u15 u19 u20 u21 u22 u23 u24 u25 u26 u27 u28 u29 u30 u31 u32 u33 u34 u35 u36 u37 u38 u39 u40 u41 u42 u43 u44 u45 u46 u47 u48 u49 u50 u51 u52 u53 u54 u55 u56 u57 u58 u59 u60 u61 u62 u63 u64 u65 u66 u67 u68 u69 u70 u71 u72 u73 u74 u75 u76 u77 u78 u79 u80 u81 u82 u83 u84 u85 u86 u87 u88 u89 u90 u91 u92 u93 u94 u95 u96 u97 u98 u99 u100 u101 u102 u103 u104 u105 u106 u107 u108 u109 u110 u111 u112 u113 u114 u115 u116 u117 u118 u119 u120 u121 u122 u123 u124 u125 u126 u127 u128 u129 u130 u131 u132 u133 u134 u135 u136 u137 u138 u139 u140 u141 u142 u143 u144 u145 u146 u147 u148 u149 u150 u151 u152 u153 u154 u155 u156 u157 u158 u159 u160 u161 u162 u163 u164 u165 u166 u167 u168 u169 u170 u171 u172 u173 u174 u175 u176 u177 u178 u179 u180 u181 u182 u183 u184 u185 u186 u187 u188 u189 u190 u191 u192 u193 u194 u195 u196 u197:Xf⦄ ⦃a1:Xe⦄ ⦃au:Option Nat⦄ ⦃O a3:Bool⦄,ModAt w a1 E V (m+1) au O a3->bj ⟨#[Xa (some ⟨M,N,none⟩) E.length c,Xa B E.length c2,Qa,Qa,.int .i64 0,Xb (some ⟨w.heap.size,0,none⟩),.string { data:=#[] },Xc false,I (sumM V (E.take (m+1))),Xb (some ⟨w.heap.size+1,0,none⟩),Xa (some ⟨w.heap.size+1+1,0,none⟩) E.length E.length,I (yg4 au),I m,u13,u14,u15,Xa (some ⟨M,N,none⟩) E.length c,.int .i64 (E.length:Int),Xa (some ⟨w.heap.size+1+1,0,none⟩) E.length E.length,u19,u20,u21,u22,u23,u24,u25,u26,u27,u28,u29,u30,u31,u32,u33,u34,u35,u36,u37,u38,u39,u40,u41,u42,u43,u44,u45,u46,u47,u48,u49,u50,u51,u52,u53,u54,u55,u56,u57,u58,u59,u60,u61,u62,u63,u64,u65,u66,u67,u68,u69,u70,u71,u72,u73,u74,u75,u76,u77,u78,u79,u80,u81,u82,u83,u84,u85,u86,u87,u88,u89,u90,u91,u92,u93,u94,u95,u96,u97,u98,u99,u100,u101,u102,u103,u104,u105,u106,u107,u108,u109,u110,u111,u112,u113,u114,u115,u116,u117,u118,u119,u120,u121,u122,u123,u124,u125,u126,u127,u128,u129,u130,u131,u132,u133,u134,u135,u136,u137,u138,u139,u140,u141,u142,u143,u144,u145,u146,u147,u148,u149,u150,u151,u152,u153,u154,u155,u156,u157,u158,u159,u160,u161,u162,u163,u164,u165,u166,u167,u168,u169,u170,u171,u172,u173,u174,u175,u176,u177,u178,u179,u180,u181,u182,u183,u184,u185,u186,u187,u188,u189,u190,u191,u192,u193,u194,u195,u196,u197,Qa,Qa,Qa,Qa,Qa,Qa,Qa,Qa,Qa,Qa,Qa],[]⟩ a1:=by
   intro u13 u14 u15 u19 u20 u21 u22 u23 u24 u25 u26 u27 u28 u29 u30 u31 u32 u33 u34 u35 u36 u37 u38 u39 u40 u41 u42 u43 u44 u45 u46 u47 u48 u49 u50 u51 u52 u53 u54 u55 u56 u57 u58 u59 u60 u61 u62 u63 u64 u65 u66 u67 u68 u69 u70 u71 u72 u73 u74 u75 u76 u77 u78 u79 u80 u81 u82 u83 u84 u85 u86 u87 u88 u89 u90 u91 u92 u93 u94 u95 u96 u97 u98 u99 u100 u101 u102 u103 u104 u105 u106 u107 u108 u109 u110 u111 u112 u113 u114 u115 u116 u117 u118 u119 u120 u121 u122 u123 u124 u125 u126 u127 u128 u129 u130 u131 u132 u133 u134 u135 u136 u137 u138 u139 u140 u141 u142 u143 u144 u145 u146 u147 u148 u149 u150 u151 u152 u153 u154 u155 u156 u157 u158 u159 u160 u161 u162 u163 u164 u165 u166 u167 u168 u169 u170 u171 u172 u173 u174 u175 u176 u177 u178 u179 u180 u181 u182 u183 u184 u185 u186 u187 u188 u189 u190 u191 u192 u193 u194 u195 u196 u197 a1 au O a3 d;have ca:=zH d;clear d;refine a8 _ _ ?_;clear a8 bj;go_wp2_with fail;go_roundw
   case rel=>exact⟨m+1,au,O,a3,by simp,C,rfl,rfl,ca.out⟩
   case measure=>simp[intOf];omega
  have z:=zH bn;clear bn a8;refine wp_block ?_;refine wp_seq_k ?_;intro bi a7
  have bk:∀ ⦃u13 u25 u26 u27 u28 u29 u30 u31 u32 u33 u34 u35 u36 u37 u38 u39 u40 u41 u42 u43 u44 u45 u46 u47 u48 u49 u50 u51 u52 u53 u54 u55 u56 u57:Xf⦄ ⦃aa:Xe⦄,ModIn w aa (rowK E m (if e.op=4 then topK E e m else 0)) a b->bi ⟨#[Xa (some ⟨M,N,none⟩) E.length c,Xa B E.length c2,Qa,Qa,.int .i64 0,Xb (some ⟨w.heap.size,0,none⟩),.string { data:=#[] },Xc false,I (sumM V (E.take m)),Xb (some ⟨w.heap.size+1,0,none⟩),Xa (some ⟨w.heap.size+1+1,0,none⟩) E.length E.length,I (yg4 j),I m,u13,u14,u15,Xa (some ⟨M,N,none⟩) E.length c,.int .i64 (E.length:Int),Xa (some ⟨w.heap.size+1+1,0,none⟩) E.length E.length,I m,Xa (some ⟨M,N,none⟩) E.length c,.int .i64 (E.length:Int),Xc true,u23,u24,u25,u26,u27,u28,u29,u30,u31,u32,u33,u34,u35,u36,u37,u38,u39,u40,u41,u42,u43,u44,u45,u46,u47,u48,u49,u50,u51,u52,u53,u54,u55,u56,u57,u58,u59,u60,u61,u62,u63,u64,u65,u66,u67,u68,u69,u70,u71,u72,u73,u74,u75,u76,u77,u78,u79,u80,u81,u82,u83,u84,u85,u86,u87,u88,u89,u90,u91,u92,u93,u94,u95,u96,u97,u98,u99,u100,u101,u102,u103,u104,u105,u106,u107,u108,u109,u110,u111,u112,u113,u114,u115,u116,u117,u118,u119,u120,u121,u122,u123,u124,u125,u126,u127,u128,u129,u130,u131,u132,u133,u134,u135,u136,u137,u138,u139,u140,u141,u142,u143,u144,u145,u146,u147,u148,u149,u150,u151,u152,u153,u154,u155,u156,u157,u158,u159,u160,u161,u162,u163,u164,u165,u166,u167,u168,u169,u170,u171,u172,u173,u174,u175,u176,u177,u178,u179,u180,u181,u182,u183,u184,u185,u186,u187,u188,u189,u190,u191,u192,u193,u194,u195,u196,u197,Qa,Qa,Qa,Qa,Qa,Qa,Qa,Qa,Qa,Qa,Qa],[]⟩ aa:=by
   intro u13 u25 u26 u27 u28 u29 u30 u31 u32 u33 u34 u35 u36 u37 u38 u39 u40 u41 u42 u43 u44 u45 u46 u47 u48 u49 u50 u51 u52 u53 u54 u55 u56 u57 aa d;have l:=zH d;clear d;refine a7 _ _ ?_;clear a7 bi;refine wp_seq_k ?_;intro Y J
   have bm:∀ ⦃u58 u59 u60 u61 u62 u63 u64 u65 u66 u67 u68 u69:Xf⦄ ⦃av:Xe⦄,ModIn w av (rowM E (m+1)) a b->Y ⟨#[Xa (some ⟨M,N,none⟩) E.length c,Xa B E.length c2,Qa,Qa,.int .i64 0,Xb (some ⟨w.heap.size,0,none⟩),.string { data:=#[] },Xc false,I (sumM V (E.take m)),Xb (some ⟨w.heap.size+1,0,none⟩),Xa (some ⟨w.heap.size+1+1,0,none⟩) E.length E.length,I (yg4 j),I m,u13,u14,u15,Xa (some ⟨M,N,none⟩) E.length c,.int .i64 (E.length:Int),Xa (some ⟨w.heap.size+1+1,0,none⟩) E.length E.length,I m,Xa (some ⟨M,N,none⟩) E.length c,.int .i64 (E.length:Int),Xc true,u23,u24,u25,u26,u27,u28,u29,u30,u31,u32,u33,u34,u35,u36,u37,u38,u39,u40,u41,u42,u43,u44,u45,u46,u47,u48,u49,u50,u51,u52,u53,u54,u55,u56,u57,u58,u59,u60,u61,u62,u63,u64,u65,u66,u67,u68,u69,u70,u71,u72,u73,u74,u75,u76,u77,u78,u79,u80,u81,u82,u83,u84,u85,u86,u87,u88,u89,u90,u91,u92,u93,u94,u95,u96,u97,u98,u99,u100,u101,u102,u103,u104,u105,u106,u107,u108,u109,u110,u111,u112,u113,u114,u115,u116,u117,u118,u119,u120,u121,u122,u123,u124,u125,u126,u127,u128,u129,u130,u131,u132,u133,u134,u135,u136,u137,u138,u139,u140,u141,u142,u143,u144,u145,u146,u147,u148,u149,u150,u151,u152,u153,u154,u155,u156,u157,u158,u159,u160,u161,u162,u163,u164,u165,u166,u167,u168,u169,u170,u171,u172,u173,u174,u175,u176,u177,u178,u179,u180,u181,u182,u183,u184,u185,u186,u187,u188,u189,u190,u191,u192,u193,u194,u195,u196,u197,Qa,Qa,Qa,Qa,Qa,Qa,Qa,Qa,Qa,Qa,Qa],[]⟩ av:=by
    intro u58 u59 u60 u61 u62 u63 u64 u65 u66 u67 u68 u69 av d;have l:=zH d;clear d;refine J _ _ ?_;clear J Y;obtain⟨f0,f1,Z,bo,a4⟩:=ab.out av l.out.ext;obtain⟨g,c8,rfl,cl⟩:=yhu al.out l.out.ext b9.out;obtain⟨kn,ar⟩:∃k,zao V e=k:=⟨_,rfl⟩
    rw[ar]at cl;have bt:=ar;have X:=zH ar;clear ar;refine wpH ?_;intro K ad
    cases kn
    case false=>have n:=z.out;rw[yhj F.out (by simp[X.out])]at n;have z:=zH n;clear n bt;go_wp2_with fail;exact z.out (y.out.keep l.out F.out (by simp[X.out]) (by simp[X.out]))
    clear bt;go_wp2_with fail;refine ad.out _ _ ?_;clear ad K;rcases az.out.kind with⟨ah,o⟩|⟨ah,o|o⟩|⟨ah,o⟩
    ·rw[o]at Z;have H:=zH o;have b3:=yjf ac.out V m;have s1:=az.out.lo;have s2:=az.out.hi;have n:=z.out;rw[yko F.out ⟨X.out,o⟩]at n;have z:=zH n;clear n o ah;obtain⟨s,bw⟩:∃s,sumM V (E.take m)=s:=⟨_,rfl⟩
     rw[bw]at z b3 ⊢;clear bw;obtain⟨c9,da⟩:=b3;go_wp2_with fail;exact z.out (y.out.keep l.out F.out (by rw[H.out];simp) (by rw[H.out];simp))
    ·rw[o]at Z;have H:=zH o;have n:=z.out;rw[yhj F.out (by rw[o];simp)]at n;have z:=zH n;clear n o;exact yju bu ac.out aj.out al.out F.out C y.out l.out X.out H.out ab.out (by intros;rename_i d;exact z.out d)
    ·rw[o]at Z;have H:=zH o;have n:=z.out;rw[yhj F.out (by rw[o];simp)]at n;have z:=zH n;clear n o ah;go_wp2_with fail;exact z.out (y.out.keep l.out F.out (by rw[H.out];simp) (by rw[H.out];simp))
    rw[o]at Z;have H:=zH o;have n:=z.out;rw[yhj F.out (by rw[o];simp)]at n;have z:=zH n;clear n o ah;exact yi6 bu ac.out aj.out al.out F.out C y.out l.out X.out H.out ab.out (by intros;rename_i d;exact z.out d)
   have bh:=zH bm;clear bm J;obtain⟨f0,f1,Z,bo,a4⟩:=ab.out aa l.out.ext
   by_cases D:e.op=4
   ·have a9:((e.op:Int)==4)=true:=(by simp[D]);rw[zP D]at l;have an:=zH (ykc F.out ax.out D);obtain⟨t,bx⟩:∃t,topK E e m=t:=⟨_,rfl⟩
    rw[bx]at l an;clear bx;have c5:(t:Int)<=200:=(by have h1:=zog E m;rw[an.out]at h1;omega);have c1:=l.out.row.cell (yiq (t:=t) C);have c2:=l.out.row.frozen m;go_wp2_with fail;exact bh.out (by have d:=l.out.set (m:=m) (by rw[yip E (Qd C)];exact C) (iI (t+1));rw[yir,<- an.out,yid C,an.out]at d;exact d)
   have a9:((e.op:Int)==4)=false:=(by rw[beq_eq_false_iff_ne];omega);rw[zN D]at l;go_wp2_with fail;exact bh.out (by have d:=l.out;rw[<- yjh F.out D,yid C]at d;exact d)
  have bg:=zH bk;clear bk a7;go_wp2_with fail;obtain⟨b6,cn⟩:∃b6:Xe,b6=wr:=⟨_,rfl⟩
  subst cn
  go_loopw [13] (fun k aa=>∃kk:Nat,k=I kk/\kk<=m/\(e.op≠4->kk=0)/\ModIn w aa (rowK E m (topK E e kk)) a b) (fun k _=>m-(intOf k).toNat)
  case atStart=>exact⟨0,rfl,Nat.zero_le _,fun _=>rfl,by rw[yie,yjs C];exact y.out.row,y.out.box,y.out.res,y.out.ext⟩
  obtain⟨kk,rfl,cz,bs,hi⟩:=hrel;have l:=zH hi;have be:=zH bs;clear hi bs;obtain⟨f0,f1,Z,bo,a4⟩:=ab.out wr l.out.ext;rw[ax.out]at a4
  by_cases af:kk<m
  ·by_cases D:e.op=4
   ·have a9:((e.op:Int)==4)=true:=(by simp[D]);obtain⟨x,bd⟩:∃x,e.kn[kk]? = some x:=⟨_,Qb (by rw[ax.out];exact af)⟩
    obtain⟨cr,ai,cj,cv⟩:=yhu cc.out l.out.ext bd;subst cj;have ao:=zH (yjt (E:=E) (e:=e) (by omega) bd);obtain⟨u,bz⟩:∃u,topK E e kk=u:=⟨_,rfl⟩
    obtain⟨v,bb⟩:∃v,zc6 E kk=v:=⟨_,rfl⟩
    rw[bz]at ao l;rw[bb]at ao;have cy:kk<E.length:=Nat.lt_trans af C;have c3:max (u:Int) (v:Int)=((max u v:Nat):Int):=(by omega);obtain⟨a2,T⟩:∃W,wr.drew=W:=⟨_,rfl⟩
    have G:Ext wr a2:=(by rw[<- T];exact(Xg _).drew);have a0:=zH T;clear T;have ak:=zH (l.out.on G);have ct:=ak.out.row.cell (yiq (t:=u) C);have cf:=ak.out.row.cell (ykb (t:=u) af (Qd C));rw[bb]at cf;have cu:=ak.out.row.frozen m;clear G bz bb bd
    cases x
    case true=>
     go_wp2_with fail;refine wp_region_still_tail 12 (by kernel_rfl) (by kernel_rfl) ?_;simp only[zD];change wpStill _ _ wr.drew (fun O=>wpList _ _ _ _ O wr.drew) _ _;rw[a0.out];generalize R:Act.mk _ _=A0;repeat (refine wpStill_step (fun Y J=>?_);subst R;go_simp;(try rw[zN (by decide)]);generalize R:Act.mk _ _=A0;refine J A0 ?_;clear J Y)
     refine wpStill_nil ?_;subst R;go_wp2_with fail;go_roundw
     case rel=>exact⟨kk+1,by simp,af,fun d=>absurd D d,by have d:=ak.out.set (m:=m) (by rw[yip E (Qd C)];exact C) (iI (max u v));rw[yir]at d;rw[ao.out];exact d⟩
     case measure=>simp[intOf];omega
    go_wp2_with fail;go_roundw
    case rel=>exact⟨kk+1,by simp,af,fun d=>absurd D d,by have d:=l.out;rw[ao.out];simpa using d⟩
    case measure=>simp[intOf];omega
   have a9:((e.op:Int)==4)=false:=(by rw[beq_eq_false_iff_ne];omega);go_wp2_with fail;exact bg.out (by have d:=l.out;rw[be.out D,yie]at d;rw[zN D];exact d)
  obtain rfl:kk=m:=by omega
  go_wp2_with fail;refine bg.out ?_
  by_cases D:e.op=4
  ·rw[zP D];exact l.out
  have d:=l.out;rw[show topK E e kk=0 by rw[be.out D];rfl]at d;rw[zN D];exact d
 obtain rfl:m=E.length:=by omega
 have am:=zH (show(a=true↔yg2 E V [97])/\(b=true↔yg2 E V [98])from⟨y.out.ha.trans (yh2 E V _),y.out.hb.trans (yh2 E V _)⟩);have ay:=zH y.out.last;have ap:=zH y.out.ext;simp only[List.take_length];have ae:=zH y.out.res;have aw:=zH y.out.box
 cases j
 case none=>
  rw[show yg4 none = -1 from rfl];obtain⟨a2,T⟩:∃W,wr.drew=W:=⟨_,rfl⟩
  have G:Ext wr a2:=(by rw[<- T];exact(Xg _).drew);have a0:=zH T;clear T;have cd:=(aw.out.ext G).cell (j:=0) rfl;have ce:=(aw.out.ext G).cell (j:=1) rfl;have r0:=(ae.out.ext G).cell (j:=0) rfl;have r1:=(ae.out.ext G).cell (j:=1) rfl;have co:=(ae.out.ext G).frozen 0;have cp:=(ae.out.ext G).frozen 1;have ap:=zH (ap.out.trans G);clear G;go_wp2_with fail;refine wp_region_still_tail 3 (by kernel_rfl) (by kernel_rfl) ?_;simp only[zD];change wpStill _ _ wr.drew (fun O=>wpList _ _ _ _ O wr.drew) _ _;rw[a0.out];generalize R:Act.mk _ _=A0;repeat (refine wpStill_step (fun Y J=>?_);subst R;go_simp;(try rw[zN (by decide)]);generalize R:Act.mk _ _=A0;refine J A0 ?_;clear J Y)
  refine wpStill_nil ?_;subst R;go_wp2_with fail
  (try simp only[Exit.inBlock,Exit.then])
  refine bodyPost_ret (v:=.tuple #[I (sumM V E),.agg #[Xc a,Xc b],St [],Xc false]) (by simp[results,Tryz.f56,go_sem,r0,r1]) rfl ?_;exact⟨a,b,[],false,rfl,am.out.1,am.out.2,⟨none,ay.out,rfl⟩,(ap.out.set (p:=⟨w.heap.size,0,none⟩) (Qc _) _).set (p:=⟨w.heap.size,1,none⟩) (Qc _) _⟩
 rename_i L
 rw[show yg4 (some L)=(L:Int)from rfl];obtain⟨f,ag,ck⟩:=ay.out;have cx:L<E.length:=(Qg.1 ag).1;obtain⟨aq,ai,v2,rfl,-,br⟩:=yht aj.out (ygx ag).1 (ygx ag).2;have b7:=zH br;have b8:=zH ag;have cb:Hid (ModIn w wr (rowM E E.length) a b):=zH ⟨y.out.row,aw.out,ae.out,ap.out⟩;have cw:((L:Int)<0)=False:=eq_false (by omega);clear ag ck br y;go_wp2_with fail;refine zgl [.late (fun v _=>v=I (sumM V E)),.early (fun v _=>v=.agg #[Xc a,Xc b]),.late (fun v _=>v=Xa (some ⟨aq,ai,none⟩) E.length c),.late (fun v _=>v=I L),.late (fun v _=>v=Xb (some ⟨aq,ai+L * 5,none⟩)),.late (fun v _=>v=Xb (some ⟨aq,ai+L * 5+3,none⟩)),.late (fun v _=>v=St f.tx),.late (fun v _=>v=I (sumM V E)),.store] 8 (fun W=>ModIn w W (rowM E E.length) a b) (fun W=>RowIs W w.heap.size 125 [Xc a,Xc b] []/\Ext w W) (fun _ _=>True) rfl (by kernel_rfl) (by kernel_rfl) ?hR ?hJ ?hstep ?hend
 case hR=>simp only[zM,HF.fact];exact⟨kP,kP,kP,kP,kP,kP,kP,kP,fun v _ _ _ _=>trivial⟩
 case hJ=>exact cb.out.on (Xg wr).drew
 case hstep =>
  simp only[zS,zD,Nat.reduceAdd,zd0]
  and_intros
  ·intro x W Q h f;have d:x 8=I (sumM V E):=f.1;go_wp;exact zai rfl h
  ·intro x W h f;have d:x 9=Xb (some ⟨w.heap.size+1,0,none⟩):=f.1;have cd:=h.box.cell (j:=0) rfl;have ce:=h.box.cell (j:=1) rfl;go_wp;exact zai rfl h
  ·intro x W Q h f;have d:x 0=Xa (some ⟨aq,ai,none⟩) E.length c:=f.1;go_wp;exact zai rfl h
  ·intro x W Q h f;have d:x 11=I L:=f.1;go_wp;exact zai rfl h
  ·intro x W Q h f;have d:_=_:=f.1;have cg:_=_:=f.2.1;go_wp;exact zai rfl h
  ·intro x W Q h f;have d:_=_:=f.1;go_wp;exact zai rfl h
  ·intro x W Q h f;have d:_=_:=f.1;have bc:Ext w W:=by cases Q;exact h.ext;exact h.2
   obtain⟨-,-,-,c6,-⟩:=b7.out W bc;go_wp;exact zai rfl h
  ·intro x W Q h f;have d:_=_:=f.1;go_wp;exact zai rfl h
  intro x W h f;have d:x 5=Xb (some ⟨w.heap.size,0,none⟩):=f.1;have cg:_=_:=f.2.1;have r0:=h.res.cell (j:=0) rfl;have r1:=h.res.cell (j:=1) rfl;have co:=h.res.frozen 0;have cp:=h.res.frozen 1;go_wp;exact zai (v:=Qa) trivial ⟨(h.res.set (j:=0) (by simp) (Xc a)).set (j:=1) (by simp) (Xc b),(h.ext.set (p:=⟨w.heap.size,0,none⟩) (Qc _) _).set (p:=⟨w.heap.size,1,none⟩) (Qc _) _⟩
 case hend =>
  intro x W h a5;have ci:x 4=I (sumM V E):=a5.2.2.2.2.2.2.2.1;have ch:x 208=St f.tx:=a5.2.2.2.2.2.2.1;obtain⟨bv,bc⟩:=h;have r0:=bv.cell (j:=0) rfl;have r1:=bv.cell (j:=1) rfl;clear a5;simp only[zS,zD,zU,Nat.reduceAdd,List.filterMap_cons,zav,Act.put,ci,ch];go_wp;go_wp2_with fail
  (try simp only[Exit.inBlock,Exit.then])
  refine bodyPost_ret (v:=.tuple #[I (sumM V E),.agg #[Xc a,Xc b],St f.tx,Xc true]) (by simp[results,Tryz.f56,go_sem,r0,r1]) rfl ?_;exact⟨a,b,f.tx,true,rfl,am.out.1,am.out.2,⟨some L,ay.out,by simp[yhr,b8.out]⟩,bc⟩
end
end Go.Proofs.YtaabaflgeljbjaaGreat
