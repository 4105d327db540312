/- member.spans: its closures, the sort, the iterator that it gives back. -/
import Derived.Test.YtblkikjmocnllaaGreatDoorQz27
import Derived.Test.YtblkikjmocnllaaGreatDoorQz11
import Derived.Test.YtblkikjmocnllaaGreatDoorQz20
set_option linter.unusedVariables false
set_option linter.unusedSimpArgs false
set_option maxRecDepth 100000
set_option maxHeartbeats 40000000
namespace Go.Proofs.YtblkikjmocnllaaGreatDoor
section
open Go.RowKit Go.Shelf
theorem spans1_any (s:Span) (W:World):Calls Tryz.prog 141 #[.agg #[I s.1,I s.2]] W fun e w'=>e=.returned (.bool (!sp s))/\Ext W w':=by
 have hx:=(Ext.refl W).alloc (.cells #[I s.1,I s.2] 76)
 have hb0:=(rowNew W 76 [I s.1,I s.2]).cell (j:=0) rfl
 have hb1:=(rowNew W 76 [I s.1,I s.2]).cell (j:=1) rfl
 have HF:=Lib.hid (show (!sp s)=decide (s.1 ≥ s.2) by unfold sp;by_cases h:s.1 < s.2 <;> simp [h] <;> omega)
 have HX:=Lib.hid hx
 clear hx
 go_enter Tryz.func141,Tryz.ntmps141
 go_wp2
 go_ret
 exact⟨by rw [HF.out];rfl,HX.out⟩
def cmpSp (s t:Span):Int:=cmpI s.1 t.1
theorem cmpI_lt {a b:Int}:cmpI a b < 0↔a < b:=by unfold cmpI;split <;> (try split) <;> omega
theorem cmpSp_swo:Go.Sort.SWO (ltOf cmpSp) where
 irrefl x:=by simp [ltOf,cmpSp,cmpI]
 trans x y z h1 h2:=by
  simp only [ltOf,cmpSp,decide_eq_true_eq,cmpI_lt] at *
  omega
 ntrans x y z h1 h2:=by
  simp only [ltOf,cmpSp,decide_eq_false_iff_not,cmpI_lt] at *
  omega
theorem spans2_any (a b:Span) (W:World):Calls Tryz.prog 143 #[spanV a,spanV b] W fun e w'=>e=.returned (I (cmpSp a b))/\∃ q os,w'=Go.Sort.grow (W.drewN q) os:=by
 have H2:=Lib.hid (icmp_any a.1 b.1)
 unfold cmpSp spanV
 generalize cmpI a.1 b.1=K at *
 have HW:=Lib.hid (show (W.alloc (.cells #[I a.1,I a.2] 76)).alloc (.cells #[I b.1,I b.2] 76)=Go.Sort.grow (W.drewN 0) #[.cells #[I a.1,I a.2] 76,.cells #[I b.1,I b.2] 76] by
  rw [Go.Sort.alloc_eq_grow,Go.Sort.alloc_eq_grow]
  rfl)
 have hx:=(rowNew W 76 [I a.1,I a.2]).alloc (.cells #[I b.1,I b.2] 76)
 have ha0:=hx.cell (j:=0) rfl
 have hy:=rowNew (W.alloc (.cells #[I a.1,I a.2] 76)) 76 [I b.1,I b.2]
 have hb0:=hy.cell (j:=0) rfl
 clear hx hy
 go_enter Tryz.func143,Tryz.ntmps143
 go_wp2_with fail
 refine (H2.out _).mono ?_
 rintro e w' ⟨rfl,rfl⟩
 go_wp2
 go_ret
 exact⟨rfl,_,_,HW.out⟩
theorem sorted_but {α:Type} [Inhabited α] {enc:α->List Value} {k:Nat} {w:World} {g n m c:Nat} {d':Array α} {os:Array Obj} (hc:0 < c) (hg:g < w.heap.size):ButV (.slice (some ⟨g,0,none⟩) m c) w (sortWorldK enc k w g 0 n d' os):=by
 have h2':=below_putRow (base:=0) (w:=Go.Sort.ahead w n) (Nat.zero_le g) (Go.Sort.flatK enc k d')
 unfold sortWorldK Go.Sort.putRowK
 refine ⟨h2'.os,h2'.tape,h2'.output,Nat.le_trans h2'.size (by simp),fun j hj hne=>?_⟩
 have hjg:j ≠ g:=fun e=>hne ⟨g,m,c,rfl,by omega,e⟩
 unfold Go.Sort.grow
 have hjs:j < (Go.Sort.putRow id (Go.Sort.ahead w n) g 0 (Go.Sort.flatK enc k d')).heap.size:=by simp [Go.Sort.ahead];omega
 rw [Array.getElem?_append_left hjs]
 unfold Go.Sort.putRow Go.Sort.mapBlock
 rw [Array.getElem?_modify,if_neg (fun e=>hjg e.symm)]
 rfl
theorem sort_span {v:Value} {l:List Span} {w:World} {base:Nat} (hv:Own w base 76 2 v l.length (l.flatMap spanC)) (hbase:base<=w.heap.size) (hl:l.length<=1099511627776) :
  Calls Tryz.prog 142 #[v,.func (.func 143) #[] #[]] w fun e w'=>e=.returned (.tuple #[]) /\
   ∃ d,d.Perm l/\SrtS d/\Own w' base 76 2 v d.length (d.flatMap spanC)/\Below base w w'/\ButV v w w':=by
 rcases Nat.eq_zero_or_pos l.length with h0 | h0
 ·obtain rfl:l = []:=List.eq_nil_of_length_eq_zero h0
  obtain⟨A,c,rfl,-,-⟩:=hv.form
  have hcon:=AnyF.slices_SortFunc_none Tryz.sortSpan A c (.func (.func 143) #[] #[]) w
  exact Calls.mono hcon fun e w' ⟨he,hw⟩=>⟨he,[],.nil,List.Pairwise.nil,by rw [hw];exact hv,by rw [hw];exact Below.refl _ _,by rw [hw];exact (Ext.refl _).but _⟩
 ·obtain⟨gb,cap,tail,rfl,hgb,hrow,hnc,hcm,hcl⟩:=hv.row h0
  have eg:∀ args w,(callFunc 143 args).run Tryz.prog w=.ok (.enter 143 args) w:=enters_of Tryz.func143 (by kernel_rfl) rfl
  have hH:Go.Sort.HoldsK spanC 2 w gb 0 l.toArray:=holds_row (F:=Go.Sort.flatK spanC 2 l.toArray) (by rw [flatK_toList (enc:=spanC) (k:=2) (fun _=>rfl) (by decide)];exact hrow)
  have hcon:=AnyQ.slices_SortFunc Tryz.sortSpan 2 Tryz.isAgg76 Tryz.sizeOf76 spanC (fun _=>rfl) (fun x v hv=>by simp [spanC] at hv;rcases hv with rfl | rfl <;> rfl) cmpSp cmpSp_swo 143 #[] gb 0 cap l.toArray w eg
   (fun _ _ _ _ x y=>spans2_any x y _) hH hrow.lt (by simp;omega)
  refine hcon.mono ?_
  rintro e w' ⟨rfl,d',n,os,hp,hs,rfl⟩
  have hsz:d'.size=l.length:=by simpa using hp.1
  obtain⟨h1,h2⟩:=sorted_row (enc:=spanC) (k:=2) (fun _=>rfl) (by decide) (d':=d') (n:=n) (os:=os) hrow hgb hsz
  have hpm:d'.toList.Perm l:=by
   have h3:=hp.2.2
   rw [show d'.extract 0 l.toArray.size=d' by rw [<- hp.1];simp] at h3
   simpa using h3
  have hst:SrtS d'.toList:=by
   unfold SrtS
   rw [List.pairwise_iff_getElem]
   intro i j hi hj hij
   have:=hs i j (Nat.zero_le _) hij (by simp at hj ⊢;omega)
   rw [getElem!_pos d' i (by simpa using hi),getElem!_pos d' j (by simpa using hj)] at this
   simp only [ltOf,cmpSp,decide_eq_false_iff_not,cmpI_lt] at this
   simpa using this
  have hil:d'.toList.length=l.length:=hpm.length_eq
  refine ⟨rfl,d'.toList,hpm,hst,?_,h2,sorted_but (by omega) hrow.lt⟩
  rw [hil]
  refine h1.own hgb hnc hcm ?_ ?_ ?_
  ·rw [List.length_append,spanC_len,hil]
   rw [List.length_append,spanC_len] at hcl
   exact hcl
  ·rw [List.take_of_length_le (by rw [spanC_len,hil];exact Nat.le_refl _)]
  ·rw [spanC_len,hil]
theorem spans_any {S:Nat->Prop} {v:Value} {a b:List Span} {w:World} (hv:Sl (slT spanT (by decide)) w S v [a,b]) (hl:a.length+b.length<=1099511627776) :
  Calls Tryz.prog 106 #[v] w fun e w'=>∃ tb d vd,e=.returned (.func (.func 144) #[] #[.pointer (some ⟨tb,0,none⟩)])/\w'.cell? ⟨tb,0,none⟩=some vd/\Own w' w.heap.size 76 2 vd d.length (d.flatMap spanC)/\d.Perm ((a++b).filter sp)/\SrtS d/\w.heap.size<=tb/\Ext w w':=by
 have HC:=Lib.hid (concatSp_any hv (by simpa using hl))
 have hfl:([a,b]:List (List Span)).flatten=a++b:=by simp
 rw [hfl] at HC
 have hll:(a++b).length<=1099511627776:=by simpa using hl
 generalize a++b=L at *
 obtain⟨K,hK⟩:∃ K,L.filter sp=K:=⟨_,rfl⟩
 rw [hK]
 have HK:=Lib.hid hK
 clear hv hfl hl hK
 go_enter Tryz.func106,Tryz.ntmps106
 go_wp2_with fail
 refine HC.out.mono ?_
 rintro e w1 ⟨v1,rfl,ho1,hx1⟩
 have hpd:PredS Tryz.prog 141 #[] w.heap.size (fun _=>True) (fun s=>!sp s):=⟨enters_of Tryz.func141 (by kernel_rfl) rfl,fun _ _ _ _=>trivial,fun m W _=>spans1_any m W⟩
 have HD:=Lib.hid (delete_span ho1 hpd trivial hx1.size)
 obtain⟨A1,c1,rfl,-,-⟩:=ho1.form
 clear HC ho1 hpd
 go_wp2_with fail
 refine HD.out.mono ?_
 rintro e w2 ⟨v2,rfl,ho2,hb2⟩
 have hfe:(L.filter fun m=>!!sp m)=L.filter sp:=by congr 1;funext m;simp
 rw [hfe,HK.out] at ho2
 have hKl:K.length<=1099511627776:=by rw [<- HK.out];exact Nat.le_trans (List.length_filter_le _ _) hll
 obtain⟨A2,c2,rfl,-,-⟩:=ho2.form
 have hx3:=(Ext.refl w2).alloc (.cells #[.slice A2 K.length c2] 41)
 have hxb:Ext w w2:=Below.trans hx1 hb2
 have HS:=Lib.hid (sort_span (ho2.ext hx3) (by have:=hxb.size;simp;omega) hKl)
 have HB:=Lib.hid (hxb.trans hx3)
 have hcell:=(rowNew w2 41 [.slice A2 K.length c2]).cell (j:=0) rfl
 have hs2:=hxb.size
 have HO2:=Lib.hid ho2
 clear HD ho2 hx3 hxb hb2
 go_wp2_with fail
 refine HS.out.mono ?_
 rintro e w3 ⟨rfl,d,hp,hs,ho3,hb3,hbv⟩
 have HF:=Lib.hid (show w3.cell? ⟨w2.heap.size,0,none⟩=some (.slice A2 K.length c2)/\Own w3 w.heap.size 76 2 (.slice A2 K.length c2) d.length (d.flatMap spanC)/\d.Perm K/\SrtS d/\w.heap.size<=w2.heap.size/\Ext w w3 from by
  refine ⟨(World.cell?_of_block (a:=⟨w2.heap.size,0,none⟩) (hbv.same w2.heap.size (by simp) (fun ho=>by have:=(HO2.out.base_le ho).2;omega))).trans hcell,ho3,hp,hs,hs2,Below.trans HB.out hb3⟩)
 clear HS ho3 hb3 hcell HB hbv HO2
 go_wp2_with fail
 go_ret
 exact⟨_,d,_,rfl,HF.out⟩
end
end Go.Proofs.YtblkikjmocnllaaGreatDoor
