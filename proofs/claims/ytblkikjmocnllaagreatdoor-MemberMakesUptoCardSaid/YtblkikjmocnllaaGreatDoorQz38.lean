/- strings.Split at a comma, where there are few of them (any length of text). -/
import Derived.Test.YtblkikjmocnllaaGreatDoorQz10
import Derived.Test.YtblkikjmocnllaaGreatDoorQz03
import Derived.Test.YtblkikjmocnllaaGreatDoorQz37
import Derived.Shelf.Strings.Search3
import Derived.Test.YtblkikjmocnllaaGreatDoorQz22
set_option linter.unusedVariables false
set_option linter.unusedSimpArgs false
set_option maxRecDepth 100000
set_option maxHeartbeats 40000000
namespace Go.Proofs.YtblkikjmocnllaaGreatDoor
section
open Go.RowKit Go.Shelf
theorem splitC_len (c:UInt8):∀ s:Str,(splitC c s).length=s.count c+1
 | []=>rfl
 | b :: r=>by
  have ih:=splitC_len c r
  rw [splitC]
  by_cases hb:b=c
  ·subst hb
   rw [if_pos rfl,List.length_cons,ih,List.count_cons_self]
  ·rw [if_neg hb,List.count_cons_of_ne hb]
   cases hs:splitC c r with
   | nil=>exact absurd hs (splitC_ne c r)
   | cons f fs=>rw [hs] at ih;simpa using ih
theorem strCells_at {w:World} {g T:Nat} {l:List Str} {tail:List Value} (h:RowIs w g T (l.map St) tail) {i:Nat} {s:Str} (hi:l[i]? = some s):w.cell? ⟨g,i,none⟩=some (St s):=h.cell (by rw [List.getElem?_map,hi];rfl)
theorem genSplit_any (s:Str) (hl:s.length < 4611686018427387904) (hc:s.count 44 < 24) (w:World) :
  Calls Tryz.prog 181 #[St s,.string ⟨#[44]⟩,I 0,I (-1)] w fun e w'=>∃ g,e=.returned (.slice (some ⟨g,0,none⟩) (splitC 44 s).length (splitC 44 s).length)/\w.heap.size<=g/\RowIs w' g 9 ((splitC 44 s).map St) []/\Ext w w':=by
 obtain⟨n,hn⟩:∃ n,s.count 44=n:=⟨_,rfl⟩
 have hlen:=splitC_len 44 s
 rw [hn] at hlen hc
 have hcs:n<=s.length:=by rw [<- hn];exact List.count_le_length
 have HC:=Lib.hid ((Any.strings_Count_one { Tryz.lays146 with } ⟨s.toArray⟩ 44 w).mono (R':=fun e w'=>e=.returned (I n)/\w'=w) (by rintro e w' ⟨rfl,rfl⟩;exact⟨by rw [<- hn];rfl,rfl⟩))
 have HI:=Lib.hid (fun (r:Str) w=>Any.strings_Index_one { Tryz.lays146 with } ⟨r.toArray⟩ 44 w)
 have HMK:=Lib.hid (run_make_row' (P:=Tryz.prog) 56 9 (St []) 16 Tryz.underlying56 info_str rfl .i64 .i64 (n+1) (by omega) (by omega))
 have e0:min ((n:Int)+1) ((s.length:Int)+1)=((n+1:Nat):Int):=by omega
 have mixed:=Tryz.lays146.mixed
 clear hn
 go_enter Tryz.func181,Tryz.ntmps181
 go_wp2_with fail
 refine HC.out.mono ?_
 rintro e w ⟨rfl,rfl⟩
 have hmk:=HMK.out w
 have hr0:RowIs (w.alloc (.cells (madeCells #[St []] (n+1)) 9)) w.heap.size 9 (List.replicate (n+1) (St [])) []:=by
  have h:=rowNew w 9 (List.replicate (n+1) (St []))
  rw [show madeCells #[St []] (n+1)=(List.replicate (n+1) (St [])).toArray by rw [<- Array.toList_inj,toList_madeCells_one]]
  exact h
 have hx0:=(Ext.refl w).alloc (.cells (madeCells #[St []] (n+1)) 9)
 have hcz:((n+1:Nat):Int)=(n:Int)+1:=by omega
 rw [hcz] at hmk e0
 have HR0:=Lib.hid hr0
 have HX0:=Lib.hid hx0
 clear HC HMK hr0 hx0
 go_wp2_with fail
 clear hmk
 generalize hW0:w.alloc (.cells (madeCells #[St []] (n+1)) 9)=W0 at *
 clear hW0
 go_loopw [0,10] (fun a i wr=>∃ (ds:List Str) (r:Str),a=St r/\i=I ds.length/\Hid (ds.length<=n/\r.length<=s.length/\splitC 44 s=ds++splitC 44 r/\RowIs wr w.heap.size 9 (ds.map St++List.replicate (n+1 - ds.length) (St [])) []/\Ext w wr)) (fun _ i _=>n - (intOf i).toNat)
 case atStart=>exact⟨[],s,rfl,rfl,Lib.hid ⟨Nat.zero_le _,Nat.le_refl _,rfl,by simpa using HR0.out,HX0.out⟩⟩
 case round =>
  obtain⟨ds,r,rfl,rfl,hh⟩:=hrel
  have hd1:=hh.out.1
  have hrl:=hh.out.2.1
  have hsl:=splitC_len 44 r
  have hsd:(splitC 44 s).length=ds.length+(splitC 44 r).length:=by rw [hh.out.2.2.1];simp
  have hrow:=hh.out.2.2.2.1
  have hf:=hrow.frozen ds.length
  have hrw:ds.map St++List.replicate (n+1 - ds.length) (St [])=ds.map St++St [] :: List.replicate (n - ds.length) (St []):=by
   rw [show n+1 - ds.length=(n - ds.length)+1 by omega,List.replicate_succ]
  have hce:wr.cell? ⟨w.heap.size,ds.length,none⟩=some (St []):=hrow.cell (by rw [hrw];simp)
  have HST:=Lib.hid (fun (f:Str)=>(show RowIs (wr.setCell ⟨w.heap.size,ds.length,none⟩ (St f)) w.heap.size 9 (ds.map St++St f :: List.replicate (n - ds.length) (St [])) [] from by
   have h:=hrow.set (j:=ds.length) (by simp;omega) (St f)
   rw [hrw] at h
   rwa [show (ds.map St++St [] :: List.replicate (n - ds.length) (St [])).set ds.length (St f)=ds.map St++St f :: List.replicate (n - ds.length) (St []) by
    rw [List.set_append_right _ _ (by simp)];simp] at h))
  have hxs:=fun (f:Str)=>Ext.set hh.out.2.2.2.2 (p:=⟨w.heap.size,ds.length,none⟩) (Nat.le_refl _) (St f)
  have HXS:=Lib.hid hxs
  have hdz:(ds.length:Int) < (n:Int)+1:=by omega
  clear hrow hrw hxs
  by_cases hlt:ds.length < n
  ·have hq:∃ q,(cutC 44 r).2=some q:=by
    cases hc2:(cutC 44 r).2 with
    | some q=>exact⟨q,rfl⟩
    | none =>
     exfalso
     have:=(cutC_none hc2).2.2
     rw [splitC_free this] at hsd
     simp at hsd
     omega
   obtain⟨q,hq⟩:=hq
   have hcut:=splitC_cut 44 r
   rw [hq] at hcut
   obtain⟨h1,h2,h3⟩:=cutC_some hq
   generalize (cutC 44 r).1=f at *
   have HCUT:=Lib.hid hcut
   have HI2:=Lib.hid (fun w=>(HI.out r w).mono (R':=fun e w'=>e=.returned (I f.length)/\w'=w) (by rintro e w' ⟨rfl,rfl⟩;exact⟨by rw [<- h2],rfl⟩))
   have hql:q.length+f.length+1=r.length:=by rw [h1];simp;omega
   obtain⟨S,hS⟩:∃ S:ByteArray,⟨r.toArray⟩=S:=⟨_,rfl⟩
   have hz:S.size=r.length:=by rw [<- hS];simp [ByteArray.size]
   have e1:=Lib.hid (show S.extract 0 f.length=⟨f.toArray⟩ by rw [<- hS,h1];exact ext_take f (44 :: q))
   have e2:=Lib.hid (show S.extract (f.length+1) S.size=⟨q.toArray⟩ by rw [<- hS,h1,show f++44 :: q=(f++[44])++q by simp];exact ext_drop (f++[44]) q _ (by simp) _ (by simp [ByteArray.size]))
   rw [hS] at HI2
   rw [show St r=.string S from congrArg Value.string hS]
   have c1:(0:Int)<=↑f.length:=by omega
   have c2:(↑f.length:Int)<=↑S.size:=by omega
   have c3:(0:Int)<=↑f.length+1:=by omega
   have c4:(↑f.length+1:Int)<=↑S.size:=by omega
   have c5:IntKind.i64.wrap ((f.length:Int)+1)=(f.length:Int)+1:=wrap_small _ (by omega) (by omega)
   have c6:¬ (f.length:Int) < 0:=by omega
   have c7:(ds.length:Int) < (n:Int):=by omega
   have HH:=Lib.hid (And.intro hh.out.2.2.1 (And.intro hsd hql))
   clear hS h1 h2 h3 hcut hsl hsd hh HR0
   go_wp2_with fail
   refine (HI2.out _).mono ?_
   rintro e w2 ⟨rfl,rfl⟩
   go_wp2_with fail
   go_roundw
   case rel =>
    refine ⟨ds++[f],q,?_,by simp,Lib.hid ⟨by simp;omega,by omega,by rw [HH.out.1,HCUT.out];simp,?_,?_⟩⟩
    ·rw [hz] at e2
     rw [e2.out]
    ·rw [e1.out]
     have h:=HST.out f
     rw [show n+1 - (ds++[f]).length=n - ds.length by simp]
     simpa using h
    ·rw [e1.out]
     exact HXS.out f
   case measure=>simp [intOf];omega
  ·have hdn:ds.length=n:=by omega
   have hcu:splitC 44 r = [r]:=by
    refine splitC_free ?_
    intro h
    have:=List.count_pos_iff.2 h
    omega
   have c7:¬ (ds.length:Int) < (n:Int):=by omega
   have HF:=Lib.hid (show splitC 44 s=ds++[r] by rw [hh.out.2.2.1,hcu])
   have HD:=Lib.hid hdn
   clear hsl hsd hh HR0 hcu hdn HI
   have d1:(0:Int)<=(ds.length:Int)+1:=by omega
   have d2:(ds.length:Int)+1<=(n:Int)+1:=by omega
   go_wp2_with fail
   refine bodyPost_ret (results_tmp rfl _ _ _) rfl ?_
   refine ⟨w.heap.size,?_,Nat.le_refl _,?_,HXS.out r⟩
   ·show Ending.returned (Value.slice (some ⟨w.heap.size,0,none⟩) (ds.length+1) (n+1))=_
    rw [HD.out]
   ·rw [HF.out]
    have h:=HST.out r
    rw [HD.out] at h ⊢
    simpa using h
theorem split44_any (s:Str) (hl:s.length < 4611686018427387904) (hc:s.count 44 < 24) (w:World) :
  Calls Tryz.prog 162 #[St s,.string ⟨#[44]⟩] w fun e w'=>∃ g,e=.returned (.slice (some ⟨g,0,none⟩) (splitC 44 s).length (splitC 44 s).length)/\w.heap.size<=g/\RowIs w' g 9 ((splitC 44 s).map St) []/\Ext w w':=by
 have HG:=Lib.hid (genSplit_any s hl hc w)
 generalize (splitC 44 s).length=n at *
 go_enter Tryz.func162,Tryz.ntmps162
 go_wp2_with fail
 refine HG.out.mono ?_
 rintro e w2 ⟨g,rfl,hg,hr,hx⟩
 go_wp2_with fail
 go_ret
 exact⟨g,rfl,hg,hr,hx⟩
end
end Go.Proofs.YtblkikjmocnllaaGreatDoor
