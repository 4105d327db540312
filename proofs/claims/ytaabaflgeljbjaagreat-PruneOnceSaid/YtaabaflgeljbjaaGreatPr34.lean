/- slices.Grow of nothing, slices.Concat: at strings. -/
import Derived.Test.YtaabaflgeljbjaaGreatPr31
import Derived.Test.YtaabaflgeljbjaaGreatPr11
import Derived.Test.YtaabaflgeljbjaaGreatPr22
set_option linter.unusedVariables false
set_option linter.unusedSimpArgs false
set_option maxRecDepth 100000
set_option maxHeartbeats 40000000
namespace Go.Proofs.YtaabaflgeljbjaaGreat
section
open Go.RowKit Go.Shelf
theorem zxs (n:Nat) (w:World) (hn:n<=1099511627776) :
  Calls Tryz.prog 114 #[.slice none 0 0,I n] w fun r w'=>∃ v,r=.returned v/\Own w' w.heap.size 9 1 v 0 []/\Ext w w':=by
 rcases Nat.eq_zero_or_pos n with rfl | h0
 ·go_enter Tryz.func114,Tryz.ntmps114;go_wp2;go_ret;exact⟨_,rfl,Own.nil _ _ _ _ _,Ext.refl _⟩
 ·obtain⟨i0,hi0,hz0,hzs,hzb⟩:=info_parts zd7;have hold:(Builtin.firstCells i0.size 0 (.slice none 0 0)).run Tryz.prog w.drew=.ok ([]:List Value).toArray w.drew:=run_firstCells_none w.drew i0.size 0 0 0;obtain⟨G,hG⟩:∃ G,G=grownCap w n 0 9:=⟨_,rfl⟩
  have hGn:n<=G:=by rw [hG];exact grownCap_ge w _ _ _
  have hG63:G<=9223372036854775807:=by have:=grownCap_le_maxLen w n 0 9 (by unfold maxLen;omega);rw [<- hG] at this;unfold maxLen at this;omega
  obtain⟨Z,hZ⟩:∃ Z:Array Value,Z=(#[]++Builtin.zeroCells (St []).cells n++Builtin.zeroCells (St []).cells (G - n)):=⟨_,rfl⟩
  have hZs:Z.size=G * 1:=by rw [hZ];have:(St []).cells.size=1:=rfl;simp only [Array.size_append,size_zeroCells,this];simp;omega
  have hrz:∀ ty,(Builtin.append_ #[24,3] ty #[.slice none 0 0,.int .i64 (n:Int)]).run Tryz.prog w =
    .ok (.slice (some ⟨w.heap.size,0,none⟩) n G) (w.drew.alloc (.cells Z 9)):=fun ty=>by
   have h:=Lib.run_append_grow_zeros w 24 3 ty 9 i0 _ .i64 .i64 Tryz.underlying24 Tryz.underlying3 hi0 hz0 none 0 0 [] hold n h0 (by omega) (by omega) (by omega) (by rw [hzb];omega) (by rw [hzb];exact growslice_fits (by omega) (by omega));simp only [Nat.zero_add] at h;rw [<- hG] at h;rw [h,hZ]
  have hpos:(n:Int) > 0:=by omega
  have hw1:wrap64 ((n:Int) - 0)=n:=by unfold wrap64;omega
  have hown:Own (w.drew.alloc (.cells Z 9)) w.heap.size 9 1 (.slice (some ⟨w.heap.size,0,none⟩) 0 G) 0 [] :=
   Own.of_ownsRow (World.ownsRow_made (base:=w.heap.size) w.drew Z G (Nat.le_refl _) (by unfold maxLen;omega) hZs)
  have hx:Ext w (w.drew.alloc (.cells Z 9)):=(Ext.refl w).drew.alloc _;have HOW:=zH hown;have HX:=zH hx;clear hown hx hold hi0 hz0 hzs hzb hG hZ hZs;go_enter Tryz.func114,Tryz.ntmps114
  go_wp2_with (at_builtin;refine zfw _ rfl _ _ 24 3 rfl _ _ rfl rfl (hrz _) ?_;clear hrz)
  all_goals (go_ret;exact⟨_,rfl,HOW.out,HX.out⟩)
theorem ya7 {w:World} {S:Nat->Prop} {A:Option Addr} {n c:Nat} {l:List Str} (h:Sl strT w S (.slice A n c) l):Src w 1 A l.length (l.flatMap strC):=by
 obtain⟨vss,h1,h2,h3⟩:=h.src
 have:vss=l.map fun s=>[St s]:=by
  refine List.ext_getElem? fun i=>?_
  rw [List.getElem?_map]
  cases hl:l[i]? with
  | none=>rw [List.getElem?_eq_none_iff] at hl;exact List.getElem?_eq_none_iff.2 (by omega)
  | some x =>
   cases hv:vss[i]? with
   | none=>rw [List.getElem?_eq_none_iff] at hv;have:=(List.getElem?_eq_some_iff.1 hl).1;omega
   | some vs=>simp only [Option.map_some];congr 1;exact h2 i x vs hl hv
 subst this;rw [List.flatMap_def];exact h3
theorem zs5 {S:Nat->Prop} {v:Value} {ls:List (List Str)} {w:World} (hv:Sl (slT strT (by decide)) w S v ls) (hlen:ls.flatten.length<=1099511627776) :
  Calls Tryz.prog 61 #[v] w fun r w'=>∃ v',r=.returned v'/\Own w' w.heap.size 9 1 v' ls.flatten.length (ls.flatten.flatMap strC)/\Ext w w':=by
 have hv':=hv;obtain⟨A,c,rfl,hc1,hc2⟩:=hv.form;have HAT:=zH (fun (pre post:List (List Str)) (l:List Str) (wr:World) (h:Ext w wr) (hl:ls=pre++l :: post)=>yaw hv' h hl)
 have HLE:=zH (fun (pre post:List (List Str)) (l:List Str) (hl:ls=pre++l :: post)=>(show pre.flatten.length+l.length<=1099511627776 from by have:=hlen;rw [hl,List.flatten_append,List.flatten_cons,List.length_append,List.length_append] at this;omega))
 have HG:=zH (zxs ls.flatten.length w hlen);clear hv hv';go_enter Tryz.func61,Tryz.ntmps61;go_wp2_with fail
 go_loopw [3,11] (fun z i wr=>∃ pre post,ls=pre++post/\i=I pre.length/\z=I pre.flatten.length/\wr=w) (fun _ i _=>ls.length - (intOf i).toNat)
 case atStart=>exact⟨[],ls,rfl,rfl,rfl,rfl⟩
 case round =>
  obtain⟨pre,post,hl,rfl,rfl,rfl⟩:=hrel
  cases post with
  | cons l post =>
   obtain⟨b,o,vl,rfl,hd,hsl⟩:=HAT.out pre post l _ (Ext.refl _) hl;have hlt:pre.length < ls.length:=(by rw [hl];simp);obtain⟨A2,c2,rfl,hc3,hc4⟩:=hsl.form;have hle:=HLE.out pre post l hl;have hwz:wrap64 ((pre.flatten.length:Int)+(l.length:Int))=((pre.flatten.length+l.length:Nat):Int):=(by unfold wrap64;omega);have hneg:(((pre.flatten.length+l.length:Nat):Int) < 0)=False:=eq_false (by omega);have HL:=zH hl;obtain⟨z,hz⟩:∃ z,z=pre.flatten.length:=⟨_,rfl⟩
   have HZ:=zH hz;rw [<- hz] at hwz hneg ⊢;clear hl hsl hle hz;go_wp2_with fail;go_roundw
   case rel=>exact⟨pre++[l],post,by rw [HL.out];simp,by simp,by rw [List.flatten_append,List.flatten_cons,List.flatten_nil,List.append_nil,List.length_append,<- HZ.out];first | rfl | rw [hwz] | simp,by first | rfl | trivial⟩
   case measure=>simp [intOf];omega
  | nil =>
   rw [List.append_nil] at hl;have HL:=zH hl;have hlen2:ls.length=pre.length:=(by rw [hl]);have HF:=zH (show ls.flatten.length=pre.flatten.length by rw [hl]);have HG2:=HG.out;rw [HF.out] at HG2;obtain⟨z,hz⟩:∃ z,z=pre.flatten.length:=⟨_,rfl⟩
   rw [<- hz] at HG2 ⊢;have HG3:=zH HG2;clear hl hz HG2 HG HF HL;go_wp2_with fail;refine HG3.out.mono ?_;rintro r W1 ⟨v1,rfl,hown1,hx1⟩;obtain⟨A1,c1,rfl,-,-⟩:=hown1.form;have HO1:=zH hown1;have HX1:=zH hx1;clear hown1 hx1;go_wp2_with fail
   go_loopw [6,27] (fun u i wr=>∃ pre post,ls=pre++post/\i=I pre.length/\Own wr _ 9 1 u pre.flatten.length (pre.flatten.flatMap strC)/\Ext _ wr) (fun _ i _=>ls.length - (intOf i).toNat)
   case atStart=>exact⟨[],ls,rfl,rfl,HO1.out,HX1.out⟩
   case round =>
    obtain⟨pre,post,hl,rfl,hown,hx⟩:=hrel
    cases post with
    | cons l post =>
     obtain⟨b,o,vl,rfl,hd,hsl⟩:=HAT.out pre post l _ hx hl;have hlt:pre.length < ls.length:=(by rw [hl];simp);obtain⟨A2,c2,rfl,hc3,hc4⟩:=hsl.form;have hle:=HLE.out pre post l hl;have hsrc:=ya7 (hsl.ext (by decide) hx);have HL:=zH hl;have HO:=zH hown;have HX:=zH hx;have hn3:=hx.size;obtain⟨A4,c4,rfl,-,-⟩:=hown.form;clear hl hsl hx
     go_wp2_with (at_builtin;refine zal rfl (.tmp 31) (.tmp 32) 24 rfl _ 9 1 16 (St []) Tryz.underlying24 zd7 rfl (by omega) _ pre.flatten.length (pre.flatten.flatMap strC) rfl hown _ l.length _ (l.flatMap strC) rfl hsrc (by omega) (by omega) hn3 ?_;intro v' w' hown2 hgr;clear hsrc)
     go_roundw
     case rel=>exact⟨pre++[l],post,by rw [HL.out];simp,by simp,by simpa using hown2,Ext.grewOwn HX.out hgr HO.out (Nat.le_refl _)⟩
     case measure=>simp [intOf];omega
    | nil=>rw [List.append_nil] at hl;have HL:=zH hl;have hlen2:ls.length=pre.length:=(by rw [hl]);have HO:=zH hown;have HX:=zH hx;obtain⟨A4,c4,rfl,-,-⟩:=hown.form;clear hl hx hown;go_wp2_with fail;go_ret;exact⟨_,rfl,by rw [HL.out];exact HO.out,HX.out⟩
end
end Go.Proofs.YtaabaflgeljbjaaGreat
