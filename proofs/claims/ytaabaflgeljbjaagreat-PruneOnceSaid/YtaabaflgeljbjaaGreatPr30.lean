/- Laws. -/
import Derived.Test.YtaabaflgeljbjaaGreatPr26
import Derived.Test.YtaabaflgeljbjaaGreatPr28
import Derived.Test.YtaabaflgeljbjaaGreatPr01
import Derived.Test.YtaabaflgeljbjaaGreatPr22
set_option linter.unusedVariables false
set_option linter.unusedSimpArgs false
set_option maxRecDepth 100000
set_option maxHeartbeats 40000000
namespace Go.Proofs.YtaabaflgeljbjaaGreat
section
open Go.RowKit Go.Shelf
theorem zir:SmallE zak:=⟨by decide,by decide,by decide,(fun it h=>by cases h),by decide⟩
theorem zjy {l:List Entry} {k:Str} {m:Entry} (h:za4 l k=some m):m ∈ l:=List.mem_of_find?_eq_some h
theorem zpt {l:List Entry} {k:Str} {m:Entry} (h:za4 l k=some m):m.key=k:=by simpa using List.find?_some h
theorem zn8 {l:List Entry} (h:∀ e ∈ l,SmallE e) (k:Str):SmallE ((za4 l k).getD zak):=by
 cases hf:za4 l k with
 | none=>exact zir
 | some m=>exact h m (zjy hf)
theorem ya5 {S:Nat->Prop} {s:State} {v1 v2 v3:Value} {w:World} (k:Str) (h:StAt w S s v1 v2 v3) (sm:∀ e ∈ s.entries,SmallE e) :
  Calls Tryz.prog 37 #[stV v1 v2 v3,St k] w fun r w'=>∃ u1 u2 u3,r=.returned (.tuple #[entV ((za4 s.entries k).getD zak) u1 u2 u3,.bool (za4 s.entries k).isSome])/\EntNew w' w.heap.size ((za4 s.entries k).getD zak) u1 u2 u3/\Ext w w':=by
 obtain⟨sa,se,sp⟩:=s;obtain⟨A1,n1,A2,n2,A3,n3,rfl,rfl,rfl⟩:=h.fm;have hx0:=((Ext.refl w).alloc (.cells #[.slice A1 sa.length n1,.slice A2 se.length n2,.slice A3 sp.length n3] 26)).alloc (.cells #[St [],.slice none 0 0,.slice none 0 0,.slice none 0 0,.int .u64 0,St [],.bool false] 46);have rR0:=zaf (w.alloc (.cells #[.slice A1 sa.length n1,.slice A2 se.length n2,.slice A3 sp.length n3] 26)) 46 [St [],.slice none 0 0,.slice none 0 0,.slice none 0 0,.int .u64 0,St [],.bool false];rw [World.size_alloc] at rR0;have H1:=zH (znf k (h.entries.ext (by decide) hx0));have hz0:w.heap.size+2<=((w.alloc (.cells #[.slice A1 sa.length n1,.slice A2 se.length n2,.slice A3 sp.length n3] 26)).alloc (.cells #[St [],.slice none 0 0,.slice none 0 0,.slice none 0 0,.int .u64 0,St [],.bool false] 46)).heap.size:=by simp
 have HSM:=zH (zn8 sm k);clear h;go_enter Tryz.func37,Tryz.ntmps37;go_wp2_with fail;generalize (w.alloc (.cells #[.slice A1 sa.length n1,.slice A2 se.length n2,.slice A3 sp.length n3] 26)).alloc (.cells #[St [],.slice none 0 0,.slice none 0 0,.slice none 0 0,.int .u64 0,St [],.bool false] 46)=W0 at *;refine H1.out.mono ?_;rintro r W1 ⟨v1,v2,v3,rfl,hA,hx1⟩;simp only at hA HSM ⊢;have HS0:=zH HSM.out;clear HSM;generalize he:(za4 se k).getD zak=e at hA HS0 ⊢;generalize his:(za4 se k).isSome=is;have HE:=zH he;have HIS:=zH his;clear he his;obtain⟨C1,c1,C2,c2,C3,c3,rfl,rfl,rfl⟩:=hA.fm;have hxb:=(Ext.refl W1).alloc (.cells #[St e.key,.slice C1 e.seen.length c1,.slice C2 e.counts.length c2,.slice C3 e.items.length c3,U e.cell.1,St e.cell.2.1,.bool e.cell.2.2] 46);have HC:=zH (zgs (hA.ext hxb) (Nat.le_trans HS0.out.seen (by decide)) (Nat.le_trans HS0.out.counts (by decide)) (Nat.le_trans HS0.out.items (by decide)) (fun it hit=>Nat.le_trans (HS0.out.dots it hit) (by decide)));have hx01:=hx0.trans (hx1.trans hxb);have hz1:=(hx1.trans hxb).size;have rR1:=rR0.ext (hx1.trans hxb);clear hA hx0 hx1 rR0;go_wp2_with fail;refine HC.out.mono ?_;rintro r W2 ⟨u1,u2,u3,rfl,hn,hx2⟩;obtain⟨D1,d1,D2,d2,D3,d3,rfl,rfl,rfl⟩:=hn.fm;have hR:=rR1.ext hx2;obtain⟨r0,r1,r2,r3,r4,r5,r6⟩:=hR.p7;obtain⟨f0,f1,f2,f3,f4,f5,f6⟩:=hR.q7;have HX:=zH (hx01.trans hx2);have HN:=zH hn;clear hR rR1 hn hx2 hxb hx01;go_wp2_with fail
 (try simp only [Exit.inBlock,Exit.then])
 refine bodyPost_ret (v:=.tuple #[entV e (.slice D1 e.seen.length d1) (.slice D2 e.counts.length d2) (.slice D3 e.items.length d3),.bool is]) (by simp [results,Tryz.f37,go_sem,entV,entC,r0,r1,r2,r3,r4,r5,r6]) rfl ?_;have hp:=zk1 (q:=w.heap.size+1) HX.out (by omega) HN.out (by omega);refine ⟨.slice D1 e.seen.length d1,.slice D2 e.counts.length d2,.slice D3 e.items.length d3,by rw [HE.out,HIS.out],?_⟩;rw [HE.out];exact hp
theorem ValAt.lower {W:World} {base base':Nat} {e:Entry} {v:Value} (h:ValAt W base e v) (hb:base'<=base):ValAt W base' e v:=by
 unfold ValAt at h ⊢
 split
 ·rename_i h1;rw [if_pos h1] at h;exact h
 ·rename_i h1;rw [if_neg h1] at h
  split
  ·rename_i h2;rw [if_pos h2] at h;obtain⟨s,e1,o⟩:=h;exact⟨s,e1,o.lower hb⟩
  ·rename_i h2;rw [if_neg h2] at h;exact h
def atE (l:List Entry) (k:Str):Entry:=(za4 l k).getD { zak with key:=k }
theorem zzy {S:Nat->Prop} {s:State} {v1 v2 v3:Value} {w:World} (k:Str) (h:StAt w S s v1 v2 v3) (sm:∀ e ∈ s.entries,SmallE e) :
  Calls Tryz.prog 19 #[stV v1 v2 v3,St k] w fun r w'=>∃ v,r=.returned v/\ValAt w' w.heap.size (atE s.entries k) v/\Ext w w':=by
 obtain⟨sa,se,sp⟩:=s;obtain⟨A1,n1,A2,n2,A3,n3,rfl,rfl,rfl⟩:=h.fm;have hx0:=(Ext.refl w).alloc (.cells #[.slice A1 sa.length n1,.slice A2 se.length n2,.slice A3 sp.length n3] 26);have H1:=zH (znf k (h.entries.ext (by decide) hx0));have HSM:=zH sm;have HAT:=zH (show atE se k=(za4 se k).getD { zak with key:=k } from rfl);clear h sm;go_enter Tryz.func19,Tryz.ntmps19;go_wp2_with fail;generalize w.alloc (.cells #[.slice A1 sa.length n1,.slice A2 se.length n2,.slice A3 sp.length n3] 26)=W0 at *;refine H1.out.mono ?_;rintro r W1 ⟨v1,v2,v3,rfl,hA,hx1⟩;simp only at hA HSM HAT ⊢
 cases hf:za4 se k with
 | none =>
  have HAT2:=zH (show atE se k = { zak with key:=k } by rw [HAT.out,hf];rfl);rw [hf] at hA;simp only [Option.getD_none,Option.isSome_none] at hA ⊢;have hA2:EntAt W1 S { zak with key:=k } (.slice none 0 0) (.slice none 0 0) (.slice none 0 0):=⟨Sl.nil _ _ (by decide),Sl.nil _ _ (by decide),Sl.nil _ _ (by decide)⟩
  obtain⟨C1,c1,C2,c2,C3,c3,rfl,rfl,rfl⟩:=hA.fm;have hxb:=(Ext.refl W1).alloc (.cells #[St k,.slice none 0 0,.slice none 0 0,.slice none 0 0,.int .u64 0,St [],.bool false] 46);have HV:=zH (zn5 (hA2.ext hxb) (show (zab ([]:List Item)).length<=_ by decide));have HX:=zH (hx0.trans (hx1.trans hxb));clear hA hA2 hx0 hx1 hf HAT H1 hxb;go_wp2_with fail;refine HV.out.mono ?_;rintro r W2 ⟨v,rfl,hv,hx2⟩;have hs:=HX.out.size;have HVV:=zH hv;have HX2:=zH hx2;clear hv hx2;go_wp2_with fail;go_ret;exact⟨_,rfl,by rw [HAT2.out];exact HVV.out.lower hs,HX.out.trans HX2.out⟩
 | some e=>have HAT2:=zH (show atE se k=e by rw [HAT.out,hf];rfl);have hse:SmallE e:=HSM.out e (zjy hf);rw [hf] at hA;simp only [Option.getD_some,Option.isSome_some] at hA ⊢;obtain⟨C1,c1,C2,c2,C3,c3,rfl,rfl,rfl⟩:=hA.fm;have hxb:=(Ext.refl W1).alloc (.cells #[St e.key,.slice C1 e.seen.length c1,.slice C2 e.counts.length c2,.slice C3 e.items.length c3,U e.cell.1,St e.cell.2.1,.bool e.cell.2.2] 46);have HV:=zH (zn5 (hA.ext hxb) (Nat.le_trans hse.places (by decide)));have HX:=zH (hx0.trans (hx1.trans hxb));clear hA hx0 hx1 hf HAT H1 hxb;go_wp2_with fail;refine HV.out.mono ?_;rintro r W2 ⟨v,rfl,hv,hx2⟩;have hs:=HX.out.size;have HVV:=zH hv;have HX2:=zH hx2;clear hv hx2;go_wp2_with fail;go_ret;exact⟨_,rfl,by rw [HAT2.out];exact HVV.out.lower hs,HX.out.trans HX2.out⟩
end
section
end
end Go.Proofs.YtaabaflgeljbjaaGreat
