/- Contracts and plain laws. -/
import Derived.Test.YtaabaflgeljbjaaGreatPo35
import Derived.Test.YtaabaflgeljbjaaGreatPo06
import Derived.Test.YtaabaflgeljbjaaGreatPo22
import Derived.Test.YtaabaflgeljbjaaGreatPo34
import Derived.Test.YtaabaflgeljbjaaGreatPo23
import Derived.Test.YtaabaflgeljbjaaGreatPo11
import Derived.Test.YtaabaflgeljbjaaGreatPo28
import Derived.Test.YtaabaflgeljbjaaGreatPo19
import Derived.Test.YtaabaflgeljbjaaGreatPo27
set_option linter.unusedVariables false
set_option linter.unusedSimpArgs false
set_option maxRecDepth 100000
set_option maxHeartbeats 40000000
namespace Go.Proofs.YtaabaflgeljbjaaGreat
section
open Go.RowKit Go.Shelf
theorem zsg {S:Nat->Prop} {e:Entry} {v1 v2 v3:Value} {W:World} {B:Nat} (hb:RowIs W B 46 (entL e v1 v2 v3) []) (h:EntAt W S e v1 v2 v3) :
  Calls Tryz.prog 100 #[.pointer (some ⟨B,0,none⟩)] W fun r w'=>r=.returned (.iface 2 (I (zba e.counts)))/\Ext W w':=by
 have HC:=zH (zg6 h.counts);obtain⟨A2,n2,rfl,-,-⟩:=h.counts.form;have k2:=hb.cell (j:=2) rfl;clear h hb;go_enter Tryz.func100,Tryz.ntmps100;go_wp2_with fail;refine HC.out.mono ?_;rintro r W1 ⟨rfl,hx1⟩;go_wp2_with fail;go_ret;exact⟨rfl,hx1⟩
theorem zsh {S:Nat->Prop} {e:Entry} {v1 v2 v3:Value} {W:World} {B:Nat} (hl:(zac e.items).length<=1099511627776) (hb:RowIs W B 46 (entL e v1 v2 v3) []) (h:EntAt W S e v1 v2 v3) :
  Calls Tryz.prog 102 #[.pointer (some ⟨B,0,none⟩)] W fun r w'=>∃ s,r=.returned (.iface 24 s)/\Own w' W.heap.size 9 1 s (zbg e.items).length ((zbg e.items).flatMap strC)/\Ext W w':=by
 have HC:=zH (zuo h.items hl);obtain⟨A3,n3,rfl,-,-⟩:=h.items.form;have k3:=hb.cell (j:=3) rfl;clear h hb;go_enter Tryz.func102,Tryz.ntmps102;go_wp2_with fail;refine HC.out.mono ?_;rintro r W1 ⟨v',rfl,ho,hx1⟩;obtain⟨A,n,rfl,-,-⟩:=ho.form;go_wp2_with fail;go_ret;exact⟨_,rfl,ho,hx1⟩
def zf2 (c:Cell):Value:=if (zbv c).2 then .iface 9 (St (zbv c).1) else .nilIface
theorem zsi {S:Nat->Prop} {e:Entry} {v1 v2 v3:Value} {W:World} {B:Nat} (hb:RowIs W B 46 (entL e v1 v2 v3) []) (h:EntAt W S e v1 v2 v3) :
  Calls Tryz.prog 104 #[.pointer (some ⟨B,0,none⟩)] W fun r w'=>r=.returned (zf2 e.cell)/\Ext W w':=by
 obtain⟨ek,es,ec,ei,x1,x2,x3⟩:=e;have HC:=zH (zur (x1,x2,x3) W);have HV:=zH (show zf2 (x1,x2,x3)=if (zbv (x1,x2,x3)).2 then .iface 9 (St (zbv (x1,x2,x3)).1) else .nilIface from rfl);generalize zf2 (x1,x2,x3)=V at *;have k4:=hb.cell (j:=4) rfl;have k5:=hb.cell (j:=5) rfl;have k6:=hb.cell (j:=6) rfl;clear h hb;go_enter Tryz.func104,Tryz.ntmps104;go_wp2_with fail;refine HC.out.mono ?_;rintro r W1 ⟨rfl,hx1⟩;generalize zbv (x1,x2,x3)=p at *;obtain⟨p1,p2⟩:=p
 cases p2 with
 | false=>go_wp2_with fail;go_ret;exact⟨by rw [HV.out];rfl,hx1⟩
 | true=>go_wp2_with fail;go_ret;exact⟨by rw [HV.out];rfl,hx1⟩
def ValAt (W:World) (base:Nat) (e:Entry) (v:Value):Prop :=
 if zaq e.key=1 then v=.iface 2 (I (zba e.counts)) else
 if zaq e.key=2 then (∃ s,v=.iface 24 s/\Own W base 9 1 s (zbg e.items).length ((zbg e.items).flatMap strC)) else
 if zaq e.key=3 then v=zf2 e.cell else v=.nilIface
theorem zya (B:Nat) (w:World):(zeroValue 169).run Tryz.prog w=.ok (mayV B none) w:=Tryz.zeroValue169 w
theorem zly {S:Nat->Prop} {e:Entry} {v1 v2 v3:Value} {w:World} (h:EntAt w S e v1 v2 v3) (hl40:(zac e.items).length<=1099511627776) :
  Calls Tryz.prog 50 #[entV e v1 v2 v3] w fun r w'=>∃ v,r=.returned v/\ValAt w' w.heap.size e v/\Ext w w':=by
 obtain⟨ek,es,ec,ei,x1,x2,x3⟩:=e;have H:=zH h;obtain⟨A1,n1,rfl,-,-⟩:=h.seen.form;obtain⟨A2,n2,rfl,-,-⟩:=h.counts.form;obtain⟨A3,n3,rfl,-,-⟩:=h.items.form;have hx0:=(Ext.refl w).alloc (.cells #[St ek,.slice A1 es.length n1,.slice A2 ec.length n2,.slice A3 ei.length n3,U x1,St x2,.bool x3] 46);have hb0:=zai w 46 [St ek,.slice A1 es.length n1,.slice A2 ec.length n2,.slice A3 ei.length n3,U x1,St x2,.bool x3];clear h;have eg1:∀ args w,(callFunc 100 args).run Tryz.prog w=.ok (.enter 100 args) w:=enters_of Tryz.func100 (by kernel_rfl) rfl;have eg2:∀ args w,(callFunc 102 args).run Tryz.prog w=.ok (.enter 102 args) w:=enters_of Tryz.func102 (by kernel_rfl) rfl;have eg3:∀ args w,(callFunc 104 args).run Tryz.prog w=.ok (.enter 104 args) w:=enters_of Tryz.func104 (by kernel_rfl) rfl;have hmm:=@run_makeMap Tryz.prog;obtain⟨W0,hW0⟩:∃ W0,w.alloc (.cells #[St ek,.slice A1 es.length n1,.slice A2 ec.length n2,.slice A3 ei.length n3,U x1,St x2,.bool x3] 46)=W0:=⟨_,rfl⟩
 rw [hW0] at hx0 hb0;have hz1:=hb0.lt;obtain⟨Wa,ua,ma,ta⟩:=zas (P:=Tryz.prog) (t:=170) Tryz.underlying170 keyOk8 (MapIs.new (K:=K8) (V:=mayV w.heap.size) W0) 1 (some 100);obtain⟨Wb,ub,mb,tb⟩:=zas (P:=Tryz.prog) (t:=170) Tryz.underlying170 keyOk8 ma 2 (some 102);obtain⟨Wc,uc,mc,tc⟩:=zas (P:=Tryz.prog) (t:=170) Tryz.underlying170 keyOk8 mb 3 (some 104);have hxa:=((Ext.refl W0).alloc (.map #[] 0)).turned ta (Nat.le_refl _);have hxb:=hxa.turned tb (Nat.le_refl _);have hxc:=hxb.turned tc (Nat.le_refl _);have d0:=(hb0.ext hxc).cell (j:=0) rfl;have HK:=zH (zis ek Wc);have HC:=zH mc;have HXC:=zH hxc;clear ta tb tc hxa hxb hxc ma mb mc;have ua':(Instr.mapUpdate 170 (.map (some W0.heap.size)) (.int .u8 1) (.func (.func 100) #[] #[.pointer (some ⟨w.heap.size,0,none⟩)])).run Tryz.prog (W0.alloc (.map #[] 0))=.ok () Wa:=ua;have ub':(Instr.mapUpdate 170 (.map (some W0.heap.size)) (.int .u8 2) (.func (.func 102) #[] #[.pointer (some ⟨w.heap.size,0,none⟩)])).run Tryz.prog Wa=.ok () Wb:=ub;have uc':(Instr.mapUpdate 170 (.map (some W0.heap.size)) (.int .u8 3) (.func (.func 104) #[] #[.pointer (some ⟨w.heap.size,0,none⟩)])).run Tryz.prog Wb=.ok () Wc:=uc;clear ua ub uc;go_enter Tryz.func50,Tryz.ntmps50;go_wp2_with fail;refine HK.out.mono ?_;rintro r W2 ⟨rfl,hx2⟩;have hL:=(zbk (P:=Tryz.prog) (t:=170) (z:=none) Tryz.underlying170 keyOk8 (zya w.heap.size) (HC.out.ext hx2) (zaq ek)).2;have HB2:=zH (hb0.ext (HXC.out.trans hx2));have HX2:=zH (hx0.trans (HXC.out.trans hx2));have HKK:=zH (show ∀ W b v,ValAt W b ⟨ek,es,ec,ei,(x1,x2,x3)⟩ v=(if zaq ek=1 then v=.iface 2 (I (zba ec)) else if zaq ek=2 then (∃ s,v=.iface 24 s/\Own W b 9 1 s (zbg ei).length ((zbg ei).flatMap strC)) else if zaq ek=3 then v=zf2 (x1,x2,x3) else v=.nilIface) from fun _ _ _=>rfl);generalize zaq ek=kk at *;have hL':(Instr.lookup 170 (.map (some W0.heap.size)) (U8 kk) true).run Tryz.prog W2=.ok (.tuple #[mayV w.heap.size (getL none (putL (putL (putL [] 1 (some 100)) 2 (some 102)) 3 (some 104)) kk),.bool (decide (kk ∈ [1,2,3]))]) W2:=hL;clear hL;rcases (show kk=1 ∨ kk=2 ∨ kk=3 ∨ (kk ≠ 1/\kk ≠ 2/\kk ≠ 3) by omega) with h1 | h1 | h1 | ⟨h1,h2,h3⟩
 ·subst h1;have hl:(Instr.lookup 170 (.map (some W0.heap.size)) (U8 1) true).run Tryz.prog W2=.ok (.tuple #[.func (.func 100) #[] #[.pointer (some ⟨w.heap.size,0,none⟩)],.bool true]) W2:=hL';clear hL';have HT:=zH (zsg HB2.out (H.out.ext HX2.out));go_wp2_with fail;refine HT.out.mono ?_;rintro r W3 ⟨rfl,hx3⟩;have HX3:=zH (HX2.out.trans hx3);have hsz:=HX2.out.size;clear hx3;go_wp2_with fail;go_ret;exact⟨_,rfl,by rw [HKK.out];exact rfl,HX3.out⟩
 ·subst h1;have hl:(Instr.lookup 170 (.map (some W0.heap.size)) (U8 2) true).run Tryz.prog W2=.ok (.tuple #[.func (.func 102) #[] #[.pointer (some ⟨w.heap.size,0,none⟩)],.bool true]) W2:=hL';clear hL';have HT:=zH (zsh hl40 HB2.out (H.out.ext HX2.out));go_wp2_with fail;refine HT.out.mono ?_;rintro r W3 ⟨s,rfl,ho,hx3⟩;have HX3:=zH (HX2.out.trans hx3);have hsz:=HX2.out.size;clear hx3;go_wp2_with fail;go_ret;exact⟨_,rfl,by rw [HKK.out];exact⟨_,rfl,ho.lower hsz⟩,HX3.out⟩
 ·subst h1;have hl:(Instr.lookup 170 (.map (some W0.heap.size)) (U8 3) true).run Tryz.prog W2=.ok (.tuple #[.func (.func 104) #[] #[.pointer (some ⟨w.heap.size,0,none⟩)],.bool true]) W2:=hL';clear hL';have HT:=zH (zsi HB2.out (H.out.ext HX2.out));go_wp2_with fail;refine HT.out.mono ?_;rintro r W3 ⟨rfl,hx3⟩;have HX3:=zH (HX2.out.trans hx3);have hsz:=HX2.out.size;clear hx3;go_wp2_with fail;go_ret;exact⟨_,rfl,by rw [HKK.out];exact rfl,HX3.out⟩
 ·have hl:(Instr.lookup 170 (.map (some W0.heap.size)) (U8 kk) true).run Tryz.prog W2=.ok (.tuple #[.nilFunc,.bool false]) W2:=by
   rw [hL'];have e2:(kk == 1)=false:=(by simp;omega);have e3:(kk == 2)=false:=(by simp;omega);have e4:(kk == 3)=false:=(by simp;omega);simp [getL,putL,List.lookup,e2,e3,e4,h1,h2,h3,mayV]
  clear hL';go_wp2_with fail;go_ret;exact⟨_,rfl,by rw [HKK.out,if_neg h1,if_neg h2,if_neg h3];rfl,HX2.out⟩
end
section
open Go.RowKit Go.Shelf
theorem zsj:SmallE zam:=⟨by decide,by decide,by decide,(fun it h=>by cases h),by decide⟩
theorem zhs {l:List Entry} {k:Str} {m:Entry} (h:za4 l k=some m):m ∈ l:=List.mem_of_find?_eq_some h
theorem zm2 {l:List Entry} {k:Str} {m:Entry} (h:za4 l k=some m):m.key=k:=by simpa using List.find?_some h
theorem zlz {l:List Entry} (h:∀ e ∈ l,SmallE e) (k:Str):SmallE ((za4 l k).getD zam):=by
 cases hf:za4 l k with
 | none=>exact zsj
 | some m=>exact h m (zhs hf)
theorem zxv {S:Nat->Prop} {s:State} {v1 v2 v3:Value} {w:World} (k:Str) (h:StAt w S s v1 v2 v3) (sm:∀ e ∈ s.entries,SmallE e) :
  Calls Tryz.prog 37 #[stV v1 v2 v3,St k] w fun r w'=>∃ u1 u2 u3,r=.returned (.tuple #[entV ((za4 s.entries k).getD zam) u1 u2 u3,.bool (za4 s.entries k).isSome])/\EntNew w' w.heap.size ((za4 s.entries k).getD zam) u1 u2 u3/\Ext w w':=by
 obtain⟨sa,se,sp⟩:=s;obtain⟨A1,n1,rfl,-,-⟩:=h.all.form;obtain⟨A2,n2,rfl,-,-⟩:=h.entries.form;obtain⟨A3,n3,rfl,-,-⟩:=h.pruned.form;have hx0:=((Ext.refl w).alloc (.cells #[.slice A1 sa.length n1,.slice A2 se.length n2,.slice A3 sp.length n3] 26)).alloc (.cells #[St [],.slice none 0 0,.slice none 0 0,.slice none 0 0,.int .u64 0,St [],.bool false] 46);have rR0:=zai (w.alloc (.cells #[.slice A1 sa.length n1,.slice A2 se.length n2,.slice A3 sp.length n3] 26)) 46 [St [],.slice none 0 0,.slice none 0 0,.slice none 0 0,.int .u64 0,St [],.bool false];rw [World.size_alloc] at rR0;have H1:=zH (zk8 k (h.entries.ext (by decide) hx0));have hz0:w.heap.size+2<=((w.alloc (.cells #[.slice A1 sa.length n1,.slice A2 se.length n2,.slice A3 sp.length n3] 26)).alloc (.cells #[St [],.slice none 0 0,.slice none 0 0,.slice none 0 0,.int .u64 0,St [],.bool false] 46)).heap.size:=by simp
 have HSM:=zH (zlz sm k);clear h;go_enter Tryz.func37,Tryz.ntmps37;go_wp2_with fail;generalize (w.alloc (.cells #[.slice A1 sa.length n1,.slice A2 se.length n2,.slice A3 sp.length n3] 26)).alloc (.cells #[St [],.slice none 0 0,.slice none 0 0,.slice none 0 0,.int .u64 0,St [],.bool false] 46)=W0 at *;refine H1.out.mono ?_;rintro r W1 ⟨v1,v2,v3,rfl,hA,hx1⟩;simp only at hA HSM ⊢;have HS0:=zH HSM.out;clear HSM;generalize he:(za4 se k).getD zam=e at hA HS0 ⊢;generalize his:(za4 se k).isSome=is;have HE:=zH he;have HIS:=zH his;clear he his;obtain⟨C1,c1,rfl,-,-⟩:=hA.seen.form;obtain⟨C2,c2,rfl,-,-⟩:=hA.counts.form;obtain⟨C3,c3,rfl,-,-⟩:=hA.items.form;have hxb:=(Ext.refl W1).alloc (.cells #[St e.key,.slice C1 e.seen.length c1,.slice C2 e.counts.length c2,.slice C3 e.items.length c3,U e.cell.1,St e.cell.2.1,.bool e.cell.2.2] 46);have HC:=zH (zgc (hA.ext hxb) (Nat.le_trans HS0.out.seen (by decide)) (Nat.le_trans HS0.out.counts (by decide)) (Nat.le_trans HS0.out.items (by decide)) (fun it hit=>Nat.le_trans (HS0.out.dots it hit) (by decide)));have hx01:=hx0.trans (hx1.trans hxb);have hz1:=(hx1.trans hxb).size;have rR1:=rR0.ext (hx1.trans hxb);clear hA hx0 hx1 rR0;go_wp2_with fail;refine HC.out.mono ?_;rintro r W2 ⟨u1,u2,u3,rfl,hn,hx2⟩;obtain⟨D1,d1,rfl,-,-⟩:=hn.seen.form;obtain⟨D2,d2,rfl,-,-⟩:=hn.counts.form;obtain⟨D3,d3,rfl,-,-⟩:=hn.items.form;have hR:=rR1.ext hx2;obtain⟨r0,r1,r2,r3,r4,r5,r6⟩:=hR.p7;obtain⟨f0,f1,f2,f3,f4,f5,f6⟩:=hR.q7;have HX:=zH (hx01.trans hx2);have HN:=zH hn;clear hR rR1 hn hx2 hxb hx01;go_wp2_with fail
 (try simp only [Exit.inBlock,Exit.then])
 refine bodyPost_ret (v:=.tuple #[entV e (.slice D1 e.seen.length d1) (.slice D2 e.counts.length d2) (.slice D3 e.items.length d3),.bool is]) (by simp [results,Tryz.f37,go_sem,entV,entC,r0,r1,r2,r3,r4,r5,r6]) rfl ?_;have hp:=zwh (q:=w.heap.size+1) HX.out (by omega) HN.out (by omega);refine ⟨.slice D1 e.seen.length d1,.slice D2 e.counts.length d2,.slice D3 e.items.length d3,by rw [HE.out,HIS.out],?_⟩;rw [HE.out];exact hp
theorem ValAt.lower {W:World} {base base':Nat} {e:Entry} {v:Value} (h:ValAt W base e v) (hb:base'<=base):ValAt W base' e v:=by
 unfold ValAt at h ⊢
 split
 ·rename_i h1;rw [if_pos h1] at h;exact h
 ·rename_i h1;rw [if_neg h1] at h
  split
  ·rename_i h2;rw [if_pos h2] at h;obtain⟨s,e1,o⟩:=h;exact⟨s,e1,o.lower hb⟩
  ·rename_i h2;rw [if_neg h2] at h;exact h
def atE (l:List Entry) (k:Str):Entry:=(za4 l k).getD { zam with key:=k }
theorem zla {S:Nat->Prop} {s:State} {v1 v2 v3:Value} {w:World} (k:Str) (h:StAt w S s v1 v2 v3) (sm:∀ e ∈ s.entries,SmallE e) :
  Calls Tryz.prog 19 #[stV v1 v2 v3,St k] w fun r w'=>∃ v,r=.returned v/\ValAt w' w.heap.size (atE s.entries k) v/\Ext w w':=by
 obtain⟨sa,se,sp⟩:=s;obtain⟨A1,n1,rfl,-,-⟩:=h.all.form;obtain⟨A2,n2,rfl,-,-⟩:=h.entries.form;obtain⟨A3,n3,rfl,-,-⟩:=h.pruned.form;have hx0:=(Ext.refl w).alloc (.cells #[.slice A1 sa.length n1,.slice A2 se.length n2,.slice A3 sp.length n3] 26);have H1:=zH (zk8 k (h.entries.ext (by decide) hx0));have HSM:=zH sm;have HAT:=zH (show atE se k=(za4 se k).getD { zam with key:=k } from rfl);clear h sm;go_enter Tryz.func19,Tryz.ntmps19;go_wp2_with fail;generalize w.alloc (.cells #[.slice A1 sa.length n1,.slice A2 se.length n2,.slice A3 sp.length n3] 26)=W0 at *;refine H1.out.mono ?_;rintro r W1 ⟨v1,v2,v3,rfl,hA,hx1⟩;simp only at hA HSM HAT ⊢
 cases hf:za4 se k with
 | none =>
  have HAT2:=zH (show atE se k = { zam with key:=k } by rw [HAT.out,hf];rfl);rw [hf] at hA;simp only [Option.getD_none,Option.isSome_none] at hA ⊢;have hA2:EntAt W1 S { zam with key:=k } (.slice none 0 0) (.slice none 0 0) (.slice none 0 0):=⟨Sl.nil _ _ (by decide),Sl.nil _ _ (by decide),Sl.nil _ _ (by decide)⟩
  obtain⟨C1,c1,rfl,-,-⟩:=hA.seen.form;obtain⟨C2,c2,rfl,-,-⟩:=hA.counts.form;obtain⟨C3,c3,rfl,-,-⟩:=hA.items.form;have hxb:=(Ext.refl W1).alloc (.cells #[St k,.slice none 0 0,.slice none 0 0,.slice none 0 0,.int .u64 0,St [],.bool false] 46);have HV:=zH (zly (hA2.ext hxb) (show (zac ([]:List Item)).length<=_ by decide));have HX:=zH (hx0.trans (hx1.trans hxb));clear hA hA2 hx0 hx1 hf HAT H1 hxb;go_wp2_with fail;refine HV.out.mono ?_;rintro r W2 ⟨v,rfl,hv,hx2⟩;have hs:=HX.out.size;have HVV:=zH hv;have HX2:=zH hx2;clear hv hx2;go_wp2_with fail;go_ret;exact⟨_,rfl,by rw [HAT2.out];exact HVV.out.lower hs,HX.out.trans HX2.out⟩
 | some e=>have HAT2:=zH (show atE se k=e by rw [HAT.out,hf];rfl);have hse:SmallE e:=HSM.out e (zhs hf);rw [hf] at hA;simp only [Option.getD_some,Option.isSome_some] at hA ⊢;obtain⟨C1,c1,rfl,-,-⟩:=hA.seen.form;obtain⟨C2,c2,rfl,-,-⟩:=hA.counts.form;obtain⟨C3,c3,rfl,-,-⟩:=hA.items.form;have hxb:=(Ext.refl W1).alloc (.cells #[St e.key,.slice C1 e.seen.length c1,.slice C2 e.counts.length c2,.slice C3 e.items.length c3,U e.cell.1,St e.cell.2.1,.bool e.cell.2.2] 46);have HV:=zH (zly (hA.ext hxb) (Nat.le_trans hse.places (by decide)));have HX:=zH (hx0.trans (hx1.trans hxb));clear hA hx0 hx1 hf HAT H1 hxb;go_wp2_with fail;refine HV.out.mono ?_;rintro r W2 ⟨v,rfl,hv,hx2⟩;have hs:=HX.out.size;have HVV:=zH hv;have HX2:=zH hx2;clear hv hx2;go_wp2_with fail;go_ret;exact⟨_,rfl,by rw [HAT2.out];exact HVV.out.lower hs,HX.out.trans HX2.out⟩
end
section
open Go.RowKit Go.Shelf
def Did (W w':World) (E pr:Nat) (S:Nat->Prop) (e':Entry) (v1:Value):Prop :=
 ∃ u2 u3,RowIs w' E 46 (entL e' v1 u2 u3) []/\EntAt w' (fun b=>S b ∨ W.heap.size<=b) e' v1 u2 u3/\Kept2 W w' E pr
def MvE (E:Nat) (w w':World):Prop:=w.heap.size<=w'.heap.size/\∀ b,b < w.heap.size->b ≠ E->w'.heap[b]? = w.heap[b]?
theorem MvE.refl (E:Nat) (w:World):MvE E w w:=⟨Nat.le_refl _,fun _ _ _=>rfl⟩
theorem Ext.mvE {E:Nat} {w w':World} (h:Ext w w'):MvE E w w':=⟨h.size,fun b hb _=>h.block b hb⟩
theorem MvE.set (E j:Nat) (w:World) (v:Value):MvE E w (w.setCell ⟨E,j,none⟩ v):=⟨by rw [World.size_setCell];exact Nat.le_refl _,fun b _ hb=>Below.heap_setCell _ _ _ _ hb⟩
theorem Own.mvE {w w':World} {base T k n E:Nat} {v:Value} {xs:List Value} (h:Own w base T k v n xs) (m:MvE E w w') (hE:E < base):Own w' base T k v n xs :=
 h.keep fun b hb hlt=>m.2 b hlt (by have:=(h.base_le hb).1;omega)
theorem OwnL.mvE {α:Type} {T:Shape α} {tid:Nat} {w w':World} {base E:Nat} {v:Value} {l:List α} (h:OwnL T tid w base (fun b=>base<=b) v l) (m:MvE E w w') (hE:E < base):OwnL T tid w' base (fun b=>base<=b) v l :=
 h.keep (fun b hb hlt=>m.2 b hlt (by omega)) fun b hb hlt=>m.2 b hlt (by have:=(h.base_le hb).1;omega)
theorem Kept2.refl (w:World) (p m:Nat):Kept2 w w p m:=⟨rfl,rfl,rfl,Nat.le_refl _,fun _ _ _ _=>rfl⟩
theorem Kept2.set1 {W w:World} {p m j:Nat} (k:Kept2 W w p m) (v:Value):Kept2 W (w.setCell ⟨p,j,none⟩ v) p m :=
 ⟨k.os,k.tape,k.output,by rw [World.size_setCell];exact k.size,fun b hb h1 h2=>(Below.heap_setCell _ _ _ _ h1).trans (k.other b hb h1 h2)⟩
theorem Kept2.set2 {W w:World} {p m j:Nat} (k:Kept2 W w p m) (v:Value):Kept2 W (w.setCell ⟨m,j,none⟩ v) p m :=
 ⟨k.os,k.tape,k.output,by rw [World.size_setCell];exact k.size,fun b hb h1 h2=>(Below.heap_setCell _ _ _ _ h2).trans (k.other b hb h1 h2)⟩
theorem Ext.kept {W w:World} (h:Ext W w) (p m:Nat):Kept2 W w p m:=⟨h.os,h.tape,h.output,h.size,fun j hj _ _=>h.block j hj⟩
theorem EntAt.kept {W w:World} {S:Nat->Prop} {e:Entry} {v1 v2 v3:Value} {p m:Nat} (h:EntAt W S e v1 v2 v3) (k:Kept2 W w p m) (hS:∀ b,S b->b ≠ p/\b ≠ m):EntAt w S e v1 v2 v3 :=
 ⟨h.seen.keep (by decide) fun b hb hlt=>k.other b hlt (hS b hb).1 (hS b hb).2,h.counts.keep (by decide) fun b hb hlt=>k.other b hlt (hS b hb).1 (hS b hb).2,h.items.keep (by decide) fun b hb hlt=>k.other b hlt (hS b hb).1 (hS b hb).2⟩
theorem zot {S:Nat->Prop} {W:World} {pe pr E:Nat} {e:Entry} {v1 v2 v3 z:Value} {pd:Nat} {d1:Str} (n:Int) (hn1:-9223372036854775808<=n) (hn2:n<=9223372036854775807) (hd:W.cell? ⟨pd,0,none⟩=some (St d1)) (hl:e.counts.length < 1099511627776)
  (hpe:W.cell? ⟨pe,0,none⟩=some (.pointer (some ⟨E,0,none⟩))) (hr:RowIs W pr 32 [z] []) (hE:RowIs W E 46 (entL e v1 v2 v3) []) (hA:EntAt W S e v1 v2 v3) (hS:∀ b,S b->b ≠ E/\b ≠ pr) (hpr:pr ≠ E) :
  Calls Tryz.prog 173 #[I n,.pointer (some ⟨pe,0,none⟩),.pointer (some ⟨pd,0,none⟩),.pointer (some ⟨pr,0,none⟩)] W fun r w'=>r=.returned (I (addC e.counts d1 n).2)/\Did W w' E pr S { e with counts:=(addC e.counts d1 n).1 } v1:=by
 obtain⟨A1,n1,rfl,-,-⟩:=hA.seen.form;obtain⟨A2,n2,rfl,-,-⟩:=hA.counts.form;obtain⟨A3,n3,rfl,-,-⟩:=hA.items.form;have HA:=zH hA;have HS:=zH hS;clear hA hS;have hEl:=hE.lt
 let J1:World->Prop:=fun w=>∃ u,Own w W.heap.size 54 3 u (addC e.counts d1 n).1.length ((addC e.counts d1 n).1.flatMap za5)/\RowIs w E 46 (entL e (.slice A1 e.seen.length n1) u (.slice A3 e.items.length n3)) []/\RowIs w pr 32 [z] []/\Kept2 W w E pr
 go_enter Tryz.func173,Tryz.ntmps173;go_wp2_with fail
 refine zfa [.early (fun v _=>v=.pointer (some ⟨E,0,none⟩)),
  .early (fun v _=>v=.pointer (some ⟨E,0,none⟩)),
  .early (fun v _=>v=.pointer (some ⟨E,0,none⟩)),
  .early (fun v _=>v=.pointer (some ⟨E,2,none⟩)),
  .early (fun v _=>v=.slice A2 e.counts.length n2),
  .early (fun v _=>v=.pointer (some ⟨pd,0,none⟩)),
  .early (fun v _=>v=St d1),
  .early (fun v _=>v=I n),
  .early (fun v W2=>∃ v4,v=.tuple #[v4,I (addC e.counts d1 n).2]/\Own W2 W.heap.size 54 3 v4 (addC e.counts d1 n).1.length ((addC e.counts d1 n).1.flatMap za5)),
  .early (fun v W2=>∃ v4,v=.tuple #[v4,I (addC e.counts d1 n).2]/\Own W2 W.heap.size 54 3 v4 (addC e.counts d1 n).1.length ((addC e.counts d1 n).1.flatMap za5)),
  .early (fun v W2=>Own W2 W.heap.size 54 3 v (addC e.counts d1 n).1.length ((addC e.counts d1 n).1.flatMap za5)),
  .late (fun v _=>v=I (addC e.counts d1 n).2),
  .early (fun v _=>v=.pointer (some ⟨E,0,none⟩)),
  .early (fun v _=>v=.pointer (some ⟨E,2,none⟩)),
  .store] 14 (fun w=>Ext W w) J1 (MvE E) rfl (by kernel_rfl) (by kernel_rfl) ?hR ?hJ ?hstep ?hend
 case hR=>simp only [List.mem_cons,List.not_mem_nil,or_false,forall_eq_or_imp,forall_eq,HF.fact];exact⟨kP,kP,kP,kP,kP,kP,kP,kP,fun v _ _ h he=>by obtain⟨u,e1,ho⟩:=h;exact⟨u,e1,ho.mvE he hEl⟩,fun v _ _ h he=>by obtain⟨u,e1,ho⟩:=h;exact⟨u,e1,ho.mvE he hEl⟩,fun v _ _ h he=>h.mvE he hEl,kP,kP,kP,kP⟩
 case hJ=>exact (Ext.refl W).drew
 case hstep =>
  simp only [List.length_cons,List.length_nil,Nat.reduceAdd,List.take_succ_cons,List.take_zero,zc4,and_true];refine ⟨?_,?_,?_,?_,?_,?_,?_,?_,?_,?_,?_,?_,?_,?_,?_⟩
  ·intro x W1 hj f;have h:x 1=.pointer (some ⟨pe,0,none⟩):=f.1;have hc:=hj.cell hpe;go_wp;exact zah rfl ⟨hj,MvE.refl _ _⟩
  ·intro x W1 hj f;have h:x 1=.pointer (some ⟨pe,0,none⟩):=f.1;have hc:=hj.cell hpe;go_wp;exact zah rfl ⟨hj,MvE.refl _ _⟩
  ·intro x W1 hj f;have h:x 8=.pointer (some ⟨E,0,none⟩):=f.1;go_wp;exact zah rfl ⟨hj,MvE.refl _ _⟩
  ·intro x W1 hj f;have h:x 9=.pointer (some ⟨E,0,none⟩):=f.1;go_wp;exact zah rfl ⟨hj,MvE.refl _ _⟩
  ·intro x W1 hj f;have h:x 10=.pointer (some ⟨E,2,none⟩):=f.1;have hc:=(hE.ext hj).cell (j:=2) rfl;go_wp;exact zah rfl ⟨hj,MvE.refl _ _⟩
  ·intro x W1 hj f;have h:x 2=.pointer (some ⟨pd,0,none⟩):=f.1;go_wp;exact zah rfl ⟨hj,MvE.refl _ _⟩
  ·intro x W1 hj f;have h:x 12=.pointer (some ⟨pd,0,none⟩):=f.1;have hc:=hj.cell hd;go_wp;exact zah rfl ⟨hj,MvE.refl _ _⟩
  ·intro x W1 hj f;have h:x 0=I n:=f.1;go_wp;exact zah rfl ⟨hj,MvE.refl _ _⟩
  ·intro x W1 hj f;have h1:x 11=.slice A2 e.counts.length n2:=f.1;have h2:x 13=St d1:=f.2.1;have h3:x 14=I n:=f.2.2.1;have hs:=hj.size;have HC:=zH (zv3 d1 n hn1 hn2 (HA.out.counts.ext (by decide) hj) hl);go_wp;refine HC.out.mono ?_;rintro r W2 ⟨v4,rfl,ho,hx2⟩;dsimp only;go_wp;exact zah (v:=.tuple #[v4,I (addC e.counts d1 n).2]) ⟨v4,rfl,ho.lower hs⟩ ⟨hj.trans hx2,hx2.mvE⟩
  ·intro x W1 hj f;obtain⟨v4,h,ho⟩:∃ v4,x 15=.tuple #[v4,I (addC e.counts d1 n).2]/\Own W1 W.heap.size 54 3 v4 (addC e.counts d1 n).1.length ((addC e.counts d1 n).1.flatMap za5):=f.1;go_wp;exact zah ⟨v4,rfl,ho⟩ ⟨hj,MvE.refl _ _⟩
  ·intro x W1 hj f;obtain⟨v4,h,ho⟩:∃ v4,x 6=.tuple #[v4,I (addC e.counts d1 n).2]/\Own W1 W.heap.size 54 3 v4 (addC e.counts d1 n).1.length ((addC e.counts d1 n).1.flatMap za5):=f.1;go_wp;exact zah ho ⟨hj,MvE.refl _ _⟩
  ·intro x W1 b hj f;obtain⟨v4,h,ho⟩:∃ v4,x 6=.tuple #[v4,I (addC e.counts d1 n).2]/\Own W1 W.heap.size 54 3 v4 (addC e.counts d1 n).1.length ((addC e.counts d1 n).1.flatMap za5):=f.1;go_wp;exact zah rfl ⟨hj,MvE.refl _ _⟩
  ·intro x W1 hj f;have h:x 7=.pointer (some ⟨E,0,none⟩):=f.1;go_wp;exact zah rfl ⟨hj,MvE.refl _ _⟩
  ·intro x W1 hj f;have h:x 18=.pointer (some ⟨E,0,none⟩):=f.1;go_wp;exact zah rfl ⟨hj,MvE.refl _ _⟩
  ·intro x W1 hj f;have h:x 19=.pointer (some ⟨E,2,none⟩):=f.1;have ho:Own W1 W.heap.size 54 3 (x 16) (addC e.counts d1 n).1.length ((addC e.counts d1 n).1.flatMap za5):=f.2.1;obtain⟨A,c,hA,-,-⟩:=ho.form;have hEW:=hE.ext hj;have hc:=hEW.cell (j:=2) rfl;have hf:=hEW.frozen 2;rw [hA] at ho;have hp:J1 (W1.setCell ⟨E,2,none⟩ (.slice A (addC e.counts d1 n).1.length c)):=⟨_,ho.mvE (MvE.set _ _ _ _) hEl,hEW.set (j:=2) (by simp) _,(hr.ext hj).other hpr.symm _,(hj.kept E pr).set1 _⟩
   have hm:=MvE.set E 2 W1 (.slice A (addC e.counts d1 n).1.length c);generalize hW2:W1.setCell ⟨E,2,none⟩ (.slice A (addC e.counts d1 n).1.length c)=W2 at *;clear hj ho hEW;go_wp;exact zah (v:=undef) trivial ⟨hp,hm⟩
 case hend =>
  intro x W1 hj f;obtain⟨u,ho,hE1,hr1,hk⟩:=hj;have h17:x 17=I (addC e.counts d1 n).2:=f.2.2.2.2.2.2.2.2.2.2.2.1;simp only [List.length_cons,List.length_nil,Nat.reduceAdd,List.take_succ_cons,List.take_zero,List.filterMap_cons,List.filterMap_nil,List.drop_succ_cons,List.drop_zero,zav,Act.put,List.setIfInBounds_toArray,List.set_cons_succ,List.set_cons_zero,h17];have hrf:=hr1.frozen 0;have hrc:=hr1.cell (j:=0) rfl;clear f;have HK:=zH (hk.set2 (j:=0) (I (addC e.counts d1 n).2));have HE:=zH (hE1.other (p:=⟨pr,0,none⟩) hpr (I (addC e.counts d1 n).2));have HO:=zH (ho.keep (w':=W1.setCell ⟨pr,0,none⟩ (I (addC e.counts d1 n).2)) fun b hb _=>Below.heap_setCell _ _ _ _ (fun e2=>by have:=(ho.base_le hb).1;have:=hr.lt;have e3:b=pr:=e2;omega));have hcs:=(hr1.set (j:=0) (by simp) (I (addC e.counts d1 n).2)).cell (j:=0) rfl;obtain⟨w9,hw9⟩:∃ w9,W1.setCell ⟨pr,0,none⟩ (I (addC e.counts d1 n).2)=w9:=⟨_,rfl⟩
  rw [hw9] at HK HE HO hcs;obtain⟨err,herr⟩:∃ err:Nat,(addC e.counts d1 n).2=err:=⟨_,rfl⟩
  rw [herr] at hw9 hcs ⊢;clear hr1 ho hE1 hk;go_wp;go_wp2_with fail;go_ret;have hA9:=HA.out.kept HK.out HS.out;exact⟨by rw [herr];rfl,u,_,HE.out,⟨hA9.seen.mono (by decide) fun b _ h=>.inl h,(OwnL.flat_iff (S:=fun b=>S b ∨ W.heap.size<=b).2 HO.out).sl (by decide) (fun _ _ h=>h) (fun b h _=>.inr h),hA9.items.mono (by decide) fun b _ h=>.inl h⟩,HK.out⟩
theorem zou {S:Nat->Prop} {W:World} {pe pr E:Nat} {e:Entry} {v1 v2 v3 z:Value} (line:Str) (gone:Bool)
  (hpe:W.cell? ⟨pe,0,none⟩=some (.pointer (some ⟨E,0,none⟩))) (hr:RowIs W pr 32 [z] []) (hE:RowIs W E 46 (entL e v1 v2 v3) []) (hA:EntAt W S e v1 v2 v3) (hS:∀ b,S b->b ≠ E/\b ≠ pr) (hpr:pr ≠ E) :
  Calls Tryz.prog 175 #[St line,.bool gone,.pointer (some ⟨pe,0,none⟩),.pointer (some ⟨pr,0,none⟩)] W fun r w'=>r=.returned (I (zau e.cell line gone).2)/\Did W w' E pr S { e with cell:=(zau e.cell line gone).1 } v1:=by
 obtain⟨A1,n1,rfl,-,-⟩:=hA.seen.form;obtain⟨A2,n2,rfl,-,-⟩:=hA.counts.form;obtain⟨A3,n3,rfl,-,-⟩:=hA.items.form;have HA:=zH hA;have HS:=zH hS;clear hA hS;have hEl:=hE.lt
 let J1:World->Prop:=fun w=>RowIs w E 46 (entL { e with cell:=(zau e.cell line gone).1 } (.slice A1 e.seen.length n1) (.slice A2 e.counts.length n2) (.slice A3 e.items.length n3)) []/\RowIs w pr 32 [z] []/\Kept2 W w E pr
 go_enter Tryz.func175,Tryz.ntmps175;go_wp2_with fail
 refine zfa [.early (fun v _=>v=.pointer (some ⟨E,0,none⟩)),
  .early (fun v _=>v=.pointer (some ⟨E,0,none⟩)),
  .early (fun v _=>v=.pointer (some ⟨E,0,none⟩)),
  .early (fun v _=>v=.pointer (some ⟨E,4,none⟩)),
  .early (fun v _=>v=zez e.cell),
  .early (fun v _=>v=St line),
  .early (fun v _=>v=.bool gone),
  .early (fun v _=>v=.tuple #[zez (zau e.cell line gone).1,I (zau e.cell line gone).2]),
  .early (fun v _=>v=.tuple #[zez (zau e.cell line gone).1,I (zau e.cell line gone).2]),
  .early (fun v _=>v=zez (zau e.cell line gone).1),
  .late (fun v _=>v=I (zau e.cell line gone).2),
  .early (fun v _=>v=.pointer (some ⟨E,0,none⟩)),
  .early (fun v _=>v=.pointer (some ⟨E,4,none⟩)),
  .store] 13 (fun w=>Ext W w) J1 (MvE E) rfl (by kernel_rfl) (by kernel_rfl) ?hR ?hJ ?hstep ?hend
 case hR=>simp only [List.mem_cons,List.not_mem_nil,or_false,forall_eq_or_imp,forall_eq,HF.fact];exact⟨kP,kP,kP,kP,kP,kP,kP,kP,kP,kP,kP,kP,kP,kP⟩
 case hJ=>exact (Ext.refl W).drew
 case hstep =>
  simp only [List.length_cons,List.length_nil,Nat.reduceAdd,List.take_succ_cons,List.take_zero,zc4,and_true];refine ⟨?_,?_,?_,?_,?_,?_,?_,?_,?_,?_,?_,?_,?_,?_⟩
  ·intro x W1 hj f;have h:x 2=.pointer (some ⟨pe,0,none⟩):=f.1;have hc:=hj.cell hpe;go_wp;exact zah rfl ⟨hj,MvE.refl _ _⟩
  ·intro x W1 hj f;have h:x 2=.pointer (some ⟨pe,0,none⟩):=f.1;have hc:=hj.cell hpe;go_wp;exact zah rfl ⟨hj,MvE.refl _ _⟩
  ·intro x W1 hj f;have h:x 9=.pointer (some ⟨E,0,none⟩):=f.1;go_wp;exact zah rfl ⟨hj,MvE.refl _ _⟩
  ·intro x W1 hj f;have h:x 10=.pointer (some ⟨E,0,none⟩):=f.1;go_wp;exact zah rfl ⟨hj,MvE.refl _ _⟩
  ·intro x W1 hj f;have h:x 11=.pointer (some ⟨E,4,none⟩):=f.1;have hc4:=(hE.ext hj).cell (j:=4) rfl;have hc5:=(hE.ext hj).cell (j:=5) rfl;have hc6:=(hE.ext hj).cell (j:=6) rfl;go_wp;exact zah rfl ⟨hj,MvE.refl _ _⟩
  ·intro x W1 hj f;have h:x 0=St line:=f.1;go_wp;exact zah rfl ⟨hj,MvE.refl _ _⟩
  ·intro x W1 hj f;have h:x 1=.bool gone:=f.1;go_wp;exact zah rfl ⟨hj,MvE.refl _ _⟩
  ·intro x W1 hj f;have h1:x 12=zez e.cell:=f.1;have h2:x 13=St line:=f.2.1;have h3:x 14=.bool gone:=f.2.2.1;have HC:=zH (zr6 e.cell line gone W1);go_wp;refine HC.out.mono ?_;rintro r W2 ⟨rfl,hx2⟩;dsimp only;go_wp;exact zah rfl ⟨hj.trans hx2,hx2.mvE⟩
  ·intro x W1 hj f;have h:x 15=.tuple #[zez (zau e.cell line gone).1,I (zau e.cell line gone).2]:=f.1;go_wp;exact zah rfl ⟨hj,MvE.refl _ _⟩
  ·intro x W1 hj f;have h:x 7=.tuple #[zez (zau e.cell line gone).1,I (zau e.cell line gone).2]:=f.1;go_wp;exact zah rfl ⟨hj,MvE.refl _ _⟩
  ·intro x W1 b hj f;have h:x 7=.tuple #[zez (zau e.cell line gone).1,I (zau e.cell line gone).2]:=f.1;go_wp;exact zah rfl ⟨hj,MvE.refl _ _⟩
  ·intro x W1 hj f;have h:x 8=.pointer (some ⟨E,0,none⟩):=f.1;go_wp;exact zah rfl ⟨hj,MvE.refl _ _⟩
  ·intro x W1 hj f;have h:x 18=.pointer (some ⟨E,0,none⟩):=f.1;go_wp;exact zah rfl ⟨hj,MvE.refl _ _⟩
  ·intro x W1 hj f;have h:x 19=.pointer (some ⟨E,4,none⟩):=f.1;have h2:x 16=zez (zau e.cell line gone).1:=f.2.1;have hEW:=hE.ext hj;have hc4:=hEW.cell (j:=4) rfl;have hc5:=hEW.cell (j:=5) rfl;have hc6:=hEW.cell (j:=6) rfl;have hf4:=hEW.frozen 4;have hf5:=hEW.frozen 5;have hf6:=hEW.frozen 6;have hE4:=hEW.set (j:=4) (by simp) (U (zau e.cell line gone).1.1);have hE5:=hE4.set (j:=5) (by simp) (St (zau e.cell line gone).1.2.1);have hE6:=hE5.set (j:=6) (by simp) (.bool (zau e.cell line gone).1.2.2);have hp:J1 (((W1.setCell ⟨E,4,none⟩ (U (zau e.cell line gone).1.1)).setCell ⟨E,5,none⟩ (St (zau e.cell line gone).1.2.1)).setCell ⟨E,6,none⟩ (.bool (zau e.cell line gone).1.2.2)):=⟨hE6,(((hr.ext hj).other hpr.symm _).other hpr.symm _).other hpr.symm _,(((hj.kept E pr).set1 _).set1 _).set1 _⟩
   have hm:MvE E W1 (((W1.setCell ⟨E,4,none⟩ (U (zau e.cell line gone).1.1)).setCell ⟨E,5,none⟩ (St (zau e.cell line gone).1.2.1)).setCell ⟨E,6,none⟩ (.bool (zau e.cell line gone).1.2.2)):=⟨by simp only [World.size_setCell];exact Nat.le_refl _,fun b _ hb=>((Below.heap_setCell _ _ _ _ hb).trans (Below.heap_setCell _ _ _ _ hb)).trans (Below.heap_setCell _ _ _ _ hb)⟩
   clear hE4 hE5 hE6 hEW hj;go_wp;exact zah (v:=undef) trivial ⟨hp,hm⟩
 case hend =>
  intro x W1 hj f;obtain⟨hE1,hr1,hk⟩:=hj;have h17:x 17=I (zau e.cell line gone).2:=f.2.2.2.2.2.2.2.2.2.2.1;simp only [List.length_cons,List.length_nil,Nat.reduceAdd,List.take_succ_cons,List.take_zero,List.filterMap_cons,List.filterMap_nil,List.drop_succ_cons,List.drop_zero,zav,Act.put,List.setIfInBounds_toArray,List.set_cons_succ,List.set_cons_zero,h17];have hrf:=hr1.frozen 0;have hrc:=hr1.cell (j:=0) rfl;clear f;have HK:=zH (hk.set2 (j:=0) (I (zau e.cell line gone).2));have HE:=zH (hE1.other (p:=⟨pr,0,none⟩) hpr (I (zau e.cell line gone).2));have hcs:=(hr1.set (j:=0) (by simp) (I (zau e.cell line gone).2)).cell (j:=0) rfl;obtain⟨w9,hw9⟩:∃ w9,W1.setCell ⟨pr,0,none⟩ (I (zau e.cell line gone).2)=w9:=⟨_,rfl⟩
  rw [hw9] at HK HE hcs;obtain⟨err,herr⟩:∃ err:Nat,(zau e.cell line gone).2=err:=⟨_,rfl⟩
  rw [herr] at hw9 hcs ⊢;clear hr1 hE1 hk;go_wp;go_wp2_with fail;go_ret;have hA9:=HA.out.kept HK.out HS.out;exact⟨by rw [herr];rfl,_,_,HE.out,⟨hA9.seen.mono (by decide) fun b _ h=>.inl h,hA9.counts.mono (by decide) fun b _ h=>.inl h,hA9.items.mono (by decide) fun b _ h=>.inl h⟩,HK.out⟩
theorem zwp {S:Nat->Prop} {W:World} {pe pr E:Nat} {e:Entry} {v1 v2 v3 z:Value} {po pd:Nat} {tx:Str} {d1:Dot} (ho3:W.cell? ⟨po,3,none⟩=some (St tx)) (hd:W.cell? ⟨pd,0,none⟩=some (St d1.1)) (hd1:W.cell? ⟨pd,1,none⟩=some (U d1.2)) (hl:(zac e.items).length < 1099511627776)
  (hpe:W.cell? ⟨pe,0,none⟩=some (.pointer (some ⟨E,0,none⟩))) (hr:RowIs W pr 32 [z] []) (hE:RowIs W E 46 (entL e v1 v2 v3) []) (hA:EntAt W S e v1 v2 v3) (hS:∀ b,S b->b ≠ E/\b ≠ pr) (hpr:pr ≠ E) :
  Calls Tryz.prog 179 #[.pointer (some ⟨pe,0,none⟩),.pointer (some ⟨po,0,none⟩),.pointer (some ⟨pd,0,none⟩),.pointer (some ⟨pr,0,none⟩)] W fun r w'=>r=.returned (I (putB e.items tx d1).2)/\Did W w' E pr S { e with items:=(putB e.items tx d1).1 } v1:=by
 obtain⟨A1,n1,rfl,-,-⟩:=hA.seen.form;obtain⟨A2,n2,rfl,-,-⟩:=hA.counts.form;obtain⟨A3,n3,rfl,-,-⟩:=hA.items.form;have HA:=zH hA;have HS:=zH hS;clear hA hS;have hEl:=hE.lt
 let J1:World->Prop:=fun w=>∃ u,OwnL itemT 57 w W.heap.size (fun b=>W.heap.size<=b) u (putB e.items tx d1).1/\RowIs w E 46 (entL e (.slice A1 e.seen.length n1) (.slice A2 e.counts.length n2) u) []/\RowIs w pr 32 [z] []/\Kept2 W w E pr
 go_enter Tryz.func179,Tryz.ntmps179;go_wp2_with fail
 refine zfa [.early (fun v _=>v=.pointer (some ⟨E,0,none⟩)),
  .early (fun v _=>v=.pointer (some ⟨E,0,none⟩)),
  .early (fun v _=>v=.pointer (some ⟨E,0,none⟩)),
  .early (fun v _=>v=.pointer (some ⟨E,3,none⟩)),
  .early (fun v _=>v=.slice A3 e.items.length n3),
  .early (fun v _=>v=.pointer (some ⟨po,3,none⟩)),
  .early (fun v _=>v=St tx),
  .early (fun v _=>v=dotV d1),
  .early (fun v W2=>∃ v4,v=.tuple #[v4,I (putB e.items tx d1).2]/\OwnL itemT 57 W2 W.heap.size (fun b=>W.heap.size<=b) v4 (putB e.items tx d1).1),
  .early (fun v W2=>∃ v4,v=.tuple #[v4,I (putB e.items tx d1).2]/\OwnL itemT 57 W2 W.heap.size (fun b=>W.heap.size<=b) v4 (putB e.items tx d1).1),
  .early (fun v W2=>OwnL itemT 57 W2 W.heap.size (fun b=>W.heap.size<=b) v (putB e.items tx d1).1),
  .late (fun v _=>v=I (putB e.items tx d1).2),
  .early (fun v _=>v=.pointer (some ⟨E,0,none⟩)),
  .early (fun v _=>v=.pointer (some ⟨E,3,none⟩)),
  .store] 14 (fun w=>Ext W w) J1 (MvE E) rfl (by kernel_rfl) (by kernel_rfl) ?hR ?hJ ?hstep ?hend
 case hR=>simp only [List.mem_cons,List.not_mem_nil,or_false,forall_eq_or_imp,forall_eq,HF.fact];exact⟨kP,kP,kP,kP,kP,kP,kP,kP,fun v _ _ h he=>by obtain⟨u,e1,ho⟩:=h;exact⟨u,e1,ho.mvE he hEl⟩,fun v _ _ h he=>by obtain⟨u,e1,ho⟩:=h;exact⟨u,e1,ho.mvE he hEl⟩,fun v _ _ h he=>h.mvE he hEl,kP,kP,kP,kP⟩
 case hJ=>exact (Ext.refl W).drew
 case hstep =>
  simp only [List.length_cons,List.length_nil,Nat.reduceAdd,List.take_succ_cons,List.take_zero,zc4,and_true];refine ⟨?_,?_,?_,?_,?_,?_,?_,?_,?_,?_,?_,?_,?_,?_,?_⟩
  ·intro x W1 hj f;have h:x 0=.pointer (some ⟨pe,0,none⟩):=f.1;have hc:=hj.cell hpe;go_wp;exact zah rfl ⟨hj,MvE.refl _ _⟩
  ·intro x W1 hj f;have h:x 0=.pointer (some ⟨pe,0,none⟩):=f.1;have hc:=hj.cell hpe;go_wp;exact zah rfl ⟨hj,MvE.refl _ _⟩
  ·intro x W1 hj f;have h:x 7=.pointer (some ⟨E,0,none⟩):=f.1;go_wp;exact zah rfl ⟨hj,MvE.refl _ _⟩
  ·intro x W1 hj f;have h:x 8=.pointer (some ⟨E,0,none⟩):=f.1;go_wp;exact zah rfl ⟨hj,MvE.refl _ _⟩
  ·intro x W1 hj f;have h:x 9=.pointer (some ⟨E,3,none⟩):=f.1;have hc:=(hE.ext hj).cell (j:=3) rfl;go_wp;exact zah rfl ⟨hj,MvE.refl _ _⟩
  ·intro x W1 hj f;have h:x 1=.pointer (some ⟨po,0,none⟩):=f.1;go_wp;exact zah rfl ⟨hj,MvE.refl _ _⟩
  ·intro x W1 hj f;have h:x 11=.pointer (some ⟨po,3,none⟩):=f.1;have hc:=hj.cell ho3;go_wp;exact zah rfl ⟨hj,MvE.refl _ _⟩
  ·intro x W1 hj f;have h:x 2=.pointer (some ⟨pd,0,none⟩):=f.1;have hc:=hj.cell hd;have hc1:=hj.cell hd1;go_wp;exact zah rfl ⟨hj,MvE.refl _ _⟩
  ·intro x W1 hj f;have h1:x 10=.slice A3 e.items.length n3:=f.1;have h2:x 12=St tx:=f.2.1;have h3:x 13=dotV d1:=f.2.2.1;have hs:=hj.size;have HC:=zH (zwe tx d1 (HA.out.items.ext (by decide) hj) hl);go_wp;refine HC.out.mono ?_;rintro r W2 ⟨v4,rfl,ho,hx2⟩;dsimp only;go_wp;exact zah (v:=.tuple #[v4,I (putB e.items tx d1).2]) ⟨v4,rfl,(ho.lower hs).mono fun b _ h=>Nat.le_trans hs h⟩ ⟨hj.trans hx2,hx2.mvE⟩
  ·intro x W1 hj f;obtain⟨v4,h,ho⟩:∃ v4,x 14=.tuple #[v4,I (putB e.items tx d1).2]/\OwnL itemT 57 W1 W.heap.size (fun b=>W.heap.size<=b) v4 (putB e.items tx d1).1:=f.1;go_wp;exact zah ⟨v4,rfl,ho⟩ ⟨hj,MvE.refl _ _⟩
  ·intro x W1 hj f;obtain⟨v4,h,ho⟩:∃ v4,x 5=.tuple #[v4,I (putB e.items tx d1).2]/\OwnL itemT 57 W1 W.heap.size (fun b=>W.heap.size<=b) v4 (putB e.items tx d1).1:=f.1;go_wp;exact zah ho ⟨hj,MvE.refl _ _⟩
  ·intro x W1 b hj f;obtain⟨v4,h,ho⟩:∃ v4,x 5=.tuple #[v4,I (putB e.items tx d1).2]/\OwnL itemT 57 W1 W.heap.size (fun b=>W.heap.size<=b) v4 (putB e.items tx d1).1:=f.1;go_wp;exact zah rfl ⟨hj,MvE.refl _ _⟩
  ·intro x W1 hj f;have h:x 6=.pointer (some ⟨E,0,none⟩):=f.1;go_wp;exact zah rfl ⟨hj,MvE.refl _ _⟩
  ·intro x W1 hj f;have h:x 17=.pointer (some ⟨E,0,none⟩):=f.1;go_wp;exact zah rfl ⟨hj,MvE.refl _ _⟩
  ·intro x W1 hj f;have h:x 18=.pointer (some ⟨E,3,none⟩):=f.1;have ho:OwnL itemT 57 W1 W.heap.size (fun b=>W.heap.size<=b) (x 15) (putB e.items tx d1).1:=f.2.1;obtain⟨A,c,hA,-,-⟩:=ho.form;have hEW:=hE.ext hj;have hc:=hEW.cell (j:=3) rfl;have hf:=hEW.frozen 3;rw [hA] at ho;have hp:J1 (W1.setCell ⟨E,3,none⟩ (.slice A (putB e.items tx d1).1.length c)):=⟨_,ho.mvE (MvE.set _ _ _ _) hEl,hEW.set (j:=3) (by simp) _,(hr.ext hj).other hpr.symm _,(hj.kept E pr).set1 _⟩
   have hm:=MvE.set E 3 W1 (.slice A (putB e.items tx d1).1.length c);generalize hW2:W1.setCell ⟨E,3,none⟩ (.slice A (putB e.items tx d1).1.length c)=W2 at *;clear hj ho hEW;go_wp;exact zah (v:=undef) trivial ⟨hp,hm⟩
 case hend =>
  intro x W1 hj f;obtain⟨u,ho,hE1,hr1,hk⟩:=hj;have h17:x 16=I (putB e.items tx d1).2:=f.2.2.2.2.2.2.2.2.2.2.2.1;simp only [List.length_cons,List.length_nil,Nat.reduceAdd,List.take_succ_cons,List.take_zero,List.filterMap_cons,List.filterMap_nil,List.drop_succ_cons,List.drop_zero,zav,Act.put,List.setIfInBounds_toArray,List.set_cons_succ,List.set_cons_zero,h17];have hrf:=hr1.frozen 0;have hrc:=hr1.cell (j:=0) rfl;clear f;have HK:=zH (hk.set2 (j:=0) (I (putB e.items tx d1).2));have HE:=zH (hE1.other (p:=⟨pr,0,none⟩) hpr (I (putB e.items tx d1).2));have HO:=zH ((ho.mono (S':=fun b=>W.heap.size<=b/\b ≠ pr) (fun b _ h=>⟨h,by have:=hr.lt;omega⟩)).keep (w':=W1.setCell ⟨pr,0,none⟩ (I (putB e.items tx d1).2)) (fun b hb _=>Below.heap_setCell _ _ _ _ (fun e2=>hb.2 e2)) fun b hb _=>Below.heap_setCell _ _ _ _ (fun e2=>by have:=(ho.base_le hb).1;have:=hr.lt;have e3:b=pr:=e2;omega));clear ho;have hcs:=(hr1.set (j:=0) (by simp) (I (putB e.items tx d1).2)).cell (j:=0) rfl;obtain⟨w9,hw9⟩:∃ w9,W1.setCell ⟨pr,0,none⟩ (I (putB e.items tx d1).2)=w9:=⟨_,rfl⟩
  rw [hw9] at HK HE HO hcs;obtain⟨err,herr⟩:∃ err:Nat,(putB e.items tx d1).2=err:=⟨_,rfl⟩
  rw [herr] at hw9 hcs ⊢;clear hr1 hE1 hk;go_wp;go_wp2_with fail;go_ret;have hA9:=HA.out.kept HK.out HS.out;exact⟨by rw [herr];rfl,_,u,HE.out,⟨hA9.seen.mono (by decide) fun b _ h=>.inl h,hA9.counts.mono (by decide) fun b _ h=>.inl h,HO.out.sl (by decide) (fun _ _ h=>.inr h.1) (fun b h _=>.inr h)⟩,HK.out⟩
end
section
open Go.RowKit Go.Shelf
theorem Did.mono {W W1 w':World} {E pr:Nat} {S:Nat->Prop} {e':Entry} {v1:Value} (h:Did W1 w' E pr S e' v1) (he:Ext W W1):Did W w' E pr S e' v1:=by
 obtain⟨u2,u3,h1,h2,h3⟩:=h;exact⟨u2,u3,h1,h2.mono (fun b _ hb=>hb.elim .inl fun h=>.inr (Nat.le_trans he.size h)),⟨h3.os.trans he.os,h3.tape.trans he.tape,h3.output.trans he.output,Nat.le_trans he.size h3.size,fun j hj a b=>(h3.other j (Nat.lt_of_lt_of_le hj he.size) a b).trans (he.block j hj)⟩⟩
theorem zwq {S:Nat->Prop} {W:World} {pa po pe pd pr E:Nat} {e:Entry} {v1 v2 v3 z:Value} {d1:Str} (n:Int) (hn1:-9223372036854775808<=n) (hn2:n<=9223372036854775807)
  (hpa:W.cell? ⟨pa,0,none⟩=some (.func (.func 173) #[] #[.pointer (some ⟨pe,0,none⟩),.pointer (some ⟨pd,0,none⟩),.pointer (some ⟨pr,0,none⟩)])) (hpo:W.cell? ⟨po,2,none⟩=some (I n))
  (hd:W.cell? ⟨pd,0,none⟩=some (St d1)) (hl:e.counts.length < 1099511627776)
  (hpe:W.cell? ⟨pe,0,none⟩=some (.pointer (some ⟨E,0,none⟩))) (hr:RowIs W pr 32 [z] []) (hE:RowIs W E 46 (entL e v1 v2 v3) []) (hA:EntAt W S e v1 v2 v3) (hS:∀ b,S b->b ≠ E/\b ≠ pr) (hpr:pr ≠ E) :
  Calls Tryz.prog 177 #[.pointer (some ⟨pa,0,none⟩),.pointer (some ⟨po,0,none⟩)] W fun r w'=>r=.returned (I (addC e.counts d1 n).2)/\Did W w' E pr S { e with counts:=(addC e.counts d1 n).1 } v1:=by
 have eg:∀ args w,(callFunc 173 args).run Tryz.prog w=.ok (.enter 173 args) w:=enters_of Tryz.func173 (by kernel_rfl) rfl;have HC:=zH (zot n hn1 hn2 hd hl hpe hr hE hA hS hpr);clear hd hl hpe hr hE hA hS hpr hn1 hn2;go_enter Tryz.func177,Tryz.ntmps177;go_wp2_with fail;refine HC.out.mono ?_;rintro r W1 ⟨rfl,hD⟩;go_wp2_with fail;go_ret;exact⟨rfl,hD⟩
theorem eqI {a b:Int} (h:a=b):(a == b)=true:=by simpa using h
theorem neI {a b:Int} (h:a ≠ b):(a == b)=false:=by simpa using h
def delC (l:List zab) (s:Str):List zab × Nat:=if zba l = -9223372036854775808 then (l,9) else addC l s (-zba l)
theorem zwr {S:Nat->Prop} {W:World} {pa pe pd pr E:Nat} {e:Entry} {v1 v2 v3 z:Value} {d1:Str}
  (hpa:W.cell? ⟨pa,0,none⟩=some (.func (.func 173) #[] #[.pointer (some ⟨pe,0,none⟩),.pointer (some ⟨pd,0,none⟩),.pointer (some ⟨pr,0,none⟩)]))
  (hd:W.cell? ⟨pd,0,none⟩=some (St d1)) (hl:e.counts.length < 1099511627776)
  (hpe:W.cell? ⟨pe,0,none⟩=some (.pointer (some ⟨E,0,none⟩))) (hr:RowIs W pr 32 [z] []) (hE:RowIs W E 46 (entL e v1 v2 v3) []) (hA:EntAt W S e v1 v2 v3) (hS:∀ b,S b->b ≠ E/\b ≠ pr) (hpr:pr ≠ E) :
  Calls Tryz.prog 178 #[.pointer (some ⟨pe,0,none⟩),.pointer (some ⟨pa,0,none⟩)] W fun r w'=>r=.returned (I (delC e.counts d1).2)/\Did W w' E pr S { e with counts:=(delC e.counts d1).1 } v1:=by
 have eg:∀ args w,(callFunc 173 args).run Tryz.prog w=.ok (.enter 173 args) w:=enters_of Tryz.func173 (by kernel_rfl) rfl;have hV:=zmt (sumL (za0 e.counts) (za2 e.counts));have HC:=zH (zg6 hA.counts);have k2:=hE.cell (j:=2) rfl;obtain⟨A2,n2,rfl,-,-⟩:=hA.counts.form;have HD:=zH (show delC e.counts d1=if zba e.counts = -9223372036854775808 then (e.counts,9) else addC e.counts d1 (-zba e.counts) from rfl);have HADD:=zH (fun (W1:World) (n:Int) (a:-9223372036854775808<=n) (b:n<=9223372036854775807) (hx:Ext W W1)=>zot n a b (hx.cell hd) hl (hx.cell hpe) (hr.ext hx) (hE.ext hx) (hA.ext hx) hS hpr);have HE:=zH hE;have HA:=zH hA;change -9223372036854775808<=zba e.counts/\zba e.counts<=9223372036854775807 at hV;clear hd hl hr hE hA hS hpr;go_enter Tryz.func178,Tryz.ntmps178;go_wp2_with fail;refine HC.out.mono ?_;rintro r W1 ⟨rfl,hx1⟩;obtain⟨v,hv⟩:∃ v,zba e.counts=v:=⟨_,rfl⟩
 rw [hv] at hV HD;rw [hv];have hpa1:=hx1.cell hpa
 by_cases h:v = -9223372036854775808
 ·have HD2:=zH (show delC e.counts d1=(e.counts,9) by rw [HD.out,if_pos h]);have hk:=eqI h;clear h;go_wp2_with fail;go_ret;exact⟨by rw [HD2.out];rfl,by rw [HD2.out];exact⟨_,_,HE.out.ext hx1,(HA.out.ext hx1).mono fun b _ h=>.inl h,hx1.kept _ _⟩⟩
 ·have HD2:=zH (show delC e.counts d1=addC e.counts d1 (-v) by rw [HD.out,if_neg h]);have hk:=neI h;have hw:IntKind.i64.wrap (-v) = -v:=by rw [IntKind.wrap_i64];omega
  have HC2:=zH (HADD.out W1 (-v) (by omega) (by omega) hx1);have HX1:=zH hx1;clear h HADD hx1;go_wp2_with fail;refine HC2.out.mono ?_;rintro r W2 ⟨rfl,hD⟩;go_wp2_with fail;go_ret;exact⟨by rw [HD2.out];rfl,by rw [HD2.out];exact hD.mono HX1.out⟩
theorem zws {S:Nat->Prop} {W:World} {pe pr E:Nat} {e:Entry} {v1 v2 v3:Value}
  (hpe:W.cell? ⟨pe,0,none⟩=some (.pointer (some ⟨E,0,none⟩))) (hE:RowIs W E 46 (entL e v1 v2 v3) []) (hA:EntAt W S e v1 v2 v3) (hS:∀ b,S b->b ≠ E/\b ≠ pr) :
  Calls Tryz.prog 183 #[.pointer (some ⟨pe,0,none⟩)] W fun r w'=>r=.returned (I 0)/\Did W w' E pr S { e with items:=[] } v1:=by
 obtain⟨A3,n3,rfl,-,-⟩:=hA.items.form;have hc:=hE.cell (j:=3) rfl;have hf:=hE.frozen 3;have HK:=zH ((Kept2.refl W E pr).set1 (j:=3) (.slice none 0 0));have HE:=zH (hE.set (j:=3) (by simp) (.slice none 0 0));have HA:=zH (hA.kept HK.out hS);clear hE hA hS;go_enter Tryz.func183,Tryz.ntmps183;go_wp2_with fail;go_ret;exact⟨rfl,_,_,HE.out,⟨HA.out.seen.mono (by decide) fun b _ h=>.inl h,HA.out.counts.mono (by decide) fun b _ h=>.inl h,Sl.nil _ _ (by decide)⟩,HK.out⟩
theorem zwt {S:Nat->Prop} {W:World} {pa po pe pr E:Nat} {e:Entry} {v1 v2 v3 z:Value} {tx:Str}
  (hpa:W.cell? ⟨pa,0,none⟩=some (.func (.func 175) #[] #[.pointer (some ⟨pe,0,none⟩),.pointer (some ⟨pr,0,none⟩)])) (hpo:W.cell? ⟨po,3,none⟩=some (St tx))
  (hpe:W.cell? ⟨pe,0,none⟩=some (.pointer (some ⟨E,0,none⟩))) (hr:RowIs W pr 32 [z] []) (hE:RowIs W E 46 (entL e v1 v2 v3) []) (hA:EntAt W S e v1 v2 v3) (hS:∀ b,S b->b ≠ E/\b ≠ pr) (hpr:pr ≠ E) :
  Calls Tryz.prog 184 #[.pointer (some ⟨pa,0,none⟩),.pointer (some ⟨po,0,none⟩)] W fun r w'=>r=.returned (I (zau e.cell tx false).2)/\Did W w' E pr S { e with cell:=(zau e.cell tx false).1 } v1:=by
 have eg:∀ args w,(callFunc 175 args).run Tryz.prog w=.ok (.enter 175 args) w:=enters_of Tryz.func175 (by kernel_rfl) rfl;have HC:=zH (zou tx false hpe hr hE hA hS hpr);clear hpe hr hE hA hS hpr;go_enter Tryz.func184,Tryz.ntmps184;go_wp2_with fail;refine HC.out.mono ?_;rintro r W1 ⟨rfl,hD⟩;go_wp2_with fail;go_ret;exact⟨rfl,hD⟩
theorem zwu {S:Nat->Prop} {W:World} {pa pe pr E:Nat} {e:Entry} {v1 v2 v3 z:Value}
  (hpa:W.cell? ⟨pa,0,none⟩=some (.func (.func 175) #[] #[.pointer (some ⟨pe,0,none⟩),.pointer (some ⟨pr,0,none⟩)]))
  (hpe:W.cell? ⟨pe,0,none⟩=some (.pointer (some ⟨E,0,none⟩))) (hr:RowIs W pr 32 [z] []) (hE:RowIs W E 46 (entL e v1 v2 v3) []) (hA:EntAt W S e v1 v2 v3) (hS:∀ b,S b->b ≠ E/\b ≠ pr) (hpr:pr ≠ E) :
  Calls Tryz.prog 185 #[.pointer (some ⟨pa,0,none⟩)] W fun r w'=>r=.returned (I (zau e.cell [] true).2)/\Did W w' E pr S { e with cell:=(zau e.cell [] true).1 } v1:=by
 have eg:∀ args w,(callFunc 175 args).run Tryz.prog w=.ok (.enter 175 args) w:=enters_of Tryz.func175 (by kernel_rfl) rfl;have HC:=zH (zou [] true hpe hr hE hA hS hpr);clear hpe hr hE hA hS hpr;go_enter Tryz.func185,Tryz.ntmps185;go_wp2_with fail;refine HC.out.mono ?_;rintro r W1 ⟨rfl,hD⟩;go_wp2_with fail;go_ret;exact⟨rfl,hD⟩
theorem zwv {S:Nat->Prop} {W:World} {po pe pr E:Nat} {e:Entry} {v1 v2 v3:Value} {tx:Str} (ho3:W.cell? ⟨po,3,none⟩=some (St tx)) (hl:(zac e.items).length<=1099511627776)
  (hpe:W.cell? ⟨pe,0,none⟩=some (.pointer (some ⟨E,0,none⟩))) (hE:RowIs W E 46 (entL e v1 v2 v3) []) (hA:EntAt W S e v1 v2 v3) (hS:∀ b,S b->b ≠ E/\b ≠ pr) :
  Calls Tryz.prog 181 #[.pointer (some ⟨pe,0,none⟩),.pointer (some ⟨po,0,none⟩)] W fun r w'=>r=.returned (I 0)/\Did W w' E pr S { e with items:=zgq e.items tx } v1:=by
 obtain⟨A1,n1,rfl,-,-⟩:=hA.seen.form;obtain⟨A2,n2,rfl,-,-⟩:=hA.counts.form;obtain⟨A3,n3,rfl,-,-⟩:=hA.items.form;have HA:=zH hA;have HS:=zH hS;have hEl:=hE.lt;clear hA hS;go_enter Tryz.func181,Tryz.ntmps181;go_wp2_with fail
 refine zao [fun v _=>v=.pointer (some ⟨E,0,none⟩),fun v _=>v=.pointer (some ⟨E,0,none⟩),fun v _=>v=.pointer (some ⟨E,0,none⟩),fun v _=>v=.pointer (some ⟨E,3,none⟩),fun v _=>v=.slice A3 e.items.length n3,fun v _=>v=.pointer (some ⟨po,3,none⟩),fun v _=>v=St tx,
  fun v W2=>OwnL itemT 57 W2 W.heap.size (fun b=>W.heap.size<=b) v (zgq e.items tx),fun v _=>v=.pointer (some ⟨E,0,none⟩),fun v _=>v=.pointer (some ⟨E,3,none⟩)] rfl (by kernel_rfl) ?hR ?hstep ?hend
 case hR=>simp only [List.mem_cons,List.not_mem_nil,or_false,forall_eq_or_imp,forall_eq];exact⟨kP,kP,kP,kP,kP,kP,kP,fun v _ _ h he=>h.ext he,kP,kP⟩
 case hstep =>
  simp only [List.length_cons,List.length_nil,Nat.reduceAdd,List.take_succ_cons,List.take_zero,za6,and_true];refine ⟨?_,?_,?_,?_,?_,?_,?_,?_,?_,?_⟩
  ·intro x W1 he f;have h:x 0=.pointer (some ⟨pe,0,none⟩):=f.1;have hc:=he.cell hpe;go_wp;exact sQ
  ·intro x W1 he f;have h:x 0=.pointer (some ⟨pe,0,none⟩):=f.1;have hc:=he.cell hpe;go_wp;exact sQ
  ·intro x W1 he f;have h:x 4=.pointer (some ⟨E,0,none⟩):=f.1;go_wp;exact sQ
  ·intro x W1 he f;have h:x 5=.pointer (some ⟨E,0,none⟩):=f.1;go_wp;exact sQ
  ·intro x W1 he f;have h:x 6=.pointer (some ⟨E,3,none⟩):=f.1;have hc:=(hE.ext he).cell (j:=3) rfl;go_wp;exact sQ
  ·intro x W1 he f;have h:x 1=.pointer (some ⟨po,0,none⟩):=f.1;go_wp;exact sQ
  ·intro x W1 he f;have h:x 8=.pointer (some ⟨po,3,none⟩):=f.1;have hc:=he.cell ho3;go_wp;exact sQ
  ·intro x W1 he f;have h1:x 7=.slice A3 e.items.length n3:=f.1;have h2:x 9=St tx:=f.2.1;have hs:=he.size;have HC:=zH (zwd tx (HA.out.items.ext (by decide) he) hl);go_wp;refine HC.out.mono ?_;rintro r W2 ⟨v4,rfl,ho,hx2⟩;dsimp only;go_wp;exact zaa (v:=v4) ((ho.lower hs).mono fun b _ h=>Nat.le_trans hs h) hx2
  ·intro x W1 he f;have h:x 3=.pointer (some ⟨E,0,none⟩):=f.1;go_wp;exact sQ
  ·intro x W1 he f;have h:x 11=.pointer (some ⟨E,0,none⟩):=f.1;go_wp;exact sQ
 case hend=>intro x W1 he f;have h12:x 12=.pointer (some ⟨E,3,none⟩):=f.2.2.2.2.2.2.2.2.2.1;have ho:OwnL itemT 57 W1 W.heap.size (fun b=>W.heap.size<=b) (x 10) (zgq e.items tx):=f.2.2.2.2.2.2.2.1;obtain⟨A,c,hA,-,-⟩:=ho.form;simp only [List.length_cons,List.length_nil,Nat.reduceAdd,List.take_succ_cons,List.take_zero,List.filterMap_cons,List.filterMap_nil,List.drop_succ_cons,List.drop_zero,zav,Act.put,List.setIfInBounds_toArray,List.set_cons_succ,List.set_cons_zero,h12,hA];rw [hA] at ho;have hEW:=hE.ext he;have hc:=hEW.cell (j:=3) rfl;have hf:=hEW.frozen 3;have HE:=zH (hEW.set (j:=3) (by simp) (.slice A (zgq e.items tx).length c));have HK:=zH ((he.kept E pr).set1 (j:=3) (.slice A (zgq e.items tx).length c));have HO:=zH (ho.mvE (MvE.set E 3 W1 (.slice A (zgq e.items tx).length c)) hEl);clear f ho hEW;go_wp;go_wp2_with fail;go_ret;have hA9:=HA.out.kept HK.out HS.out;exact⟨rfl,_,_,HE.out,⟨hA9.seen.mono (by decide) fun b _ h=>.inl h,hA9.counts.mono (by decide) fun b _ h=>.inl h,HO.out.sl (by decide) (fun b _ h=>.inr h) (fun b h _=>.inr h)⟩,HK.out⟩
end
section
open Go.RowKit Go.Shelf
theorem zm3 {P:Program} (w:World) (T:TypeId) (u v:Value) (h:v.oneCell'=true) (a:Nat) (ha:a=w.heap.size):(store ⟨a,0,none⟩ v).run P (w.alloc (.cells #[u] T))=.ok () (w.alloc (.cells #[v] T)):=by
 subst ha;have hc:(w.alloc (.cells #[u] T)).cell? ⟨w.heap.size,0,none⟩=some u:=(zgz w u T).1;have hf:=(zgz w u T).2;rw [run_store P _ _ v _ h,hc];simp only [hf,World.setCell_alloc_new]
 rfl
def clo (f:Nat) (l:List Nat):Value:=.func (.func f) #[] (l.map fun b=>Value.pointer (some ⟨b,0,none⟩)).toArray
abbrev M8 (o:Option Nat):Value:=.map o
abbrev V8 (v:Value):Value:=v
structure UpdAt (w:World) (B E:Nat) (n:Int) (tx:Str) (d:Dot) (m:Nat):Prop where
 pe:w.cell? ⟨B,0,none⟩=some (.pointer (some ⟨E,0,none⟩))
 po2:w.cell? ⟨B+1,2,none⟩=some (I n)
 po3:w.cell? ⟨B+1,3,none⟩=some (St tx)
 d0:w.cell? ⟨B+2,0,none⟩=some (St d.1)
 d1:w.cell? ⟨B+2,1,none⟩=some (U d.2)
 err:RowIs w (B+3) 32 [I 0] []
 c1:w.cell? ⟨B+4,0,none⟩=some (clo 173 [B,B+2,B+3])
 c2:w.cell? ⟨B+5,0,none⟩=some (clo 175 [B,B+3])
 maps:∃ m1 m2 m3,MapIs K8 M8 w m [(1,some m1),(2,some m2),(3,some m3)] /\
  MapIs K8 V8 w m1 [(1,clo 177 [B+4,B+1]),(5,clo 178 [B,B+4])] /\
  MapIs K8 V8 w m2 [(2,clo 179 [B,B+1,B+2,B+3]),(3,clo 181 [B,B+1]),(5,clo 183 [B])] /\
  MapIs K8 V8 w m3 [(4,clo 184 [B+5,B+1]),(5,clo 185 [B+5])]
theorem zp9 {W:World} {E:Nat} (k:Str) (dO:Nat) (n:Int) (tx:Str) (d:Dot) :
  Calls Tryz.prog 135 #[.pointer (some ⟨E,0,none⟩),.agg #[K8 dO,St k,I n,St tx],dotV d] W fun r w'=>∃ m,r=.returned (.map (some m))/\UpdAt w' W.heap.size E n tx d m/\W.heap.size+6<=w'.heap.size/\Ext W w':=by
 have hmm:=@run_makeMap Tryz.prog;obtain⟨B,hB⟩:∃ B,B=W.heap.size:=⟨_,rfl⟩
 have hs1:=zm3 (P:=Tryz.prog) ((((W.alloc (.cells #[.pointer (some ⟨E,0,none⟩)] 109)).alloc (.cells #[K8 dO,St k,I n,St tx] 99)).alloc (.cells #[St d.1,U d.2] 59)).alloc (.cells #[I 0] 32)) 251 .nilFunc (.func (.func 173) #[] #[.pointer (some ⟨W.heap.size,0,none⟩),.pointer (some ⟨W.heap.size+1+1,0,none⟩),.pointer (some ⟨W.heap.size+1+1+1,0,none⟩)]) rfl (W.heap.size+1+1+1+1) (by simp);have hs2:=zm3 (P:=Tryz.prog) (((((W.alloc (.cells #[.pointer (some ⟨E,0,none⟩)] 109)).alloc (.cells #[K8 dO,St k,I n,St tx] 99)).alloc (.cells #[St d.1,U d.2] 59)).alloc (.cells #[I 0] 32)).alloc (.cells #[(.func (.func 173) #[] #[.pointer (some ⟨W.heap.size,0,none⟩),.pointer (some ⟨W.heap.size+1+1,0,none⟩),.pointer (some ⟨W.heap.size+1+1+1,0,none⟩)])] 251)) 254 .nilFunc (.func (.func 175) #[] #[.pointer (some ⟨W.heap.size,0,none⟩),.pointer (some ⟨W.heap.size+1+1+1,0,none⟩)]) rfl (W.heap.size+1+1+1+1+1) (by simp);obtain⟨W5,hW5⟩:∃ W5,W5=(((((W.alloc (.cells #[.pointer (some ⟨E,0,none⟩)] 109)).alloc (.cells #[K8 dO,St k,I n,St tx] 99)).alloc (.cells #[St d.1,U d.2] 59)).alloc (.cells #[I 0] 32)).alloc (.cells #[(.func (.func 173) #[] #[.pointer (some ⟨W.heap.size,0,none⟩),.pointer (some ⟨W.heap.size+1+1,0,none⟩),.pointer (some ⟨W.heap.size+1+1+1,0,none⟩)])] 251)).alloc (.cells #[.func (.func 175) #[] #[.pointer (some ⟨W.heap.size,0,none⟩),.pointer (some ⟨W.heap.size+1+1+1,0,none⟩)]] 254):=⟨_,rfl⟩
 have hz5:W5.heap.size=W.heap.size+1+1+1+1+1+1:=by rw [hW5];simp
 have hx5:Ext W W5:=by rw [hW5];exact ((((((Ext.refl W).alloc _).alloc _).alloc _).alloc _).alloc _).alloc _
 have HU:Hid (∀ w,Ext W5 w->∀ m,(∃ m1 m2 m3,MapIs K8 M8 w m [(1,some m1),(2,some m2),(3,some m3)] /\
   MapIs K8 V8 w m1 [(1,clo 177 [B+4,B+1]),(5,clo 178 [B,B+4])] /\
   MapIs K8 V8 w m2 [(2,clo 179 [B,B+1,B+2,B+3]),(3,clo 181 [B,B+1]),(5,clo 183 [B])] /\
   MapIs K8 V8 w m3 [(4,clo 184 [B+5,B+1]),(5,clo 185 [B+5])])->UpdAt w W.heap.size E n tx d m):=zH fun w hx m hmaps=>by
  subst hB;refine ⟨hx.cell ?_,hx.cell ?_,hx.cell ?_,hx.cell ?_,hx.cell ?_,RowIs.ext ?_ hx,hx.cell ?_,hx.cell ?_,hmaps⟩
  ·rw [hW5];simp [go_sem]
  ·rw [hW5];simp [go_sem]
  ·rw [hW5];simp [go_sem]
  ·rw [hW5];simp [go_sem]
  ·rw [hW5];simp [go_sem]
  ·rw [hW5];have h:=zai (((W.alloc (.cells #[.pointer (some ⟨E,0,none⟩)] 109)).alloc (.cells #[K8 dO,St k,I n,St tx] 99)).alloc (.cells #[St d.1,U d.2] 59)) 32 [I 0];simp only [World.size_alloc] at h;exact (h.alloc _).alloc _
  ·rw [hW5];simp [go_sem,clo]
  ·rw [hW5];simp [go_sem,clo]
 obtain⟨z,hz⟩:∃ z,z=W5.heap.size:=⟨_,rfl⟩
 obtain⟨Y1,hY1⟩:∃ Y1,Y1=(W5.alloc (.map #[] 0)).alloc (.map #[] 0):=⟨_,rfl⟩
 have hM:MapIs K8 M8 Y1 z []:=by rw [hY1,hz];exact (MapIs.new W5).ext ((Ext.refl _).alloc _)
 have hM1:MapIs K8 V8 Y1 (z+1) []:=by have:=MapIs.new (K:=K8) (V:=V8) (W5.alloc (.map #[] 0));rw [World.size_alloc] at this;rw [hY1,hz];exact this
 have hx1:Ext W5 Y1:=by rw [hY1];exact ((Ext.refl _).alloc _).alloc _
 have hzY:Y1.heap.size=z+1+1:=by rw [hY1,hz];simp
 obtain⟨Xa,ua,ma,ta⟩:=zas (P:=Tryz.prog) (t:=203) Tryz.underlying203 keyOk8 hM1 1 (clo 177 [B+4,B+1]);obtain⟨Xb,ub,mb,tb⟩:=zas (P:=Tryz.prog) (t:=203) Tryz.underlying203 keyOk8 ma 5 (clo 178 [B,B+4]);obtain⟨Xc,uc,mc,tc⟩:=zas (P:=Tryz.prog) (t:=204) Tryz.underlying204 keyOk8 ((hM.turned ta (by omega)).turned tb (by omega)) 1 (some (z+1));have hx2:=((hx1.turned ta (by omega)).turned tb (by omega)).turned tc (by omega);have mb2:=mb.turned tc (by omega);have hzc:Xc.heap.size=z+1+1:=by rw [tc.size,tb.size,ta.size,hzY]
 have hM2:=MapIs.new (K:=K8) (V:=V8) Xc;have hy2:=(Ext.refl Xc).alloc (.map #[] 0);obtain⟨Xd,ud,md,td⟩:=zas (P:=Tryz.prog) (t:=203) Tryz.underlying203 keyOk8 hM2 2 (clo 179 [B,B+1,B+2,B+3]);obtain⟨Xe,ue,me,te⟩:=zas (P:=Tryz.prog) (t:=203) Tryz.underlying203 keyOk8 md 3 (clo 181 [B,B+1]);obtain⟨Xf,uf,mf,tf⟩:=zas (P:=Tryz.prog) (t:=203) Tryz.underlying203 keyOk8 me 5 (clo 183 [B]);obtain⟨Xg,ug,mg,tg⟩:=zas (P:=Tryz.prog) (t:=204) Tryz.underlying204 keyOk8 ((((mc.ext hy2).turned td (by omega)).turned te (by omega)).turned tf (by omega)) 2 (some Xc.heap.size);have hx3:=((((hx2.trans hy2).turned td (by omega)).turned te (by omega)).turned tf (by omega)).turned tg (by omega);have mb3:=((((mb2.ext hy2).turned td (by omega)).turned te (by omega)).turned tf (by omega)).turned tg (by omega);have mf2:=mf.turned tg (by omega);have hzg:Xg.heap.size=z+1+1+1:=by rw [tg.size,tf.size,te.size,td.size,World.size_alloc,hzc]
 have hM3:=MapIs.new (K:=K8) (V:=V8) Xg;have hy3:=(Ext.refl Xg).alloc (.map #[] 0);obtain⟨Xh,uh,mh,th⟩:=zas (P:=Tryz.prog) (t:=203) Tryz.underlying203 keyOk8 hM3 4 (clo 184 [B+5,B+1]);obtain⟨Xi,ui,mi,ti⟩:=zas (P:=Tryz.prog) (t:=203) Tryz.underlying203 keyOk8 mh 5 (clo 185 [B+5]);obtain⟨Xj,uj,mj,tj⟩:=zas (P:=Tryz.prog) (t:=204) Tryz.underlying204 keyOk8 (((mg.ext hy3).turned th (by omega)).turned ti (by omega)) 3 (some Xg.heap.size);have hx4:=(((hx3.trans hy3).turned th (by omega)).turned ti (by omega)).turned tj (by omega);have mb4:=(((mb3.ext hy3).turned th (by omega)).turned ti (by omega)).turned tj (by omega);have mf3:=(((mf2.ext hy3).turned th (by omega)).turned ti (by omega)).turned tj (by omega);have mi2:=mi.turned tj (by omega);have HR:=zH (HU.out Xj hx4 z ⟨z+1,Xc.heap.size,Xg.heap.size,mj,mb4,mf3,mi2⟩);have HX:=zH (hx5.trans hx4);have HZ:=zH (show W.heap.size+6<=Xj.heap.size by have:=hx4.size;omega);subst hB;have ua':(Instr.mapUpdate 203 (.map (some (z+1))) (.int .u8 1) (.func (.func 177) #[] #[.pointer (some ⟨W.heap.size+1+1+1+1,0,none⟩),.pointer (some ⟨W.heap.size+1,0,none⟩)])).run Tryz.prog Y1=.ok () Xa:=ua;have ub':(Instr.mapUpdate 203 (.map (some (z+1))) (.int .u8 5) (.func (.func 178) #[] #[.pointer (some ⟨W.heap.size,0,none⟩),.pointer (some ⟨W.heap.size+1+1+1+1,0,none⟩)])).run Tryz.prog Xa=.ok () Xb:=ub;have uc':(Instr.mapUpdate 204 (.map (some z)) (.int .u8 1) (.map (some (z+1)))).run Tryz.prog Xb=.ok () Xc:=uc;have ud':(Instr.mapUpdate 203 (.map (some Xc.heap.size)) (.int .u8 2) (.func (.func 179) #[] #[.pointer (some ⟨W.heap.size,0,none⟩),.pointer (some ⟨W.heap.size+1,0,none⟩),.pointer (some ⟨W.heap.size+1+1,0,none⟩),.pointer (some ⟨W.heap.size+1+1+1,0,none⟩)])).run Tryz.prog (Xc.alloc (.map #[] 0))=.ok () Xd:=ud;have ue':(Instr.mapUpdate 203 (.map (some Xc.heap.size)) (.int .u8 3) (.func (.func 181) #[] #[.pointer (some ⟨W.heap.size,0,none⟩),.pointer (some ⟨W.heap.size+1,0,none⟩)])).run Tryz.prog Xd=.ok () Xe:=ue;have uf':(Instr.mapUpdate 203 (.map (some Xc.heap.size)) (.int .u8 5) (.func (.func 183) #[] #[.pointer (some ⟨W.heap.size,0,none⟩)])).run Tryz.prog Xe=.ok () Xf:=uf;have ug':(Instr.mapUpdate 204 (.map (some z)) (.int .u8 2) (.map (some Xc.heap.size))).run Tryz.prog Xf=.ok () Xg:=ug;have uh':(Instr.mapUpdate 203 (.map (some Xg.heap.size)) (.int .u8 4) (.func (.func 184) #[] #[.pointer (some ⟨W.heap.size+1+1+1+1+1,0,none⟩),.pointer (some ⟨W.heap.size+1,0,none⟩)])).run Tryz.prog (Xg.alloc (.map #[] 0))=.ok () Xh:=uh;have ui':(Instr.mapUpdate 203 (.map (some Xg.heap.size)) (.int .u8 5) (.func (.func 185) #[] #[.pointer (some ⟨W.heap.size+1+1+1+1+1,0,none⟩)])).run Tryz.prog Xh=.ok () Xi:=ui;have uj':(Instr.mapUpdate 204 (.map (some z)) (.int .u8 3) (.map (some Xg.heap.size))).run Tryz.prog Xi=.ok () Xj:=uj;clear ua ub uc ud ue uf ug uh ui uj ma mb mc md me mf mg mh mi mj mb2 mb3 mb4 mf2 mf3 mi2 ta tb tc td te tf tg th ti tj hx1 hx2 hx3 hx4 hy2 hy3 hM hM1 hM2 hM3 hzc hzg hzY hx5 HU;rw [hz,hz5] at *;rw [hY1,hW5] at ua'
 clear hY1 hW5;go_enter Tryz.func135,Tryz.ntmps135;go_wp2_with fail;go_ret;exact⟨_,rfl,HR.out,HZ.out,HX.out⟩
end
section
open Go.RowKit Go.Shelf
abbrev OpD:=Nat × Str × Int × Str
abbrev opV (o:OpD):Value:=.agg #[K8 o.1,St o.2.1,I o.2.2.1,St o.2.2.2]
def zbw (B kk dO:Nat):Option Value :=
 if kk=1 then (if dO=1 then some (clo 177 [B+4,B+1]) else if dO=5 then some (clo 178 [B,B+4]) else none)
 else if kk=2 then (if dO=2 then some (clo 179 [B,B+1,B+2,B+3]) else if dO=3 then some (clo 181 [B,B+1]) else if dO=5 then some (clo 183 [B]) else none)
 else if kk=3 then (if dO=4 then some (clo 184 [B+5,B+1]) else if dO=5 then some (clo 185 [B+5]) else none)
 else none
def doE (kk:Nat) (e:Entry) (o:OpD) (d:Dot):Option (Entry × Nat) :=
 if kk=1 then (if o.1=1 then some ({ e with counts:=(addC e.counts d.1 o.2.2.1).1 },(addC e.counts d.1 o.2.2.1).2) else if o.1=5 then some ({ e with counts:=(delC e.counts d.1).1 },(delC e.counts d.1).2) else none)
 else if kk=2 then (if o.1=2 then some ({ e with items:=(putB e.items o.2.2.2 d).1 },(putB e.items o.2.2.2 d).2) else if o.1=3 then some ({ e with items:=zgq e.items o.2.2.2 },0) else if o.1=5 then some ({ e with items:=[] },0) else none)
 else if kk=3 then (if o.1=4 then some ({ e with cell:=(zau e.cell o.2.2.2 false).1 },(zau e.cell o.2.2.2 false).2) else if o.1=5 then some ({ e with cell:=(zau e.cell [] true).1 },(zau e.cell [] true).2) else none)
 else none
theorem UpdAt.ext {w w':World} {B E:Nat} {n:Int} {tx:Str} {d:Dot} {m:Nat} (h:UpdAt w B E n tx d m) (he:Ext w w'):UpdAt w' B E n tx d m:=by
 obtain⟨h1,h2,h3,h4,h5,h6,h7,h8,m1,m2,m3,h9,h10,h11,h12⟩:=h;exact⟨he.cell h1,he.cell h2,he.cell h3,he.cell h4,he.cell h5,h6.ext he,he.cell h7,he.cell h8,m1,m2,m3,h9.ext he,h10.ext he,h11.ext he,h12.ext he⟩
theorem zyb (w:World):(zeroValue 203).run Tryz.prog w=.ok (M8 none) w:=Tryz.zeroValue203 w
theorem zu0 (w:World):(zeroValue 201).run Tryz.prog w=.ok (V8 .nilFunc) w:=Tryz.zeroValue201 w
theorem zww (k:Nat) (w:World):(Instr.lookup 203 (.map none) (K8 k) true).run Tryz.prog w=.ok (.tuple #[.nilFunc,.bool false]) w:=by
 have hz:=zu0 w;have hc:=keyOk8.check true k w;have hf:=MapIs.find (V:=V8) keyOk8 (es:=#[]) (L:=[]) rfl k w;simp at hf;simp [Instr.lookup,run_underlying Tryz.underlying203,hz,hc,hf]
def InnerIs (W:World) (B kk:Nat) (v:Value):Prop:=∀ W3,Ext W W3->∀ dO,(Instr.lookup 203 v (K8 dO) true).run Tryz.prog W3=.ok (.tuple #[(zbw B kk dO).getD .nilFunc,.bool (zbw B kk dO).isSome]) W3
theorem InnerIs.ext {W W':World} {B kk:Nat} {v:Value} (h:InnerIs W B kk v) (he:Ext W W'):InnerIs W' B kk v:=fun W3 h3=>h W3 (he.trans h3)
theorem zlb {W:World} {B kk b:Nat} {L:List (Nat × Value)} (h:MapIs K8 V8 W b L) (hc:∀ dO,zbw B kk dO=zdw L dO):InnerIs W B kk (.map (some b)):=fun W3 h3 dO=>by
 have:=(zbk (P:=Tryz.prog) (z:=Value.nilFunc) Tryz.underlying203 keyOk8 zu0 (h.ext h3) dO).2;rw [zjl,show getL Value.nilFunc L dO=(zdw L dO).getD .nilFunc from rfl,<- hc] at this;exact this
theorem zwx {w:World} {B E:Nat} {n:Int} {tx:Str} {d:Dot} {m:Nat} (h:UpdAt w B E n tx d m) (kk:Nat) :
  ∃ u,(∀ W3,Ext w W3->(Instr.lookup 204 (.map (some m)) (K8 kk) false).run Tryz.prog W3=.ok u W3)/\InnerIs w B kk u:=by
 obtain⟨m1,m2,m3,h9,h10,h11,h12⟩:=h.maps;refine ⟨M8 (getL none [(1,some m1),(2,some m2),(3,some m3)] kk),fun W3 h3=>(zbk (P:=Tryz.prog) (z:=none) Tryz.underlying204 keyOk8 zyb (h9.ext h3) kk).1,?_⟩;rw [show getL none [(1,some m1),(2,some m2),(3,some m3)] kk=(zdw [(1,some m1),(2,some m2),(3,some m3)] kk).getD none from rfl];simp only [zd8]
 by_cases k1:kk=1
 ·subst k1;simp only [if_true,Option.getD_some];exact zlb h10 fun dO=>by simp only [zd8,zbw,if_true];rfl
 ·by_cases k2:kk=2
  ·subst k2;simp only [if_true,if_neg k1,Option.getD_some];exact zlb h11 fun dO=>by simp only [zd8,zbw,if_true,if_neg k1];rfl
  ·by_cases k3:kk=3
   ·subst k3;simp only [if_true,if_neg k1,if_neg k2,Option.getD_some];exact zlb h12 fun dO=>by simp only [zd8,zbw,if_true,if_neg k1,if_neg k2];rfl
   ·simp only [if_neg k1,if_neg k2,if_neg k3];intro W3 h3 dO;rw [show zbw B kk dO=none by simp only [zbw,if_neg k1,if_neg k2,if_neg k3]];exact zww dO W3
theorem zyc {S:Nat->Prop} {W:World} {B E m:Nat} {kk:Nat} {o:OpD} {d:Dot} {e:Entry} {v1 v2 v3:Value} (hU:UpdAt W B E o.2.2.1 o.2.2.2 d m) (hn1:-9223372036854775808<=o.2.2.1) (hn2:o.2.2.1<=9223372036854775807)
  (hl1:e.counts.length < 1099511627776) (hl2:(zac e.items).length < 1099511627776) (hE:RowIs W E 46 (entL e v1 v2 v3) []) (hA:EntAt W S e v1 v2 v3) (hS:∀ b,S b->b ≠ E/\b ≠ B+3) (hpr:B+3 ≠ E) :
  match zbw B kk o.1,doE kk e o d with
  | none,none=>True
  | some c,some (e',err)=>∃ f args,c=.func (.func f) #[] args/\(∀ xs w,(callFunc f xs).run Tryz.prog w=.ok (.enter f xs) w)/\Calls Tryz.prog f args W fun r w'=>r=.returned (I err)/\Did W w' E (B+3) S e' v1
  | _,_=>False:=by
 obtain⟨pe,po2,po3,d0,d1,err,c1,c2,-⟩:=hU;unfold zbw doE
 by_cases k1:kk=1
 ·simp only [k1,if_true]
  by_cases q1:o.1=1
  ·simp only [q1,if_true];exact⟨_,_,rfl,enters_of Tryz.func177 (by kernel_rfl) rfl,zwq o.2.2.1 hn1 hn2 c1 po2 d0 hl1 pe err hE hA hS hpr⟩
  ·simp only [if_neg q1]
   by_cases q5:o.1=5
   ·simp only [q5,if_true];exact⟨_,_,rfl,enters_of Tryz.func178 (by kernel_rfl) rfl,zwr c1 d0 hl1 pe err hE hA hS hpr⟩
   ·simp only [if_neg q5]
 ·by_cases k2:kk=2
  ·simp only [k2,if_true,if_neg (by decide:¬ (2:Nat)=1)]
   by_cases q2:o.1=2
   ·simp only [q2,if_true];exact⟨_,_,rfl,enters_of Tryz.func179 (by kernel_rfl) rfl,zwp po3 d0 d1 hl2 pe err hE hA hS hpr⟩
   ·simp only [if_neg q2]
    by_cases q3:o.1=3
    ·simp only [q3,if_true];exact⟨_,_,rfl,enters_of Tryz.func181 (by kernel_rfl) rfl,zwv po3 (by omega) pe hE hA hS⟩
    ·simp only [if_neg q3]
     by_cases q5:o.1=5
     ·simp only [q5,if_true];exact⟨_,_,rfl,enters_of Tryz.func183 (by kernel_rfl) rfl,zws pe hE hA hS⟩
     ·simp only [if_neg q5]
  ·by_cases k3:kk=3
   ·simp only [k3,if_true,if_neg (by decide:¬ (3:Nat)=1),if_neg (by decide:¬ (3:Nat)=2)]
    by_cases q4:o.1=4
    ·simp only [q4,if_true];exact⟨_,_,rfl,enters_of Tryz.func184 (by kernel_rfl) rfl,zwt c2 po3 pe err hE hA hS hpr⟩
    ·simp only [if_neg q4]
     by_cases q5:o.1=5
     ·simp only [q5,if_true];exact⟨_,_,rfl,enters_of Tryz.func185 (by kernel_rfl) rfl,zwu c2 pe err hE hA hS hpr⟩
     ·simp only [if_neg q5]
   ·simp only [if_neg k1,if_neg k2,if_neg k3]
end
end Go.Proofs.YtaabaflgeljbjaaGreat
