/- Contracts and plain laws. -/
import Derived.Test.YtdikcgmdmcfpfaaGreatJo45
import Derived.Test.YtdikcgmdmcfpfaaGreatJo32
import Derived.Test.YtdikcgmdmcfpfaaGreatJo18
import Derived.Test.YtdikcgmdmcfpfaaGreatJo02
import Derived.Test.YtdikcgmdmcfpfaaGreatJo31
import Derived.Test.YtdikcgmdmcfpfaaGreatJo39
import Derived.Test.YtdikcgmdmcfpfaaGreatJo25
set_option linter.unusedVariables false
set_option linter.unusedSimpArgs false
set_option maxRecDepth 100000
set_option maxHeartbeats 40000000
namespace Go.Proofs.YtdikcgmdmcfpfaaGreat
section
open Go.RowKit Go.Shelf
theorem znz {S:Nat->Prop} {v:Value} {l:List Str} {w:World} (s:Str) (hv:Sl strT w S v l) :
  Calls Tryz.prog 76 #[v,St s] w fun e w'=>e=.returned (.bool (decide (s ∈ l)))/\w'=w:=by
 have hv':=hv;obtain⟨P0,c,rfl,h1,h2⟩:=hv.form;have HAT:=zH (fun (pre post:List Str) (x:Str) (wr:World) (h:Ext w wr) (hl:l=pre++x :: post)=>zdw hv' h hl);clear hv hv';go_enter Tryz.func76,Tryz.ntmps76;go_wp2_with fail;obtain⟨w0,hw0⟩:∃ w0,w0=w:=⟨_,rfl⟩
 go_loopw [5] (fun i wr=>∃ (pre post:List Str),l=pre++post/\i=I pre.length/\s ∉ pre/\wr=w) (fun i _=>l.length - (intOf i).toNat)
 case atStart=>exact⟨[],l,rfl,rfl,by simp,rfl⟩
 case round =>
  obtain⟨pre,post,hl,rfl,hn,rfl⟩:=hrel
  cases post with
  | cons x post =>
   obtain⟨b,o,rfl,e0⟩:=HAT.out pre post x _ (Ext.refl _) hl;have hlt:pre.length < l.length:=(by rw [hl];simp);have HL:=zH hl;have HN:=zH hn;clear hl hn
   by_cases hd:x=s
   ·have hb:(x == s)=true:=(by simpa using hd);have HF:=zH (show decide (s ∈ l)=true by rw [HL.out,hd];simp);clear hd;go_wp2_with fail;go_ret;exact⟨by rw [HF.out];rfl,rfl⟩
   ·have hb:(x == s)=false:=(by simpa using hd);have HD:=zH hd;clear hd;go_wp2_with fail;go_roundw
    case rel=>exact⟨pre++[x],post,by rw [HL.out];simp,by simp,by intro h;rcases List.mem_append.1 h with h | h;exact HN.out h;simp at h;exact HD.out h.symm,trivial⟩
    case measure=>simp [intOf];omega
  | nil=>rw [List.append_nil] at hl;subst hl;have HF:=zH (show decide (s ∈ l)=false by simpa using hn);clear hn;go_wp2_with fail;go_ret;exact⟨by rw [HF.out];rfl,rfl⟩
theorem zsx {S:Nat->Prop} {s:State} {a1 a2 a3:Value} {w0 w:World} (k:Str) (hxw:Ext w0 w) (hs:StAt w0 S s a1 a2 a3) :
  Calls Tryz.prog 73 #[stV a1 a2 a3,St k] w fun r w'=>∃ v1 v2 v3,r=.returned (.tuple #[entV (getE s.entries k) v1 v2 v3,.bool (zau s.entries k).isSome])/\EntAt w0 S (getE s.entries k) v1 v2 v3/\Ext w w':=by
 obtain⟨sa,l,sp⟩:=s;obtain⟨A1,n1,rfl,-,-⟩:=hs.all.form;obtain⟨A2,n2,rfl,hc1,hc2⟩:=hs.entries.form;obtain⟨A3,n3,rfl,-,-⟩:=hs.pruned.form;have hx0:=((Ext.refl w).alloc (.cells #[.slice A1 sa.length n1,.slice A2 l.length n2,.slice A3 sp.length n3] 30)).alloc (.cells #[St [],.slice none 0 0,.slice none 0 0,.slice none 0 0,.int .u64 0,St [],.bool false] 37);have rA:=(zah w 30 [.slice A1 sa.length n1,.slice A2 l.length n2,.slice A3 sp.length n3]).alloc (.cells #[St [],.slice none 0 0,.slice none 0 0,.slice none 0 0,.int .u64 0,St [],.bool false] 37);have rR:=zah (w.alloc (.cells #[.slice A1 sa.length n1,.slice A2 l.length n2,.slice A3 sp.length n3] 30)) 37 [St [],.slice none 0 0,.slice none 0 0,.slice none 0 0,.int .u64 0,St [],.bool false];rw [World.size_alloc] at rR;have he':=hs.entries;have HAT:=zH (fun (pre post:List Entry) (m:Entry) (wr:World) (h:Ext w wr) (hl:l=pre++m :: post)=>zbq he' (hxw.trans h) hl);have HX:=zH hx0;clear hs he';go_enter Tryz.func73,Tryz.ntmps73;go_wp2_with fail;generalize ((w.alloc (.cells #[.slice A1 sa.length n1,.slice A2 l.length n2,.slice A3 sp.length n3] 30)).alloc (.cells #[St [],.slice none 0 0,.slice none 0 0,.slice none 0 0,.int .u64 0,St [],.bool false] 37))=W0 at *;have a1:=rA.cell (j:=1) rfl;obtain⟨r0,r1,r2,r3,r4,r5,r6⟩:=rR.p7;obtain⟨f0,f1,f2,f3,f4,f5,f6⟩:=rR.q7;clear rA rR hx0
 go_loopw [6] (fun i wr=>∃ (pre post:List Entry),l=pre++post/\i=I pre.length/\(∀ x ∈ pre,x.key ≠ k)/\wr=W0) (fun i _=>l.length - (intOf i).toNat)
 case atStart=>exact⟨[],l,rfl,rfl,by simp,rfl⟩
 case round =>
  obtain⟨pre,post,hl,rfl,hn,rfl⟩:=hrel
  cases post with
  | cons m post =>
   obtain⟨b,o,v1,v2,v3,rfl,e0,e1,e2,e3,e4,e5,e6,hEA⟩:=HAT.out pre post m _ HX.out hl;have hlt:pre.length < l.length:=(by rw [hl];simp);obtain⟨B1,m1,rfl,-,-⟩:=hEA.seen.form;obtain⟨B2,m2,rfl,-,-⟩:=hEA.counts.form;obtain⟨B3,m3,rfl,-,-⟩:=hEA.items.form;have HL:=zH hl;have HN:=zH hn;have HEA:=zH hEA;clear hl hn hEA
   by_cases hd:m.key=k
   ·have hb:(m.key == k)=true:=by simpa using hd
    have hfe:zau l k=some m:=by
     unfold zau;rw [HL.out,List.find?_append,List.find?_eq_none.2 (by intro x hx;simpa using HN.out x hx),List.find?_cons_of_pos (by simpa using hd)]
     rfl
    have HF:=zH (show getE l k=m/\(zau l k).isSome=true by unfold getE;rw [hfe];exact⟨rfl,rfl⟩);clear hfe;clear hd;go_wp2_with fail
    (try simp only [Exit.inBlock,Exit.then])
    refine bodyPost_ret (v:=.tuple #[entV m (.slice B1 m.seen.length m1) (.slice B2 m.counts.length m2) (.slice B3 m.items.length m3),.bool true]) (by simp [results,Tryz.f73,go_sem,entV,entC,r0,r1,r2,r3,r4,r5,r6]) rfl ?_;have hp:=zb4 (q:=w.heap.size+1) HX.out (by omega) m (.slice B1 m.seen.length m1) (.slice B2 m.counts.length m2) (.slice B3 m.items.length m3);refine ⟨.slice B1 m.seen.length m1,.slice B2 m.counts.length m2,.slice B3 m.items.length m3,by rw [HF.out.1,HF.out.2],?_⟩;rw [HF.out.1];exact⟨HEA.out,hp⟩
   ·have hb:(m.key == k)=false:=(by simpa using hd);have HD:=zH hd;clear hd;go_wp2_with fail;go_roundw
    case rel=>exact⟨pre++[m],post,by rw [HL.out];simp,by simp,by intro x hx;rcases List.mem_append.1 hx with h | h;exact HN.out x h;simp at h;subst h;exact HD.out,trivial⟩
    case measure=>simp [intOf];omega
  | nil =>
   rw [List.append_nil] at hl;subst hl
   have hfe:zau l k=none:=by
    unfold zau;rw [List.find?_eq_none];intro x hx
    simpa using hn x hx
   have HF:=zH (show getE l k=zai/\(zau l k).isSome=false by unfold getE;rw [hfe];exact⟨rfl,rfl⟩);clear hfe;clear hn;go_wp2_with fail
   (try simp only [Exit.inBlock,Exit.then])
   refine bodyPost_ret (v:=.tuple #[entV zai (.slice none 0 0) (.slice none 0 0) (.slice none 0 0),.bool false]) (by simp [results,Tryz.f73,go_sem,entV,entC,zai,r0,r1,r2,r3,r4,r5,r6]) rfl ?_;have hp:=zb4 (q:=w.heap.size+1) HX.out (by omega) zai (.slice none 0 0) (.slice none 0 0) (.slice none 0 0);refine ⟨.slice none 0 0,.slice none 0 0,.slice none 0 0,by rw [HF.out.1,HF.out.2],?_⟩;rw [HF.out.1];exact⟨EntAt.none w0 S none none none,hp⟩
end
section
open Go.RowKit Go.Shelf
theorem zrj {W:World} {S R:Nat->Prop} {o v1 v2 v3:Value} {e:Entry} (h:EntAt W S e v1 v2 v3) (hS:∀ b,b < W.heap.size->S b->R b/\¬ zae o b):entryT.rd W (fun b=>R b/\¬ zae o b) e [St e.key,v1,v2,v3,U e.cell.1,St e.cell.2.1,.bool e.cell.2.2]:=by
 have h2:=h.mono hS;exact⟨v1,v2,v3,rfl,h2.seen,h2.counts,h2.items⟩
theorem zrk {S:Nat->Prop} {v:Value} {l:List Entry} {e:Entry} {e1 e2 e3:Value} {w:World} (hv:Sl entryT w S v l) (he:EntAt w S e e1 e2 e3) (hl0:l.length<=1000000) :
  Calls Tryz.prog 74 #[v,entV e e1 e2 e3] w fun r w'=>∃ v',r=.returned v'/\Sl entryT w' (fun b=>S b ∨ w.heap.size<=b) v' (zcs e false l)/\Ext w w':=by
 have hv':=hv.mono (S':=fun b=>S b/\b < w.heap.size) (by decide) (fun b h1 h2=>⟨h2,h1⟩);have he':=he.mono (S':=fun b=>S b/\b < w.heap.size) (fun b h1 h2=>⟨h2,h1⟩);obtain⟨P0,c,rfl,h1,h2⟩:=hv.form;obtain⟨E1,x1,rfl,-,-⟩:=he.seen.form;obtain⟨E2,x2,rfl,-,-⟩:=he.counts.form;obtain⟨E3,x3,rfl,-,-⟩:=he.items.form;obtain⟨W1,hW1⟩:∃ W1,w.alloc (.cells #[St e.key,.slice E1 e.seen.length x1,.slice E2 e.counts.length x2,.slice E3 e.items.length x3,U e.cell.1,St e.cell.2.1,.bool e.cell.2.2] 37)=W1:=⟨_,rfl⟩
 have hx1:Ext w W1:=by rw [<- hW1];exact (Ext.refl w).alloc _
 have rE:RowIs W1 w.heap.size 37 [St e.key,.slice E1 e.seen.length x1,.slice E2 e.counts.length x2,.slice E3 e.items.length x3,U e.cell.1,St e.cell.2.1,.bool e.cell.2.2] []:=by rw [<- hW1];exact zah w 37 [St e.key,.slice E1 e.seen.length x1,.slice E2 e.counts.length x2,.slice E3 e.items.length x3,U e.cell.1,St e.cell.2.1,.bool e.cell.2.2]
 have hsz1:w.heap.size<=W1.heap.size:=hx1.size;have HAT:=zH (fun (pre post:List Entry) (x:Entry) (wr:World) (h:Ext W1 wr) (hl:l=pre++x :: post)=>zbq hv' (hx1.trans h) hl);obtain⟨R,hR⟩:∃ R:Nat->Prop,R=fun b=>S b ∨ w.heap.size<=b:=⟨_,rfl⟩
 have HRS:=zH (show ∀ b,S b->R b by intro b h;rw [hR];exact .inl h);have HRB:=zH (show ∀ b,w.heap.size<=b->R b by intro b h;rw [hR];exact .inr h);have HRDE:=zH (fun (W:World) (h:Ext W1 W) (u:Value) (hu:∀ b,zae u b->W1.heap.size<=b)=>zrj (R:=R) (o:=u) (he'.ext (hx1.trans h)) fun b hb hS=>⟨HRS.out b hS.1,fun ho=>by have h1:=hu b ho;have h2:=hS.2;omega⟩);have HX1:=zH hx1;rw [<- hR];clear hv hv' he he' hx1 hR;go_enter Tryz.func74,Tryz.ntmps74;go_wp2_with fail
 go_loopw [5,6,7] (fun o dn i wr=>∃ (pre post P:List Entry) (db:Bool),l=pre++post/\i=I pre.length/\dn=.bool db/\P++zcs e db post=zcs e false l/\P.length<=pre.length+1/\(db=false->P.length<=pre.length)/\OwnL entryT 37 wr W1.heap.size (fun b=>R b/\¬ zae o b) o P/\Ext W1 wr) (fun _ _ i _=>l.length - (intOf i).toNat)
 case atStart=>exact⟨[],l,[],false,rfl,rfl,rfl,rfl,by simp,by simp,OwnL.nil _ _,Ext.refl _⟩
 case round =>
  obtain⟨pre,post,P,db,hl,rfl,rfl,hp,hpl,hpf,hown,hx⟩:=hrel;have hn3:=hx.size;have HX:=zH hx;have HO:=zH hown;have HOB:=zH (fun b hb=>(hown.base_le (b:=b) hb));obtain⟨CO,nO,rfl,-,-⟩:=hown.form
  cases post with
  | cons m post =>
   obtain⟨b,o,v1,v2,v3,rfl,M0,M1,M2,M3,M4,M5,M6,hEA⟩:=HAT.out pre post m W1 (Ext.refl _) hl;obtain⟨B1,m1,rfl,-,-⟩:=hEA.seen.form;obtain⟨B2,m2,rfl,-,-⟩:=hEA.counts.form;obtain⟨B3,m3,rfl,-,-⟩:=hEA.items.form;have hlt:pre.length < l.length:=(by rw [hl];simp);have HL:=zH hl;have HIC:=zH (zgi e m db post);have HP:=zH hp;have HRDM:=zH (fun (W:World) (h:Ext W1 W) (u:Value) (hu:∀ b,zae u b->W1.heap.size<=b)=>zrj (R:=R) (o:=u) (hEA.ext (HX1.out.trans h)) fun b hb hS=>⟨HRS.out b hS.1,fun ho=>by have h1:=hu b ho;have h2:=hS.2;omega⟩);have HPF:=zH hpf;have hrE:=rE.ext hx;obtain⟨k0,k1,k2,k3,k4,k5,k6⟩:=hrE.p7;have HM:=zH (fun (W:World) (h:Ext W1 W)=>And.intro (h.cell M0) (And.intro (h.cell M1) (And.intro (h.cell M2) (And.intro (h.cell M3) (And.intro (h.cell M4) (And.intro (h.cell M5) (h.cell M6)))))));obtain⟨m0_,m1_,m2_,m3_,m4_,m5_,m6_⟩:=HM.out wr hx;clear hl hx hp hown hpf hEA hrE M0 M1 M2 M3 M4 M5 M6
   by_cases he:m.key=e.key
   ·have heb:(m.key == e.key)=true:=(by simpa using he);have hp:=HP.out;rw [HIC.out,if_pos he] at hp;have HP:=zH hp;clear hp he;go_wp2_with fail;go_quiet (fail);go_wp2_with fail;go_roundw
    case rel=>exact⟨pre++[m],post,P,db,by rw [HL.out];simp,by simp,rfl,HP.out,by simp;omega,fun h=>by have:=HPF.out h;simp;omega,HO.out.ext ((Ext.refl _).drewN _),HX.out.drewN _⟩
    case measure=>simp [intOf];omega
   ·have heb:(m.key == e.key)=false:=(by simpa using he);go_wp;go_quiet (fail);go_wp2_with fail;have hx7:Ext wr (wr.drewN nq):=(Ext.refl wr).drewN nq;obtain⟨Wq,hWq⟩:∃ X,wr.drewN nq=X:=⟨_,rfl⟩
    rw [hWq] at hx7 ⊢;replace m0_:=hx7.cell m0_;replace m1_:=hx7.cell m1_;replace m2_:=hx7.cell m2_;replace m3_:=hx7.cell m3_;replace m4_:=hx7.cell m4_;replace m5_:=hx7.cell m5_;replace m6_:=hx7.cell m6_;replace k0:=hx7.cell k0;replace k1:=hx7.cell k1;replace k2:=hx7.cell k2;replace k3:=hx7.cell k3;replace k4:=hx7.cell k4;replace k5:=hx7.cell k5;replace k6:=hx7.cell k6;have HO:=zH (HO.out.ext hx7);have HX:=zH (HX.out.trans hx7);replace hn3:=Nat.le_trans hn3 hx7.size;clear hWq hx7
    cases db with
    | true =>
     have hp:=HP.out;rw [HIC.out,if_neg he,if_neg (by simp)] at hp;have HP:=zH hp;clear hp he;go_quiet (fail)
     go_wp2_with (at_builtin;refine zbg (T:=entryT) rfl (.tmp 38) (.tmp 43) 27 rfl W1.heap.size 37 120 (.agg #[St [],.slice none 0 0,.slice none 0 0,.slice none 0 0,U 0,St [],.bool false]) Tryz.underlying27 zbj rfl (by decide) (R) _ _ rfl (HO.out.ext (((Ext.refl _).drewN _).alloc _)) _ 1 m [St m.key,.slice B1 m.seen.length m1,.slice B2 m.counts.length m2,.slice B3 m.items.length m3,U m.cell.1,St m.cell.2.1,.bool m.cell.2.2] rfl (Src.newAt (by simp [World.size_setCell]) rfl (by intro u hu;simp at hu;rcases hu with rfl | rfl | rfl | rfl | rfl | rfl | rfl <;> rfl)) (HRDM.out _ ((HX.out.drewN _).alloc _) _ (fun b hb=>(HOB.out b hb).1)) (by omega) (by omega) (by simp;omega) ((HX.out.drewN _).alloc _) (Nat.le_refl _) ?_;intro v5 w5 hown5 hx5 hgr5)
     go_roundw
     case rel=>exact⟨pre++[m],post,P++[m],true,by rw [HL.out];simp,by simp,rfl,by rw [<- HP.out];simp,by simp;omega,by simp <;> omega,hown5,hx5⟩
     case measure=>simp [intOf];omega
    | false =>
     by_cases hc:ltS e.key m.key=true
     ·have hcb:Op.bytesLess e.key m.key=true:=hc;have hp:=HP.out;rw [HIC.out,if_neg he,if_pos ⟨rfl,hc⟩] at hp;have HP:=zH hp;have hpf:=HPF.out rfl;clear hp he hc;go_quiet (fail)
      go_wp2_with (at_builtin;first | (refine zbg (T:=entryT) rfl (.tmp 34) (.tmp 36) 27 rfl W1.heap.size 37 120 (.agg #[St [],.slice none 0 0,.slice none 0 0,.slice none 0 0,U 0,St [],.bool false]) Tryz.underlying27 zbj rfl (by decide) (R) _ _ rfl (HO.out.ext (((Ext.refl _).drewN _).alloc _)) _ 1 e [St e.key,.slice E1 e.seen.length x1,.slice E2 e.counts.length x2,.slice E3 e.items.length x3,U e.cell.1,St e.cell.2.1,.bool e.cell.2.2] rfl (Src.newAt (by simp [World.size_setCell]) rfl (by intro u hu;simp at hu;rcases hu with rfl | rfl | rfl | rfl | rfl | rfl | rfl <;> rfl)) (HRDE.out _ ((HX.out.drewN _).alloc _) _ (fun b hb=>(HOB.out b hb).1)) (by omega) (by omega) (by simp;omega) ((HX.out.drewN _).alloc _) (Nat.le_refl _) ?_;intro v5 w5 hown5 hx5 hgr5;obtain⟨n0_,n1_,n2_,n3_,n4_,n5_,n6_⟩:=HM.out w5 hx5;have HO5:=zH hown5;have HX5:=zH hx5;have hn5:=hx5.size;have HOB5:=zH (fun b hb=>(hown5.base_le (b:=b) hb).1);obtain⟨C5,c5,rfl,-,-⟩:=hown5.form;rw [show (P++[e]).length=P.length+1 by simp] at HO5 HOB5;clear hown5 hx5 hgr5) | (refine zbg (T:=entryT) rfl (.tmp 38) (.tmp 43) 27 rfl W1.heap.size 37 120 (.agg #[St [],.slice none 0 0,.slice none 0 0,.slice none 0 0,U 0,St [],.bool false]) Tryz.underlying27 zbj rfl (by decide) (R) _ _ rfl (HO5.out.ext ((Ext.refl _).alloc _)) _ 1 m [St m.key,.slice B1 m.seen.length m1,.slice B2 m.counts.length m2,.slice B3 m.items.length m3,U m.cell.1,St m.cell.2.1,.bool m.cell.2.2] rfl (Src.newAt (by simp [World.size_setCell]) rfl (by intro u hu;simp at hu;rcases hu with rfl | rfl | rfl | rfl | rfl | rfl | rfl <;> rfl)) (HRDM.out _ (HX5.out.alloc _) _ HOB5.out) (by simp;omega) (by simp;omega) (by simp;omega) (HX5.out.alloc _) (Nat.le_refl _) ?_;intro v6 w6 hown6 hx6 hgr6))
      go_roundw
      case rel=>exact⟨pre++[m],post,P++[e]++[m],true,by rw [HL.out];simp,by simp,rfl,by rw [<- HP.out];simp,by simp;omega,by simp,hown6,hx6⟩
      case measure=>simp [intOf];omega
     ·have hcb:Op.bytesLess e.key m.key=false:=(by simpa using hc);have hp:=HP.out;rw [HIC.out,if_neg he,if_neg (fun h=>hc h.2)] at hp;have HP:=zH hp;have hpf:=HPF.out rfl;clear hp he hc;go_quiet (fail)
      go_wp2_with (at_builtin;refine zbg (T:=entryT) rfl (.tmp 38) (.tmp 43) 27 rfl W1.heap.size 37 120 (.agg #[St [],.slice none 0 0,.slice none 0 0,.slice none 0 0,U 0,St [],.bool false]) Tryz.underlying27 zbj rfl (by decide) (R) _ _ rfl (HO.out.ext (((Ext.refl _).drewN _).alloc _)) _ 1 m [St m.key,.slice B1 m.seen.length m1,.slice B2 m.counts.length m2,.slice B3 m.items.length m3,U m.cell.1,St m.cell.2.1,.bool m.cell.2.2] rfl (Src.newAt (by simp [World.size_setCell]) rfl (by intro u hu;simp at hu;rcases hu with rfl | rfl | rfl | rfl | rfl | rfl | rfl <;> rfl)) (HRDM.out _ ((HX.out.drewN _).alloc _) _ (fun b hb=>(HOB.out b hb).1)) (by omega) (by omega) (by simp;omega) ((HX.out.drewN _).alloc _) (Nat.le_refl _) ?_;intro v5 w5 hown5 hx5 hgr5)
      go_roundw
      case rel=>exact⟨pre++[m],post,P++[m],false,by rw [HL.out];simp,by simp,rfl,by rw [<- HP.out];simp,by simp;omega,by simp <;> omega,hown5,hx5⟩
      case measure=>simp [intOf];omega
  | nil =>
   rw [List.append_nil] at hl;subst hl;have HP:=zH hp;have hrE:=rE.ext hx;obtain⟨k0,k1,k2,k3,k4,k5,k6⟩:=hrE.p7;clear hp hx hown hrE
   cases db with
   | true=>go_wp2_with fail;go_ret;exact⟨_,rfl,by rw [<- HP.out];simp only [zcs,if_true,List.append_nil];exact zln HO.out (by decide) (fun b h=>HRB.out b (by omega)),HX1.out.trans HX.out⟩
   | false =>
    have hpf:=hpf rfl
    go_wp2_with (at_builtin;refine zbg (T:=entryT) rfl (.tmp 47) (.tmp 49) 27 rfl W1.heap.size 37 120 (.agg #[St [],.slice none 0 0,.slice none 0 0,.slice none 0 0,U 0,St [],.bool false]) Tryz.underlying27 zbj rfl (by decide) (R) _ _ rfl (HO.out.ext ((Ext.refl _).alloc _)) _ 1 e [St e.key,.slice E1 e.seen.length x1,.slice E2 e.counts.length x2,.slice E3 e.items.length x3,U e.cell.1,St e.cell.2.1,.bool e.cell.2.2] rfl (Src.newAt (by simp [World.size_setCell]) rfl (by intro u hu;simp at hu;rcases hu with rfl | rfl | rfl | rfl | rfl | rfl | rfl <;> rfl)) (HRDE.out _ (HX.out.alloc _) _ (fun b hb=>(HOB.out b hb).1)) (by omega) (by omega) (by simp;omega) (HX.out.alloc _) (Nat.le_refl _) ?_;intro v5 w5 hown5 hx5 hgr5)
    go_ret;exact⟨_,rfl,by rw [<- HP.out];simp only [zcs,Bool.false_eq_true,if_false];exact zln hown5 (by decide) (fun b h=>HRB.out b (by omega)),HX1.out.trans hx5⟩
end
section
open Go.RowKit Go.Shelf
def InvS (N g:Nat) (M:List Mark) (p0 p1 p3 e v:Value) (l:List Entry) (W:World):Prop :=
 RowIs W g 64 [p0,p1,v,p3] []/\Own W (N+2) 25 2 p0 M.length (M.flatMap zag)/\OwnL entryT 37 W (N+2) (fun b=>b < N/\¬ zae v b) v l/\RowIs W (N+1) 64 [.slice none 0 0,.slice none 0 0,.slice none 0 0,.slice none 0 0] []/\RowIs W N 30 [p1,e,p3] []
theorem zok {S S0:Nat->Prop} {s:State} {v1 v2 v3 vb:Value} {base:List Mark} {w:World} (h:StAt w S s v1 v2 v3) (hb:Sl markT w S0 vb base) (hbl:base.length<=1000000) (hse:∀ e ∈ s.entries,e.seen.length<=1000000) (hsl:s.entries.length<=1000000) :
  Calls Tryz.prog 30 #[stV v1 v2 v3,vb] w fun r w'=>∃ u0 u1 u2 u3,r=.returned (dltV u0 u1 u2 u3)/\Sl markT w' (fun _=>True) u0 (za0 base)/\StAt w' (fun _=>True) (zfh s base) u1 u2 u3/\Ext w w':=by
 obtain⟨sa,se,sp⟩:=s;simp only at hse hsl;obtain⟨A1,n1,rfl,-,-⟩:=h.all.form;obtain⟨A2,n2,rfl,-,-⟩:=h.entries.form;obtain⟨A3,n3,rfl,-,-⟩:=h.pruned.form;obtain⟨A0,n0,rfl,-,-⟩:=hb.form;have hS:=h.mono (S':=fun b=>b < w.heap.size) (fun b hb _=>hb);have h':=hS.entries;have HAT:=zH (fun (pre post:List Entry) (m:Entry) (wr:World) (hx:Ext w wr) (hl:se=pre++m :: post)=>zbq h' hx hl);have H:=zH hS;have HB0:=zH hb;have HSE:=zH hse;have HSI:=zH (show zfh ⟨sa,se,sp⟩ base=⟨sa,se.filter (zde base),sp⟩ from rfl);obtain⟨W0,hW0⟩:∃ W0,(w.alloc (.cells #[.slice A1 sa.length n1,.slice A2 se.length n2,.slice A3 sp.length n3] 30)).alloc (.cells #[.slice none 0 0,.slice none 0 0,.slice none 0 0,.slice none 0 0] 64)=W0:=⟨_,rfl⟩
 have hx0:Ext w W0:=by rw [<- hW0];exact ((Ext.refl w).alloc _).alloc _
 have rB0:RowIs W0 w.heap.size 30 [.slice A1 sa.length n1,.slice A2 se.length n2,.slice A3 sp.length n3] []:=by rw [<- hW0];exact (zah w 30 [.slice A1 sa.length n1,.slice A2 se.length n2,.slice A3 sp.length n3]).alloc _
 have rR0:RowIs W0 (w.heap.size+1) 64 [.slice none 0 0,.slice none 0 0,.slice none 0 0,.slice none 0 0] []:=by rw [<- hW0];have h:=zah (w.alloc (.cells #[.slice A1 sa.length n1,.slice A2 se.length n2,.slice A3 sp.length n3] 30)) 64 [.slice none 0 0,.slice none 0 0,.slice none 0 0,.slice none 0 0];simp only [World.size_alloc] at h;exact h
 have hz0:W0.heap.size=w.heap.size+2:=by rw [<- hW0];simp
 clear h h' hS hb hse;go_enter Tryz.func30,Tryz.ntmps30;go_wp2_with fail
 (try rw [hW0])
 clear hW0;have HCL:=zH (fun (W:World) (he:Ext W0 W)=>zgd (HB0.out.ext (by decide) (hx0.trans he)) hbl);generalize hJB:za0 base=JB at *;have HJB:=zH hJB;clear hJB
 refine zaq [fun v _=>v=.slice A0 base.length n0,
  fun v W=>Own W (w.heap.size+2) 25 2 v JB.length (JB.flatMap zag),
  fun v _=>v=.pointer (some ⟨w.heap.size,0,none⟩),
  fun v _=>v=.slice A1 sa.length n1,
  fun v _=>v=.pointer (some ⟨w.heap.size,2,none⟩),
  fun v _=>v=.slice A3 sp.length n3,
  fun v _=>v=stV (.slice A1 sa.length n1) (.slice none 0 0) (.slice A3 sp.length n3),
  fun v W=>∃ B m,v=dltV (.slice B JB.length m) (.slice A1 sa.length n1) (.slice none 0 0) (.slice A3 sp.length n3)/\Own W (w.heap.size+2) 25 2 (.slice B JB.length m) JB.length (JB.flatMap zag),
  fun v W=>∃ g,v=.pointer (some ⟨g,0,none⟩)/\w.heap.size+2<=g/\RowIs W g 64 [.slice none 0 0,.slice none 0 0,.slice none 0 0,.slice none 0 0] []] rfl (by kernel_rfl) ?hR ?hstep ?hend
 case hR=>simp only [List.mem_cons,List.not_mem_nil,or_false,forall_eq_or_imp,forall_eq];exact⟨kP,fun v _ _ h he=>h.ext he,kP,kP,kP,kP,kP,fun v _ _ h he=>by obtain⟨B,m,e,a⟩:=h;exact⟨B,m,e,a.ext he⟩,fun v _ _ h he=>by obtain⟨g,e,a,b⟩:=h;exact⟨g,e,a,b.ext he⟩⟩
 case hstep =>
  simp only [List.length_cons,List.length_nil,Nat.reduceAdd,List.take_succ_cons,List.take_zero,zbf,and_true];refine ⟨?_,?_,?_,?_,?_,?_,?_,?_,?_⟩
  ·intro x W he f;have h:x 1=.slice A0 base.length n0:=f.1;go_wp;exact sQ
  ·intro x W he f;have h:x 7=.slice A0 base.length n0:=f.1;have hs:=he.size;have HC:=zH (HCL.out W he);go_wp;refine HC.out.mono ?_;rintro r W2 ⟨v',rfl,hown,hx2⟩;dsimp only;go_wp;exact zaa (v:=v') (hown.lower (by omega)) hx2
  ·intro x W he f;have h:x 2=.pointer (some ⟨w.heap.size,0,none⟩):=f.1;have q0:=(rB0.ext he).cell (j:=0) rfl;have q1:=(rB0.ext he).cell (j:=1) rfl;have q2:=(rB0.ext he).cell (j:=2) rfl;go_wp;exact sQ
  ·intro x W he f;have h:x 9=.pointer (some ⟨w.heap.size,0,none⟩):=f.1;have q0:=(rB0.ext he).cell (j:=0) rfl;go_wp;exact sQ
  ·intro x W he f;have h:x 2=.pointer (some ⟨w.heap.size,0,none⟩):=f.1;have q0:=(rB0.ext he).cell (j:=0) rfl;have q1:=(rB0.ext he).cell (j:=1) rfl;have q2:=(rB0.ext he).cell (j:=2) rfl;go_wp;exact sQ
  ·intro x W he f;have h:x 11=.pointer (some ⟨w.heap.size,2,none⟩):=f.1;have q2:=(rB0.ext he).cell (j:=2) rfl;go_wp;exact sQ
  ·intro x W he f;have h:x 10=.slice A1 sa.length n1:=f.1;have h2:x 12=.slice A3 sp.length n3:=f.2.1;go_wp;exact sQ
  ·intro x W he f;have ho:Own W (w.heap.size+2) 25 2 (x 8) JB.length (JB.flatMap zag):=f.1;have h2:x 13=stV (.slice A1 sa.length n1) (.slice none 0 0) (.slice A3 sp.length n3):=f.2.1;obtain⟨B,m,hf,-,-⟩:=ho.form;rw [hf] at ho;go_wp;exact zaa (v:=dltV (.slice B JB.length m) (.slice A1 sa.length n1) (.slice none 0 0) (.slice A3 sp.length n3)) ⟨B,m,rfl,ho⟩ (Ext.refl _)
  ·intro x W he f;have hs:=he.size;have hrow:=zah W 64 [.slice none 0 0,.slice none 0 0,.slice none 0 0,.slice none 0 0];have hxa:=(Ext.refl W).alloc (.cells #[.slice none 0 0,.slice none 0 0,.slice none 0 0,.slice none 0 0] 64);go_wp;exact zaa (v:=.pointer (some ⟨W.heap.size,0,none⟩)) ⟨W.heap.size,rfl,by omega,hrow⟩ hxa
 case hend =>
  intro x W he f;obtain⟨B0,m0,h14,ho0⟩:∃ B m,x 14=dltV (.slice B JB.length m) (.slice A1 sa.length n1) (.slice none 0 0) (.slice A3 sp.length n3)/\Own W (w.heap.size+2) 25 2 (.slice B JB.length m) JB.length (JB.flatMap zag):=f.2.2.2.2.2.2.2.1;obtain⟨g,h5,hg2,hrow⟩:∃ g,x 5=.pointer (some ⟨g,0,none⟩)/\w.heap.size+2<=g/\RowIs W g 64 [.slice none 0 0,.slice none 0 0,.slice none 0 0,.slice none 0 0] []:=f.2.2.2.2.2.2.2.2.1;clear f;simp only [List.length_cons,List.length_nil,Nat.reduceAdd,List.take_succ_cons,List.take_zero,List.filterMap_cons,List.filterMap_nil,List.drop_succ_cons,List.drop_zero,zaw,Act.put,List.setIfInBounds_toArray,List.set_cons_succ,List.set_cons_zero,h14,h5];have hk:∀ b,b ≠ g->((((W.setCell ⟨g,0,none⟩ (.slice B0 JB.length m0)).setCell ⟨g,1,none⟩ (.slice A1 sa.length n1)).setCell ⟨g,2,none⟩ (.slice none 0 0)).setCell ⟨g,3,none⟩ (.slice A3 sp.length n3)).heap[b]? = W.heap[b]?:=zkw W g (.slice B0 JB.length m0) (.slice A1 sa.length n1) (.slice none 0 0) (.slice A3 sp.length n3);obtain⟨c0,c1,c2,c3⟩:=hrow.p4;obtain⟨f0,f1,f2,f3⟩:=hrow.q4;have r4:=(((hrow.set (j:=0) (by simp) (.slice B0 JB.length m0)).set (j:=1) (by simp) (.slice A1 sa.length n1)).set (j:=2) (by simp) (.slice none 0 0)).set (j:=3) (by simp) (.slice A3 sp.length n3);simp only [List.set_cons_succ,List.set_cons_zero] at r4
  have HI6:=zH (show InvS w.heap.size g JB (.slice B0 JB.length m0) (.slice A1 sa.length n1) (.slice A3 sp.length n3) (.slice A2 se.length n2) (.slice none 0 0) [] ((((W.setCell ⟨g,0,none⟩ (.slice B0 JB.length m0)).setCell ⟨g,1,none⟩ (.slice A1 sa.length n1)).setCell ⟨g,2,none⟩ (.slice none 0 0)).setCell ⟨g,3,none⟩ (.slice A3 sp.length n3)) from
   ⟨r4,ho0.keep (fun b hb _=>hk b (fun e=>by subst e;exact ho0.apart hrow (by decide) hb)),OwnL.nil _ _,(rR0.ext he).keep (hk _ (by omega)),(rB0.ext he).keep (hk _ (by omega))⟩)
  have HX6:=zH (show Ext w ((((W.setCell ⟨g,0,none⟩ (.slice B0 JB.length m0)).setCell ⟨g,1,none⟩ (.slice A1 sa.length n1)).setCell ⟨g,2,none⟩ (.slice none 0 0)).setCell ⟨g,3,none⟩ (.slice A3 sp.length n3)) from zmx (hx0.trans he) (by omega) (.slice B0 JB.length m0) (.slice A1 sa.length n1) (.slice none 0 0) (.slice A3 sp.length n3));clear r4 hk ho0 hrow he hx0 rB0 rR0 hz0 HCL h14 h5;go_wp2_with fail;generalize ((((W.setCell ⟨g,0,none⟩ (.slice B0 JB.length m0)).setCell ⟨g,1,none⟩ (.slice A1 sa.length n1)).setCell ⟨g,2,none⟩ (.slice none 0 0)).setCell ⟨g,3,none⟩ (.slice A3 sp.length n3))=W6 at *;clear c0 c1 c2 c3 f0 f1 f2 f3
  go_loopw [6] (fun i wr=>∃ pre post vE,se=pre++post/\i=I pre.length/\Hid (InvS w.heap.size g JB (.slice B0 JB.length m0) (.slice A1 sa.length n1) (.slice A3 sp.length n3) (.slice A2 se.length n2) vE (pre.filter (zde base)) wr)/\Ext w wr) (fun i _=>se.length - (intOf i).toNat)
  case atStart=>exact⟨[],se,.slice none 0 0,rfl,rfl,HI6,HX6.out⟩
  case round =>
   obtain⟨pre,post,vE,hl,rfl,hI,hx⟩:=hrel;have HX:=zH hx
   cases post with
   | cons m post =>
    obtain⟨b,o,a1,a2,a3,rfl,e0,e1,e2,e3,e4,e5,e6,hEA⟩:=HAT.out pre post m wr hx hl;obtain⟨C1,c1,rfl,-,-⟩:=hEA.seen.form;obtain⟨C2,c2,rfl,-,-⟩:=hEA.counts.form;obtain⟨C3,c3,rfl,-,-⟩:=hEA.items.form;have hlt:pre.length < se.length:=(by rw [hl];simp);have hms:=HSE.out m (by rw [hl];simp);have HL:=zH hl;have hpf:=List.length_filter_le (zde base) pre;generalize hpl:pre.filter (zde base)=pl at *;have HPL:=zH hpl;have HEA:=zH (hEA.ext hx);have HCV:=zH (zj7 (HB0.out.ext (by decide) hx) HEA.out.seen hms);have HIN:=zH hI.out;obtain⟨-,-,-,-,hbx⟩:=hI.out;obtain⟨b0,b1,b2⟩:=hbx.p3;clear hl hpl hEA hI hx hbx;go_wp2_with fail;refine HCV.out.mono ?_;rintro r Wc ⟨rfl,hxc⟩;have HXC:=zH (HX.out.trans hxc);obtain⟨hgb,hob,hEb,hRb,hBb⟩:=HIN.out;have HC:=zH (show InvS w.heap.size g JB (.slice B0 JB.length m0) (.slice A1 sa.length n1) (.slice A3 sp.length n3) (.slice (some ⟨b,o,none⟩) se.length n2) vE pl Wc from ⟨hgb.ext hxc,hob.ext hxc,hEb.ext hxc,hRb.ext hxc,hBb.ext hxc⟩);have HEC:=zH (HEA.out.ext hxc);have HM:=zH (And.intro (hxc.cell e0) (And.intro (hxc.cell e1) (And.intro (hxc.cell e2) (And.intro (hxc.cell e3) (And.intro (hxc.cell e4) (And.intro (hxc.cell e5) (hxc.cell e6)))))));clear hgb hob hEb hRb hBb HIN HEA HX hxc e0 e1 e2 e3 e4 e5 e6 b0 b1 b2 HCV
    cases hcv:za3 base m.seen with
    | true =>
     have HFL:=zH (show (pre++[m]).filter (zde base)=pl by rw [List.filter_append,HPL.out];simp [zde,hcv]);clear hcv;go_wp2_with fail;go_roundw
     case rel=>exact⟨pre++[m],post,vE,by rw [HL.out];simp,by simp,by rw [HFL.out];exact HC,HXC.out⟩
     case measure=>simp [intOf];omega
    | false =>
     have HFL:=zH (show (pre++[m]).filter (zde base)=pl++[m] by rw [List.filter_append,HPL.out];simp [zde,hcv]);clear hcv;obtain⟨hgb,hob,hEb,hRb,hBb⟩:=HC.out;obtain⟨AE,cE,rfl,-,-⟩:=hEb.form;obtain⟨e0,e1,e2,e3,e4,e5,e6⟩:=HM.out;go_wp2_with fail
     refine zaq [fun v _=>v=.pointer (some ⟨g,1,none⟩),fun v _=>v=.pointer (some ⟨g,2,none⟩),fun v _=>v=.slice AE pl.length cE,fun v _=>v=.pointer (some ⟨w.heap.size,1,none⟩),fun v _=>v=.slice (some ⟨b,o,none⟩) se.length n2,fun v _=>v=I pre.length,
      fun v _=>v=.pointer (some ⟨b,o+pre.length * 7,none⟩),fun v _=>v=entV m (.slice C1 m.seen.length c1) (.slice C2 m.counts.length c2) (.slice C3 m.items.length c3),
      fun v W=>∃ h,v=.slice (some ⟨h,0,none⟩) 1 1/\RowIs W h 37 [St m.key,.slice C1 m.seen.length c1,.slice C2 m.counts.length c2,.slice C3 m.items.length c3,U m.cell.1,St m.cell.2.1,.bool m.cell.2.2] []] rfl (by kernel_rfl) ?hR2 ?hstep2 ?hend2
     case hR2=>simp only [List.mem_cons,List.not_mem_nil,or_false,forall_eq_or_imp,forall_eq];exact⟨kP,kP,kP,kP,kP,kP,kP,kP,fun v _ _ h he=>by obtain⟨g,e,a⟩:=h;exact⟨g,e,a.ext he⟩⟩
     case hstep2 =>
      simp only [List.length_cons,List.length_nil,Nat.reduceAdd,List.take_succ_cons,List.take_zero,zbf,and_true];refine ⟨?_,?_,?_,?_,?_,?_,?_,?_,?_⟩
      ·intro x W he f;have h:x 5=.pointer (some ⟨g,0,none⟩):=f.1;go_wp;exact sQ
      ·intro x W he f;have h:x 31=.pointer (some ⟨g,1,none⟩):=f.1;go_wp;exact sQ
      ·intro x W he f;have h:x 32=.pointer (some ⟨g,2,none⟩):=f.1;have hc:=(hgb.ext he).cell (j:=2) rfl;go_wp;exact sQ
      ·intro x W he f;have h:x 2=.pointer (some ⟨w.heap.size,0,none⟩):=f.1;go_wp;exact sQ
      ·intro x W he f;have h:x 34=.pointer (some ⟨w.heap.size,1,none⟩):=f.1;have hc:=(hBb.ext he).cell (j:=1) rfl;go_wp;exact sQ
      ·intro x W he f;have h:x 6=I pre.length:=f.1;go_wp;exact sQ
      ·intro x W he f;have h:x 35=.slice (some ⟨b,o,none⟩) se.length n2:=f.1;have h2:x 36=I pre.length:=f.2.1;go_wp;exact sQ
      ·intro x W he f;have h:x 37=.pointer (some ⟨b,o+pre.length * 7,none⟩):=f.1;have q0:=he.cell e0;have q1:=he.cell e1;have q2:=he.cell e2;have q3:=he.cell e3;have q4:=he.cell e4;have q5:=he.cell e5;have q6:=he.cell e6;go_wp;exact sQ
      ·intro x W he f;have h:x 38=entV m (.slice C1 m.seen.length c1) (.slice C2 m.counts.length c2) (.slice C3 m.items.length c3):=f.1;have hrow:=zah W 37 [St m.key,.slice C1 m.seen.length c1,.slice C2 m.counts.length c2,.slice C3 m.items.length c3,U m.cell.1,St m.cell.2.1,.bool m.cell.2.2];have hxa:=(Ext.refl W).alloc (.cells #[St m.key,.slice C1 m.seen.length c1,.slice C2 m.counts.length c2,.slice C3 m.items.length c3,U m.cell.1,St m.cell.2.1,.bool m.cell.2.2] 37);go_wp;exact zaa (v:=.slice (some ⟨W.heap.size,0,none⟩) 1 1) ⟨W.heap.size,rfl,hrow⟩ hxa
     case hend2 =>
      intro x W he f;have h33:x 33=.slice AE pl.length cE:=f.2.2.1;obtain⟨k,h39,hrow⟩:∃ h,x 39=.slice (some ⟨h,0,none⟩) 1 1/\RowIs W h 37 [St m.key,.slice C1 m.seen.length c1,.slice C2 m.counts.length c2,.slice C3 m.items.length c3,U m.cell.1,St m.cell.2.1,.bool m.cell.2.2] []:=f.2.2.2.2.2.2.2.2.1;clear f;simp only [List.length_cons,List.length_nil,Nat.reduceAdd,List.take_succ_cons,List.take_zero,List.filterMap_cons,List.filterMap_nil,List.drop_succ_cons,List.drop_zero,zaw,Act.put,List.setIfInBounds_toArray,List.set_cons_succ,List.set_cons_zero,h33,h39];have hEW:=hEb.ext he;have hgW:=hgb.ext he;have hoW:=hob.ext he;have hRW:=hRb.ext he;have hBW:=hBb.ext he;obtain⟨xE,hoE⟩:=hEW.own;have hEl:∀ b,zae (.slice AE pl.length cE) b->w.heap.size+2<=b:=fun b hb=>(hEW.base_le hb).1
      refine zbg (T:=entryT) rfl (.tmp 33) (.tmp 39) 27 rfl (w.heap.size+2) 37 120 (.agg #[St [],.slice none 0 0,.slice none 0 0,.slice none 0 0,U 0,St [],.bool false]) Tryz.underlying27 zbj rfl (by decide) (fun b=>b < w.heap.size) (.slice AE pl.length cE) pl (by simp [go_sem]) hEW (some ⟨k,0,none⟩) 1 m [St m.key,.slice C1 m.seen.length c1,.slice C2 m.counts.length c2,.slice C3 m.items.length c3,U m.cell.1,St m.cell.2.1,.bool m.cell.2.2] (by simp [go_sem])
       ⟨rfl,(by intro u hu;simp at hu;rcases hu with rfl | rfl | rfl | rfl | rfl | rfl | rfl <;> rfl),fun _=>⟨k,0,rfl,fun j u hj=>by rw [Nat.zero_add];exact hrow.cell hj⟩⟩ (zrj (HEC.out.ext he) fun b _ hS=>⟨hS,fun ho=>by have:=hEl b ho;omega⟩) (by omega) (by omega) (by have:=hgW.lt;omega) (HXC.out.trans he) (by omega) ?_
      intro v5 w5 hown5 hx5 hgr5;have hsm:=hgr5.same;have hg5:=hgW.keep (hsm g hgW.lt (hoE.apart hgW (by decide)));have ho5:=hoW.keep (fun b hb hlt=>hsm b hlt (hoW.apart2 hoE (by decide) b hb));have hR5:=hRW.keep (hsm _ hRW.lt (hoE.apart hRW (by decide)));have hB5:=hBW.keep (hsm _ hBW.lt (hoE.apart hBW (by decide)));obtain⟨AF,cF,rfl,-,-⟩:=hown5.form;rw [show (pl++[m]).length=pl.length+1 by simp] at hown5 ⊢;obtain⟨x5,hoF⟩:=hown5.own;have hf:=hg5.frozen 2;have hc0:=hg5.cell (j:=0) rfl;have hc:=hg5.cell (j:=2) rfl;have hgS:=hg5.set (j:=2) (by simp) (.slice AF (pl.length+1) cF);simp only [List.set_cons_succ,List.set_cons_zero] at hgS;have hkk:∀ b,b ≠ g->(w5.setCell ⟨g,2,none⟩ (.slice AF (pl.length+1) cF)).heap[b]? = w5.heap[b]?:=fun b hb=>Below.heap_setCell _ _ _ _ hb
      have HI:=zH (show InvS w.heap.size g JB (.slice B0 JB.length m0) (.slice A1 sa.length n1) (.slice A3 sp.length n3) (.slice (some ⟨b,o,none⟩) se.length n2) (.slice AF (pl.length+1) cF) (pl++[m]) (w5.setCell ⟨g,2,none⟩ (.slice AF (pl.length+1) cF)) from
       ⟨hgS,ho5.keep (fun b hb _=>hkk b (fun e=>by subst e;exact ho5.apart hg5 (by decide) hb)),hown5.keep (fun b hb _=>hkk b (by have:=hb.1;omega)) (fun b hb _=>hkk b (fun e=>by subst e;exact hoF.apart hg5 (by decide) hb)),hR5.keep (hkk _ (by omega)),hB5.keep (hkk _ (by omega))⟩)
      have HX5:=zH (hx5.set (p:=⟨g,2,none⟩) (by simp;omega) (.slice AF (pl.length+1) cF));clear hgS hg5 ho5 hR5 hB5 hoF hown5 hx5 hgr5 hsm hkk hEW hgW hoW hRW hBW hoE hrow he hEb hgb hob hRb hBb;go_wp2_with fail;go_roundw
      case rel=>exact⟨pre++[m],post,_,by rw [HL.out];simp,by simp,by rw [HFL.out];exact HI,HX5.out⟩
      case measure=>simp [intOf];omega
   | nil =>
    rw [List.append_nil] at hl;subst hl;generalize hpl:se.filter (zde base)=pl at *;have HPL:=zH hpl;clear hpl;obtain⟨hg,ho0,hE,hR,hbx⟩:=hI.out;have b1:=hbx.cell (j:=1) rfl;clear hbx;obtain⟨AE,cE,rfl,-,-⟩:=hE.form;obtain⟨k0,k1,k2,k3⟩:=hg.p4;obtain⟨r0,r1,r2,r3⟩:=hR.p4;obtain⟨f0,f1,f2,f3⟩:=hR.q4;have HI:=hI;clear hI hg ho0 hE hR hx;go_wp2_with fail
    (try simp only [Exit.inBlock,Exit.then])
    refine bodyPost_ret (v:=dltV (.slice B0 JB.length m0) (.slice A1 sa.length n1) (.slice AE pl.length cE) (.slice A3 sp.length n3)) (by simp [results,Tryz.f30,go_sem,r0,r1,r2,r3]) rfl ?_;obtain⟨hg,ho0,hE,hR,-⟩:=HI.out;have hk:=zkw wr (w.heap.size+1) (.slice B0 JB.length m0) (.slice A1 sa.length n1) (.slice AE pl.length cE) (.slice A3 sp.length n3);have hxe:=zmx (q:=w.heap.size+1) HX.out (by omega) (.slice B0 JB.length m0) (.slice A1 sa.length n1) (.slice AE pl.length cE) (.slice A3 sp.length n3);refine ⟨.slice B0 JB.length m0,.slice A1 sa.length n1,.slice AE pl.length cE,.slice A3 sp.length n3,rfl,?_,?_,hxe⟩
    ·rw [HJB.out];exact (zax (ho0.keep fun b hb _=>hk b (by have:=(ho0.base_le hb).1;omega))).mono (by decide) (fun _ _ _=>trivial)
    ·rw [HSI.out];refine ⟨(H.out.all.ext (by decide) hxe).mono (by decide) (fun _ _ _=>trivial),?_,(H.out.pruned.ext (by decide) hxe).mono (by decide) (fun _ _ _=>trivial)⟩;exact (hE.keep (fun b hb _=>hk b (by have:=hb.1;omega)) (fun b hb _=>hk b (by have:=(hE.base_le hb).1;omega))).sl (by decide) (fun _ _ _=>trivial) (fun _ _ _=>trivial)
end
section
open Go.RowKit Go.Shelf
theorem zlb (x:Str):dd [] x = [x]:=rfl
theorem zjf (P:List Str) (x:Str):dd (P++[x]) x=P++[x]:=by unfold dd;rw [if_pos (by simp)]
theorem zic (P:List Str) (z x:Str) (h:¬ z=x):dd (P++[z]) x=P++[z]++[x]:=by unfold dd;rw [if_neg (by simpa using h)]
theorem zid {w:World} {base T n c g:Nat} {P:List Str} {z:Str} (h:Own w base T 1 (.slice (some ⟨g,0,none⟩) n c) n ((P++[z]).flatMap strC)):w.cell? ⟨g,P.length,none⟩=some (St z):=by
 refine h.cell (g:=g) (c:=c) rfl ?_;rw [show (P++[z]).flatMap strC=P.map St++[St z] by rw [zcz];simp,List.getElem?_append_right (by simp)];simp
theorem zrl {S1 S2:Nat->Prop} {va vb:Value} {a b:List Str} {w:World} (ha:Sl strT w S1 va a) (hb:Sl strT w S2 vb b) (la:a.length<=100000) (lb:b.length<=100000) :
  Calls Tryz.prog 72 #[va,vb] w fun e w'=>∃ v',e=.returned v'/\Own w' w.heap.size 9 1 v' (zfe a b).length ((zfe a b).flatMap strC)/\Ext w w':=by
 have ha':=ha;have hb':=hb;obtain⟨A0,ca,rfl,-,-⟩:=ha.form;obtain⟨B0,cb,rfl,-,-⟩:=hb.form;have HAT:=zH (fun (pre post:List Str) (x:Str) (wr:World) (h:Ext w wr) (hl:a=pre++x :: post)=>zdw ha' h hl);have HBT:=zH (fun (pre post:List Str) (x:Str) (wr:World) (h:Ext w wr) (hl:b=pre++x :: post)=>zdw hb' h hl);have HT0:=zH (show (mrg a b).foldl dd []=zfe a b from rfl);obtain⟨T,hT⟩:∃ T,zfe a b=T:=⟨_,rfl⟩
 rw [hT] at HT0;have HTT:=zH hT;clear ha hb ha' hb' hT;go_enter Tryz.func72,Tryz.ntmps72;go_wp2_with fail
 go_loopw [5,6,7] (fun o i k wr=>∃ (pa qa pb qb P:List Str),a=pa++qa/\b=pb++qb/\i=I pa.length/\k=I pb.length/\(mrg qa qb).foldl dd P=T/\P.length<=pa.length+pb.length/\Own wr w.heap.size 9 1 o P.length (P.flatMap strC)/\Ext w wr) (fun _ i k _=>a.length+b.length - (intOf i).toNat - (intOf k).toNat)
 case atStart=>exact⟨[],a,[],b,[],rfl,rfl,rfl,rfl,HT0.out,by simp,Own.nil _ _ _ _ _,Ext.refl _⟩
 case round =>
  obtain⟨pa,qa,pb,qb,P,hla,hlb,rfl,rfl,hf,hpl,hown,hx⟩:=hrel;have hal1:pa.length<=a.length:=by rw [hla];simp
  have hbl1:pb.length<=b.length:=by rw [hlb];simp
  have HX:=zH hx;have hn3:=hx.size;have HLA:=zH hla;have HLB:=zH hlb
  cases qa with
  | cons x qa =>
   obtain⟨b1,o1,rfl,e0⟩:=HAT.out pa qa x wr hx hla;have hlta:pa.length < a.length:=by rw [hla];simp
   cases qb with
   | nil =>
    have hbe:pb.length=b.length:=(by rw [hlb];simp);rw [hbe] at hpl ⊢;have HBE:=zH hbe;have HLB2:=zH (show b.length=pb.length from hbe.symm);clear hbe;rcases List.eq_nil_or_concat P with hP | ⟨P2,z,hP⟩
    ·subst hP;have HO:=zH hown;obtain⟨CO,nO,rfl,-,-⟩:=hown.form;have HF:=zH hf;clear hown hf hx hla hlb;have HF2:=zH (show (mrg qa []).foldl dd ([x])=T by rw [<- HF.out,zm3,List.foldl_cons,zlb]);clear HF;go_wp2_with fail;go_quiet (fail)
     go_wp2_with (at_builtin;refine zab rfl (.tmp 65) (.tmp 67) 28 rfl w.heap.size 9 1 16 (St []) Tryz.underlying28 zcf rfl (by omega) _ (0) (([]).flatMap strC) rfl (HO.out.ext (((Ext.refl _).drewN _).alloc _)) _ 1 1 [St x] rfl (Src.new rfl (by intro u hu;simp at hu;rcases hu with rfl <;> rfl)) (by omega) (by omega) (by simp;omega) ?_;intro v3 w3 hown3 hgr3)
     go_roundw
     case rel=>exact⟨pa++[x],qa,pb,[],[x],by rw [HLA.out];simp,HLB.out,by simp,by rw [HBE.out],HF2.out,by have hq:=HBE.out;simp at hpl ⊢;omega,by simpa [strC] using hown3,Ext.grewOwn ((HX.out.drewN _).alloc _) hgr3 (HO.out.ext (((Ext.refl _).drewN _).alloc _)) (Nat.le_refl _)⟩
     case measure=>simp [intOf];omega
    ·rw [List.concat_eq_append] at hP;subst hP;obtain⟨g,cap,cur,rfl,-,-,-,hcap,-⟩:=hown.pos (by simp);have z0:=zid hown;simp only [List.length_append,List.length_cons,List.length_nil,Nat.zero_add] at hown hpl hcap ⊢;have HO:=zH hown;have HF:=zH hf;have k4:IntKind.i64.wrap ((P2.length:Int)+1 - 1)=P2.length:=(by rw [show (P2.length:Int)+1 - 1=P2.length by omega];simp [IntKind.wrap,IntKind.signed,IntKind.bits];omega);have k7:((P2.length:Int)+1 == 0)=false:=(by rw [beq_eq_false_iff_ne];omega);clear hown hf hx hla hlb
     by_cases hz:z=x
     ·rw [hz] at z0 HO HF;clear hz;have HF2:=zH (show (mrg qa []).foldl dd (P2++[x])=T by rw [<- HF.out,zm3,List.foldl_cons,zjf]);clear HF;go_wp2_with fail;go_quiet (fail);go_wp2_with fail;go_roundw
      case rel=>exact⟨pa++[x],qa,pb,[],P2++[x],by rw [HLA.out];simp,HLB.out,by simp,by rw [HBE.out],HF2.out,by have hq:=HBE.out;simp at hpl ⊢;omega,by simpa [strC] using HO.out.ext ((Ext.refl _).drewN _),HX.out.drewN _⟩
      case measure=>simp [intOf];omega
     ·have hzb:(z == x)=false:=(by simpa using hz);have hdd:=zic P2 z x hz;clear hz;have HF2:=zH (show (mrg qa []).foldl dd (P2++[z]++[x])=T by rw [<- HF.out,zm3,List.foldl_cons,hdd]);clear HF;go_wp2_with fail;go_quiet (fail)
      go_wp2_with (at_builtin;refine zab rfl (.tmp 65) (.tmp 67) 28 rfl w.heap.size 9 1 16 (St []) Tryz.underlying28 zcf rfl (by omega) _ (P2.length+1) ((P2++[z]).flatMap strC) rfl (HO.out.ext (((Ext.refl _).drewN _).alloc _)) _ 1 1 [St x] rfl (Src.new rfl (by intro u hu;simp at hu;rcases hu with rfl <;> rfl)) (by omega) (by omega) (by simp;omega) ?_;intro v3 w3 hown3 hgr3)
      go_roundw
      case rel=>exact⟨pa++[x],qa,pb,[],P2++[z]++[x],by rw [HLA.out];simp,HLB.out,by simp,by rw [HBE.out],HF2.out,by have hq:=HBE.out;simp at hpl ⊢;omega,by simpa [strC] using hown3,Ext.grewOwn ((HX.out.drewN _).alloc _) hgr3 (HO.out.ext (((Ext.refl _).drewN _).alloc _)) (Nat.le_refl _)⟩
      case measure=>simp [intOf];omega
   | cons y qb =>
    obtain⟨b2,o2,rfl,f0⟩:=HBT.out pb qb y wr hx hlb;have hltb:pb.length < b.length:=(by rw [hlb];simp);rcases zci x y with ⟨p1,p2,p3,p4,p5⟩ | p1 | ⟨p1,p2,p3,p4,p5⟩
    ·clear p3 p4 p5;rcases List.eq_nil_or_concat P with hP | ⟨P2,z,hP⟩
     ·subst hP;have HO:=zH hown;obtain⟨CO,nO,rfl,-,-⟩:=hown.form;have HF:=zH hf;clear hown hf hx hla hlb;have HF2:=zH (show (mrg qa (y :: qb)).foldl dd ([x])=T by rw [<- HF.out,zeg,if_neg (by rw [p2];simp),List.foldl_cons,zlb]);clear HF;go_wp2_with fail;go_quiet (fail)
      go_wp2_with (at_builtin;refine zab rfl (.tmp 65) (.tmp 67) 28 rfl w.heap.size 9 1 16 (St []) Tryz.underlying28 zcf rfl (by omega) _ (0) (([]).flatMap strC) rfl (HO.out.ext (((Ext.refl _).drewN _).alloc _)) _ 1 1 [St x] rfl (Src.new rfl (by intro u hu;simp at hu;rcases hu with rfl <;> rfl)) (by omega) (by omega) (by simp;omega) ?_;intro v3 w3 hown3 hgr3)
      go_roundw
      case rel=>exact⟨pa++[x],qa,pb,y :: qb,[x],by rw [HLA.out];simp,HLB.out,by simp,rfl,HF2.out,by simp at hpl ⊢;omega,by simpa [strC] using hown3,Ext.grewOwn ((HX.out.drewN _).alloc _) hgr3 (HO.out.ext (((Ext.refl _).drewN _).alloc _)) (Nat.le_refl _)⟩
      case measure=>simp [intOf];omega
     ·rw [List.concat_eq_append] at hP;subst hP;obtain⟨g,cap,cur,rfl,-,-,-,hcap,-⟩:=hown.pos (by simp);have z0:=zid hown;simp only [List.length_append,List.length_cons,List.length_nil,Nat.zero_add] at hown hpl hcap ⊢;have HO:=zH hown;have HF:=zH hf;have k4:IntKind.i64.wrap ((P2.length:Int)+1 - 1)=P2.length:=(by rw [show (P2.length:Int)+1 - 1=P2.length by omega];simp [IntKind.wrap,IntKind.signed,IntKind.bits];omega);have k7:((P2.length:Int)+1 == 0)=false:=(by rw [beq_eq_false_iff_ne];omega);clear hown hf hx hla hlb
      by_cases hz:z=x
      ·rw [hz] at z0 HO HF;clear hz;have HF2:=zH (show (mrg qa (y :: qb)).foldl dd (P2++[x])=T by rw [<- HF.out,zeg,if_neg (by rw [p2];simp),List.foldl_cons,zjf]);clear HF;go_wp2_with fail;go_quiet (fail);go_wp2_with fail;go_roundw
       case rel=>exact⟨pa++[x],qa,pb,y :: qb,P2++[x],by rw [HLA.out];simp,HLB.out,by simp,rfl,HF2.out,by simp at hpl ⊢;omega,by simpa [strC] using HO.out.ext ((Ext.refl _).drewN _),HX.out.drewN _⟩
       case measure=>simp [intOf];omega
      ·have hzb:(z == x)=false:=(by simpa using hz);have hdd:=zic P2 z x hz;clear hz;have HF2:=zH (show (mrg qa (y :: qb)).foldl dd (P2++[z]++[x])=T by rw [<- HF.out,zeg,if_neg (by rw [p2];simp),List.foldl_cons,hdd]);clear HF;go_wp2_with fail;go_quiet (fail)
       go_wp2_with (at_builtin;refine zab rfl (.tmp 65) (.tmp 67) 28 rfl w.heap.size 9 1 16 (St []) Tryz.underlying28 zcf rfl (by omega) _ (P2.length+1) ((P2++[z]).flatMap strC) rfl (HO.out.ext (((Ext.refl _).drewN _).alloc _)) _ 1 1 [St x] rfl (Src.new rfl (by intro u hu;simp at hu;rcases hu with rfl <;> rfl)) (by omega) (by omega) (by simp;omega) ?_;intro v3 w3 hown3 hgr3)
       go_roundw
       case rel=>exact⟨pa++[x],qa,pb,y :: qb,P2++[z]++[x],by rw [HLA.out];simp,HLB.out,by simp,rfl,HF2.out,by simp at hpl ⊢;omega,by simpa [strC] using hown3,Ext.grewOwn ((HX.out.drewN _).alloc _) hgr3 (HO.out.ext (((Ext.refl _).drewN _).alloc _)) (Nat.le_refl _)⟩
       case measure=>simp [intOf];omega
    ·subst p1;have p2:ltS x x=false:=zal x;rcases List.eq_nil_or_concat P with hP | ⟨P2,z,hP⟩
     ·subst hP;have HO:=zH hown;obtain⟨CO,nO,rfl,-,-⟩:=hown.form;have HF:=zH hf;clear hown hf hx hla hlb;have HF2:=zH (show (mrg qa (x :: qb)).foldl dd ([x])=T by rw [<- HF.out,zeg,if_neg (by rw [p2];simp),List.foldl_cons,zlb]);clear HF;go_wp2_with fail;go_quiet (fail)
      go_wp2_with (at_builtin;refine zab rfl (.tmp 65) (.tmp 67) 28 rfl w.heap.size 9 1 16 (St []) Tryz.underlying28 zcf rfl (by omega) _ (0) (([]).flatMap strC) rfl (HO.out.ext (((Ext.refl _).drewN _).alloc _)) _ 1 1 [St x] rfl (Src.new rfl (by intro u hu;simp at hu;rcases hu with rfl <;> rfl)) (by omega) (by omega) (by simp;omega) ?_;intro v3 w3 hown3 hgr3)
      go_roundw
      case rel=>exact⟨pa++[x],qa,pb,x :: qb,[x],by rw [HLA.out];simp,HLB.out,by simp,rfl,HF2.out,by simp at hpl ⊢;omega,by simpa [strC] using hown3,Ext.grewOwn ((HX.out.drewN _).alloc _) hgr3 (HO.out.ext (((Ext.refl _).drewN _).alloc _)) (Nat.le_refl _)⟩
      case measure=>simp [intOf];omega
     ·rw [List.concat_eq_append] at hP;subst hP;obtain⟨g,cap,cur,rfl,-,-,-,hcap,-⟩:=hown.pos (by simp);have z0:=zid hown;simp only [List.length_append,List.length_cons,List.length_nil,Nat.zero_add] at hown hpl hcap ⊢;have HO:=zH hown;have HF:=zH hf;have k4:IntKind.i64.wrap ((P2.length:Int)+1 - 1)=P2.length:=(by rw [show (P2.length:Int)+1 - 1=P2.length by omega];simp [IntKind.wrap,IntKind.signed,IntKind.bits];omega);have k7:((P2.length:Int)+1 == 0)=false:=(by rw [beq_eq_false_iff_ne];omega);clear hown hf hx hla hlb
      by_cases hz:z=x
      ·rw [hz] at z0 HO HF;clear hz;have HF2:=zH (show (mrg qa (x :: qb)).foldl dd (P2++[x])=T by rw [<- HF.out,zeg,if_neg (by rw [p2];simp),List.foldl_cons,zjf]);clear HF;go_wp2_with fail;go_quiet (fail);go_wp2_with fail;go_roundw
       case rel=>exact⟨pa++[x],qa,pb,x :: qb,P2++[x],by rw [HLA.out];simp,HLB.out,by simp,rfl,HF2.out,by simp at hpl ⊢;omega,by simpa [strC] using HO.out.ext ((Ext.refl _).drewN _),HX.out.drewN _⟩
       case measure=>simp [intOf];omega
      ·have hzb:(z == x)=false:=(by simpa using hz);have hdd:=zic P2 z x hz;clear hz;have HF2:=zH (show (mrg qa (x :: qb)).foldl dd (P2++[z]++[x])=T by rw [<- HF.out,zeg,if_neg (by rw [p2];simp),List.foldl_cons,hdd]);clear HF;go_wp2_with fail;go_quiet (fail)
       go_wp2_with (at_builtin;refine zab rfl (.tmp 65) (.tmp 67) 28 rfl w.heap.size 9 1 16 (St []) Tryz.underlying28 zcf rfl (by omega) _ (P2.length+1) ((P2++[z]).flatMap strC) rfl (HO.out.ext (((Ext.refl _).drewN _).alloc _)) _ 1 1 [St x] rfl (Src.new rfl (by intro u hu;simp at hu;rcases hu with rfl <;> rfl)) (by omega) (by omega) (by simp;omega) ?_;intro v3 w3 hown3 hgr3)
       go_roundw
       case rel=>exact⟨pa++[x],qa,pb,x :: qb,P2++[z]++[x],by rw [HLA.out];simp,HLB.out,by simp,rfl,HF2.out,by simp at hpl ⊢;omega,by simpa [strC] using hown3,Ext.grewOwn ((HX.out.drewN _).alloc _) hgr3 (HO.out.ext (((Ext.refl _).drewN _).alloc _)) (Nat.le_refl _)⟩
       case measure=>simp [intOf];omega
    ·clear p4 p5;rcases List.eq_nil_or_concat P with hP | ⟨P2,z,hP⟩
     ·subst hP;have HO:=zH hown;obtain⟨CO,nO,rfl,-,-⟩:=hown.form;have HF:=zH hf;clear hown hf hx hla hlb;have HF2:=zH (show (mrg (x :: qa) qb).foldl dd ([y])=T by rw [<- HF.out,zeg,if_pos p2,List.foldl_cons,zlb]);clear HF;go_wp2_with fail;go_quiet (fail)
      go_wp2_with (at_builtin;refine zab rfl (.tmp 65) (.tmp 67) 28 rfl w.heap.size 9 1 16 (St []) Tryz.underlying28 zcf rfl (by omega) _ (0) (([]).flatMap strC) rfl (HO.out.ext (((Ext.refl _).drewN _).alloc _)) _ 1 1 [St y] rfl (Src.new rfl (by intro u hu;simp at hu;rcases hu with rfl <;> rfl)) (by omega) (by omega) (by simp;omega) ?_;intro v3 w3 hown3 hgr3)
      go_roundw
      case rel=>exact⟨pa,x :: qa,pb++[y],qb,[y],HLA.out,by rw [HLB.out];simp,rfl,by simp,HF2.out,by simp at hpl ⊢;omega,by simpa [strC] using hown3,Ext.grewOwn ((HX.out.drewN _).alloc _) hgr3 (HO.out.ext (((Ext.refl _).drewN _).alloc _)) (Nat.le_refl _)⟩
      case measure=>simp [intOf];omega
     ·rw [List.concat_eq_append] at hP;subst hP;obtain⟨g,cap,cur,rfl,-,-,-,hcap,-⟩:=hown.pos (by simp);have z0:=zid hown;simp only [List.length_append,List.length_cons,List.length_nil,Nat.zero_add] at hown hpl hcap ⊢;have HO:=zH hown;have HF:=zH hf;have k4:IntKind.i64.wrap ((P2.length:Int)+1 - 1)=P2.length:=(by rw [show (P2.length:Int)+1 - 1=P2.length by omega];simp [IntKind.wrap,IntKind.signed,IntKind.bits];omega);have k7:((P2.length:Int)+1 == 0)=false:=(by rw [beq_eq_false_iff_ne];omega);clear hown hf hx hla hlb
      by_cases hz:z=y
      ·rw [hz] at z0 HO HF;clear hz;have HF2:=zH (show (mrg (x :: qa) qb).foldl dd (P2++[y])=T by rw [<- HF.out,zeg,if_pos p2,List.foldl_cons,zjf]);clear HF;go_wp2_with fail;go_quiet (fail);go_wp2_with fail;go_roundw
       case rel=>exact⟨pa,x :: qa,pb++[y],qb,P2++[y],HLA.out,by rw [HLB.out];simp,rfl,by simp,HF2.out,by simp at hpl ⊢;omega,by simpa [strC] using HO.out.ext ((Ext.refl _).drewN _),HX.out.drewN _⟩
       case measure=>simp [intOf];omega
      ·have hzb:(z == y)=false:=(by simpa using hz);have hdd:=zic P2 z y hz;clear hz;have HF2:=zH (show (mrg (x :: qa) qb).foldl dd (P2++[z]++[y])=T by rw [<- HF.out,zeg,if_pos p2,List.foldl_cons,hdd]);clear HF;go_wp2_with fail;go_quiet (fail)
       go_wp2_with (at_builtin;refine zab rfl (.tmp 65) (.tmp 67) 28 rfl w.heap.size 9 1 16 (St []) Tryz.underlying28 zcf rfl (by omega) _ (P2.length+1) ((P2++[z]).flatMap strC) rfl (HO.out.ext (((Ext.refl _).drewN _).alloc _)) _ 1 1 [St y] rfl (Src.new rfl (by intro u hu;simp at hu;rcases hu with rfl <;> rfl)) (by omega) (by omega) (by simp;omega) ?_;intro v3 w3 hown3 hgr3)
       go_roundw
       case rel=>exact⟨pa,x :: qa,pb++[y],qb,P2++[z]++[y],HLA.out,by rw [HLB.out];simp,rfl,by simp,HF2.out,by simp at hpl ⊢;omega,by simpa [strC] using hown3,Ext.grewOwn ((HX.out.drewN _).alloc _) hgr3 (HO.out.ext (((Ext.refl _).drewN _).alloc _)) (Nat.le_refl _)⟩
       case measure=>simp [intOf];omega
  | nil =>
   have hae:pa.length=a.length:=(by rw [hla];simp);have hn1:¬ pa.length < a.length:=(by omega);have HAE:=zH hae;clear hae
   cases qb with
   | cons y qb =>
    obtain⟨b2,o2,rfl,f0⟩:=HBT.out pb qb y wr hx hlb;have hltb:pb.length < b.length:=(by rw [hlb];simp);have hn2:¬ b.length<=pb.length:=(by omega);rcases List.eq_nil_or_concat P with hP | ⟨P2,z,hP⟩
    ·subst hP;have HO:=zH hown;obtain⟨CO,nO,rfl,-,-⟩:=hown.form;have HF:=zH hf;clear hown hf hx hla hlb;have HF2:=zH (show (mrg [] qb).foldl dd ([y])=T by rw [<- HF.out,zk9,List.foldl_cons,zlb]);clear HF;go_wp2_with fail;go_quiet (fail)
     go_wp2_with (at_builtin;refine zab rfl (.tmp 65) (.tmp 67) 28 rfl w.heap.size 9 1 16 (St []) Tryz.underlying28 zcf rfl (by omega) _ (0) (([]).flatMap strC) rfl (HO.out.ext (((Ext.refl _).drewN _).alloc _)) _ 1 1 [St y] rfl (Src.new rfl (by intro u hu;simp at hu;rcases hu with rfl <;> rfl)) (by omega) (by omega) (by simp;omega) ?_;intro v3 w3 hown3 hgr3)
     go_roundw
     case rel=>exact⟨pa,[],pb++[y],qb,[y],HLA.out,by rw [HLB.out];simp,rfl,by simp,HF2.out,by have hq:=HAE.out;simp at hpl ⊢;omega,by simpa [strC] using hown3,Ext.grewOwn ((HX.out.drewN _).alloc _) hgr3 (HO.out.ext (((Ext.refl _).drewN _).alloc _)) (Nat.le_refl _)⟩
     case measure=>simp [intOf];omega
    ·rw [List.concat_eq_append] at hP;subst hP;obtain⟨g,cap,cur,rfl,-,-,-,hcap,-⟩:=hown.pos (by simp);have z0:=zid hown;simp only [List.length_append,List.length_cons,List.length_nil,Nat.zero_add] at hown hpl hcap ⊢;have HO:=zH hown;have HF:=zH hf;have k4:IntKind.i64.wrap ((P2.length:Int)+1 - 1)=P2.length:=(by rw [show (P2.length:Int)+1 - 1=P2.length by omega];simp [IntKind.wrap,IntKind.signed,IntKind.bits];omega);have k7:((P2.length:Int)+1 == 0)=false:=(by rw [beq_eq_false_iff_ne];omega);clear hown hf hx hla hlb
     by_cases hz:z=y
     ·rw [hz] at z0 HO HF;clear hz;have HF2:=zH (show (mrg [] qb).foldl dd (P2++[y])=T by rw [<- HF.out,zk9,List.foldl_cons,zjf]);clear HF;go_wp2_with fail;go_quiet (fail);go_wp2_with fail;go_roundw
      case rel=>exact⟨pa,[],pb++[y],qb,P2++[y],HLA.out,by rw [HLB.out];simp,rfl,by simp,HF2.out,by have hq:=HAE.out;simp at hpl ⊢;omega,by simpa [strC] using HO.out.ext ((Ext.refl _).drewN _),HX.out.drewN _⟩
      case measure=>simp [intOf];omega
     ·have hzb:(z == y)=false:=(by simpa using hz);have hdd:=zic P2 z y hz;clear hz;have HF2:=zH (show (mrg [] qb).foldl dd (P2++[z]++[y])=T by rw [<- HF.out,zk9,List.foldl_cons,hdd]);clear HF;go_wp2_with fail;go_quiet (fail)
      go_wp2_with (at_builtin;refine zab rfl (.tmp 65) (.tmp 67) 28 rfl w.heap.size 9 1 16 (St []) Tryz.underlying28 zcf rfl (by omega) _ (P2.length+1) ((P2++[z]).flatMap strC) rfl (HO.out.ext (((Ext.refl _).drewN _).alloc _)) _ 1 1 [St y] rfl (Src.new rfl (by intro u hu;simp at hu;rcases hu with rfl <;> rfl)) (by omega) (by omega) (by simp;omega) ?_;intro v3 w3 hown3 hgr3)
      go_roundw
      case rel=>exact⟨pa,[],pb++[y],qb,P2++[z]++[y],HLA.out,by rw [HLB.out];simp,rfl,by simp,HF2.out,by have hq:=HAE.out;simp at hpl ⊢;omega,by simpa [strC] using hown3,Ext.grewOwn ((HX.out.drewN _).alloc _) hgr3 (HO.out.ext (((Ext.refl _).drewN _).alloc _)) (Nat.le_refl _)⟩
      case measure=>simp [intOf];omega
   | nil=>have hbe:pb.length=b.length:=(by rw [hlb];simp);have hn2:¬ pb.length < b.length:=(by omega);rw [zz3] at hf;have HF:=zH (show P=T from hf);have HO:=zH hown;obtain⟨CO,nO,rfl,-,-⟩:=hown.form;clear hown hf hx hla hlb hbe;go_wp2_with fail;go_ret;exact⟨_,rfl,by rw [HTT.out,<- HF.out];exact HO.out,HX.out⟩
end
section
open Go.RowKit Go.Shelf
structure SmR (s:State):Prop where
 all:s.all.length<=100000
 ents:s.entries.length<=100000
 pr:s.pruned.length<=100000
 each:∀ e ∈ s.entries,RefSm e/\GoodM e.seen
theorem OwnL.slB {α:Type} {T:Shape α} {tid:Nat} {w:World} {base:Nat} {S S':Nat->Prop} {v:Value} {l:List α} (h:OwnL T tid w base S v l) (hk:0 < T.k) (hs:∀ b,b < w.heap.size->S b->S' b) (ho:∀ b,b < w.heap.size->zae v b->S' b):Sl T w S' v l:=by
 obtain⟨vss,h1,h2,h3⟩:=h;obtain⟨A,c,rfl,hc1,hc2⟩:=h3.form;refine ⟨A,c,rfl,hc1,hc2,fun pre x post hl=>?_⟩;have hlen:pre.length < l.length:=by rw [hl];simp
 have hx:l[pre.length]? = some x:=by rw [hl];simp
 have hv:vss[pre.length]? = some (vss[pre.length]'(by omega)):=List.getElem?_eq_getElem (by omega);have hr:=h2 _ _ _ hx hv;obtain⟨g,cap,cur,hv',hb,hg,hr3⟩:=h3.pos (by omega);injection hv' with e1 e2 e3
 subst e1;refine ⟨g,0,_,rfl,ho g hg ⟨g,_,_,rfl,by omega,rfl⟩,T.mono hr hs,fun j u hj=>?_⟩;rw [Nat.zero_add];refine h3.cell (g:=g) (c:=c) rfl (zfx vss _ j _ u ?_ hv hj);intro y hy;obtain⟨i,hi⟩:=List.getElem?_of_mem hy;have hi':i < l.length:=by rw [<- h1];exact (List.getElem?_eq_some_iff.1 hi).1
 exact T.len (h2 i _ y (List.getElem?_eq_getElem hi') hi)
def CO (w:World) (R:Nat->Prop) (E:Entry) (xs:List Value) (_:Nat->Prop) (_:World):Prop:=∃ B1 m1 B2 m2 B3 m3,xs=entL E (.slice B1 E.seen.length m1) (.slice B2 E.counts.length m2) (.slice B3 E.items.length m3)/\EntAt w R E (.slice B1 E.seen.length m1) (.slice B2 E.counts.length m2) (.slice B3 E.items.length m3)
theorem CO.keep {v:World} {R:Nat->Prop} {E:Entry} (xs:List Value) (S:Nat->Prop) (w w':World) (h:CO v R E xs S w) (_:∀ b,S b->b < w.heap.size->w'.heap[b]? = w.heap[b]?):CO v R E xs S w':=h
abbrev tupJ (z:Bool) (xs:List Value):Value:=.tuple #[.agg xs.toArray,.bool z]
abbrev agJ (xs:List Value):Value:=.agg xs.toArray
abbrev yap:List Value:=[St [],.slice none 0 0,.slice none 0 0,.slice none 0 0,U 0,St [],.bool false]
theorem zuy:RefSm zai:=⟨by decide,by decide,by decide,by decide⟩
def InvJ (N g:Nat) (S1 S2:Nat->Prop) (M:List Mark) (T:List Str) (sa sb:List Value) (a c v:Value) (l:List Entry) (W:World):Prop :=
 RowIs W g 30 [a,v,c] []/\Own W (N+3) 25 2 a M.length (M.flatMap zag)/\Sl entryT W (fun b=>(S1 b ∨ S2 b ∨ N<=b)/\b ≠ g/\b ≠ N+2) v l/\Own W (N+3) 9 1 c T.length (T.flatMap strC)/\RowIs W (N+2) 30 [.slice none 0 0,.slice none 0 0,.slice none 0 0] []/\RowIs W N 30 sa []/\RowIs W (N+1) 30 sb []
theorem zkd {S1 S2:Nat->Prop} {s t:State} {a1 a2 a3 b1 b2 b3:Value} {w:World} (hs:StAt w S1 s a1 a2 a3) (ht:StAt w S2 t b1 b2 b3) (bs:SmR s) (bt:SmR t) :
  Calls Tryz.prog 31 #[stV a1 a2 a3,stV b1 b2 b3] w fun r w'=>∃ u1 u2 u3,r=.returned (stV u1 u2 u3)/\StAt w' (fun b=>S1 b ∨ S2 b ∨ w.heap.size<=b) (zg7 s t) u1 u2 u3/\Ext w w':=by
 obtain⟨sa,se,sp⟩:=s;obtain⟨ta,te,tp⟩:=t;obtain⟨bs1,bs2,bs3,bs4⟩:=bs;obtain⟨bt1,bt2,bt3,bt4⟩:=bt;simp only at bs1 bs2 bs3 bs4 bt1 bt2 bt3 bt4;obtain⟨A1,n1,rfl,-,-⟩:=hs.all.form;obtain⟨A2,n2,rfl,-,-⟩:=hs.entries.form;obtain⟨A3,n3,rfl,-,-⟩:=hs.pruned.form;obtain⟨B1,m1,rfl,-,-⟩:=ht.all.form;obtain⟨B2,m2,rfl,-,-⟩:=ht.entries.form;obtain⟨B3,m3,rfl,-,-⟩:=ht.pruned.form;have HS:=zH (hs.mono (S':=fun b=>(S1 b ∨ S2 b)/\b < w.heap.size) (fun b hb h=>⟨.inl h,hb⟩));have HT:=zH (ht.mono (S':=fun b=>(S1 b ∨ S2 b)/\b < w.heap.size) (fun b hb h=>⟨.inr h,hb⟩));have HJ:=zH (show zg7 ⟨sa,se,sp⟩ ⟨ta,te,tp⟩=⟨za0 (sa++ta),zdc se te,zfe sp tp⟩ from rfl);have BS:=zH bs4;have BT:=zH bt4;clear hs ht bs4 bt4;obtain⟨W0,hW0⟩:∃ W0,((w.alloc (.cells #[.slice A1 sa.length n1,.slice A2 se.length n2,.slice A3 sp.length n3] 30)).alloc (.cells #[.slice B1 ta.length m1,.slice B2 te.length m2,.slice B3 tp.length m3] 30)).alloc (.cells #[.slice none 0 0,.slice none 0 0,.slice none 0 0] 30)=W0:=⟨_,rfl⟩
 have hx0:Ext w W0:=by rw [<- hW0];exact (((Ext.refl w).alloc _).alloc _).alloc _
 have rA:RowIs W0 w.heap.size 30 [.slice A1 sa.length n1,.slice A2 se.length n2,.slice A3 sp.length n3] []:=by rw [<- hW0];exact ((zah w 30 [.slice A1 sa.length n1,.slice A2 se.length n2,.slice A3 sp.length n3]).alloc _).alloc _
 have rB:RowIs W0 (w.heap.size+1) 30 [.slice B1 ta.length m1,.slice B2 te.length m2,.slice B3 tp.length m3] []:=by rw [<- hW0];have h:=zah (w.alloc (.cells #[.slice A1 sa.length n1,.slice A2 se.length n2,.slice A3 sp.length n3] 30)) 30 [.slice B1 ta.length m1,.slice B2 te.length m2,.slice B3 tp.length m3];simp only [World.size_alloc] at h;exact h.alloc _
 have rR:RowIs W0 (w.heap.size+2) 30 [.slice none 0 0,.slice none 0 0,.slice none 0 0] []:=by rw [<- hW0];have h:=zah ((w.alloc (.cells #[.slice A1 sa.length n1,.slice A2 se.length n2,.slice A3 sp.length n3] 30)).alloc (.cells #[.slice B1 ta.length m1,.slice B2 te.length m2,.slice B3 tp.length m3] 30)) 30 [.slice none 0 0,.slice none 0 0,.slice none 0 0];simp only [World.size_alloc] at h;exact h
 have hz0:W0.heap.size=w.heap.size+3:=by rw [<- hW0];simp
 go_enter Tryz.func31,Tryz.ntmps31;go_wp2_with fail
 (try rw [hW0])
 clear hW0;have HJM:=zH (fun (W:World) (he:Ext W0 W)=>zk1 (HS.out.all.ext (by decide) (hx0.trans he)) (HT.out.all.ext (by decide) (hx0.trans he)) (Nat.le_trans bs1 (by decide)) (Nat.le_trans bt1 (by decide)));have HTX:=zH (fun (W:World) (he:Ext W0 W)=>zrl (HS.out.pruned.ext (by decide) (hx0.trans he)) (HT.out.pruned.ext (by decide) (hx0.trans he)) bs3 bt3);generalize za0 (sa++ta)=JM at *;generalize zfe sp tp=TX at *
 refine zaq [fun v _=>v=.pointer (some ⟨w.heap.size,0,none⟩),
  fun v _=>v=.slice A1 sa.length n1,
  fun v _=>v=.pointer (some ⟨w.heap.size+1,0,none⟩),
  fun v _=>v=.slice B1 ta.length m1,
  fun v W=>Own W (w.heap.size+3) 25 2 v JM.length (JM.flatMap zag),
  fun v _=>∃ A,v=.slice A 0 0,
  fun v _=>v=.pointer (some ⟨w.heap.size,1,none⟩),
  fun v _=>v=.slice A2 se.length n2,
  fun v W=>OwnL entryT 37 W (w.heap.size+3) (fun b=>(S1 b ∨ S2 b)/\b < w.heap.size) v se,
  fun v _=>v=.pointer (some ⟨w.heap.size,2,none⟩),
  fun v _=>v=.slice A3 sp.length n3,
  fun v _=>v=.pointer (some ⟨w.heap.size+1,2,none⟩),
  fun v _=>v=.slice B3 tp.length m3,
  fun v W=>Own W (w.heap.size+3) 9 1 v TX.length (TX.flatMap strC),
  fun v W=>∃ J1 j1 J2 j2 J3 j3,v=stV (.slice J1 JM.length j1) (.slice J2 se.length j2) (.slice J3 TX.length j3)/\Own W (w.heap.size+3) 25 2 (.slice J1 JM.length j1) JM.length (JM.flatMap zag)/\OwnL entryT 37 W (w.heap.size+3) (fun b=>(S1 b ∨ S2 b)/\b < w.heap.size) (.slice J2 se.length j2) se/\Own W (w.heap.size+3) 9 1 (.slice J3 TX.length j3) TX.length (TX.flatMap strC),
  fun v W=>∃ g,v=.pointer (some ⟨g,0,none⟩)/\w.heap.size+3<=g/\RowIs W g 30 [.slice none 0 0,.slice none 0 0,.slice none 0 0] []] rfl (by kernel_rfl) ?hR ?hstep ?hend
 case hR=>simp only [List.mem_cons,List.not_mem_nil,or_false,forall_eq_or_imp,forall_eq];exact⟨kP,kP,kP,kP,fun v _ _ h he=>h.ext he,kP,kP,kP,fun v _ _ h he=>h.ext he,kP,kP,kP,kP,fun v _ _ h he=>h.ext he,fun v _ _ h he=>by obtain⟨J1,j1,J2,j2,J3,j3,e,a,b,c⟩:=h;exact⟨J1,j1,J2,j2,J3,j3,e,a.ext he,b.ext he,c.ext he⟩,fun v _ _ h he=>by obtain⟨g,e,a,b⟩:=h;exact⟨g,e,a,b.ext he⟩⟩
 case hstep =>
  simp only [List.length_cons,List.length_nil,Nat.reduceAdd,List.take_succ_cons,List.take_zero,zbf,and_true];refine ⟨?_,?_,?_,?_,?_,?_,?_,?_,?_,?_,?_,?_,?_,?_,?_,?_⟩
  ·intro x W he f;have h:x 2=.pointer (some ⟨w.heap.size,0,none⟩):=f.1;have rAq0:=(rA.ext he).cell (j:=0) rfl;have rAq1:=(rA.ext he).cell (j:=1) rfl;have rAq2:=(rA.ext he).cell (j:=2) rfl;go_wp;exact sQ
  ·intro x W he f;have h:x 9=.pointer (some ⟨w.heap.size,0,none⟩):=f.1;have rAq0:=(rA.ext he).cell (j:=0) rfl;go_wp;exact sQ
  ·intro x W he f;have h:x 3=.pointer (some ⟨w.heap.size+1,0,none⟩):=f.1;have rBq0:=(rB.ext he).cell (j:=0) rfl;have rBq1:=(rB.ext he).cell (j:=1) rfl;have rBq2:=(rB.ext he).cell (j:=2) rfl;go_wp;exact sQ
  ·intro x W he f;have h:x 11=.pointer (some ⟨w.heap.size+1,0,none⟩):=f.1;have rBq0:=(rB.ext he).cell (j:=0) rfl;go_wp;exact sQ
  ·intro x W he f;have h:x 10=.slice A1 sa.length n1:=f.1;have h2:x 12=.slice B1 ta.length m1:=f.2.1;have hs:=he.size;have HC:=zH (HJM.out W he);go_wp;refine HC.out.mono ?_;rintro r W2 ⟨v',rfl,hown,hx2⟩;dsimp only;go_wp;exact zaa (v:=v') (hown.lower (by omega)) hx2
  ·intro x W he f;have hxa:=(Ext.refl W).alloc (.cells #[] 37);go_wp;exact zaa ⟨_,rfl⟩ hxa
  ·intro x W he f;have h:x 2=.pointer (some ⟨w.heap.size,0,none⟩):=f.1;have rAq0:=(rA.ext he).cell (j:=0) rfl;have rAq1:=(rA.ext he).cell (j:=1) rfl;have rAq2:=(rA.ext he).cell (j:=2) rfl;go_wp;exact sQ
  ·intro x W he f;have h:x 15=.pointer (some ⟨w.heap.size,1,none⟩):=f.1;have rAq1:=(rA.ext he).cell (j:=1) rfl;go_wp;exact sQ
  ·intro x W he f;obtain⟨A,h⟩:∃ A,x 14=.slice A 0 0:=f.1;have h2:x 16=.slice A2 se.length n2:=f.2.1;have hs:=he.size;obtain⟨vss,g1,g2,g3⟩:=(HS.out.entries.ext (by decide) (hx0.trans he)).src;refine zab rfl (.tmp 14) (.tmp 16) 27 rfl W.heap.size 37 7 120 (.agg #[St [],.slice none 0 0,.slice none 0 0,.slice none 0 0,U 0,St [],.bool false]) Tryz.underlying27 zbj rfl (by omega) (.slice A 0 0) 0 [] (by simp [go_sem,h]) (Own.nil _ _ _ _ _) A2 se.length n2 vss.flatten (by simp [go_sem,h2]) g3 (by omega) (by omega) (Nat.le_refl _) ?_;intro v' w' hown hgr;have hxw:=Ext.grewOwn (Ext.refl W) hgr (Own.nil W W.heap.size 37 7 A) (Nat.le_refl _);rw [Nat.zero_add,List.nil_append] at hown;exact zaa (v:=v') ⟨vss,g1,fun i x vs hi hv=>entryT.keep (g2 i x vs hi hv) (fun b _ hb=>hxw.block b hb),hown.lower (by omega)⟩ hxw
  ·intro x W he f;have h:x 2=.pointer (some ⟨w.heap.size,0,none⟩):=f.1;have rAq0:=(rA.ext he).cell (j:=0) rfl;have rAq1:=(rA.ext he).cell (j:=1) rfl;have rAq2:=(rA.ext he).cell (j:=2) rfl;go_wp;exact sQ
  ·intro x W he f;have h:x 18=.pointer (some ⟨w.heap.size,2,none⟩):=f.1;have rAq2:=(rA.ext he).cell (j:=2) rfl;go_wp;exact sQ
  ·intro x W he f;have h:x 3=.pointer (some ⟨w.heap.size+1,0,none⟩):=f.1;have rBq0:=(rB.ext he).cell (j:=0) rfl;have rBq1:=(rB.ext he).cell (j:=1) rfl;have rBq2:=(rB.ext he).cell (j:=2) rfl;go_wp;exact sQ
  ·intro x W he f;have h:x 20=.pointer (some ⟨w.heap.size+1,2,none⟩):=f.1;have rBq2:=(rB.ext he).cell (j:=2) rfl;go_wp;exact sQ
  ·intro x W he f;have h:x 19=.slice A3 sp.length n3:=f.1;have h2:x 21=.slice B3 tp.length m3:=f.2.1;have hs:=he.size;have HC:=zH (HTX.out W he);go_wp;refine HC.out.mono ?_;rintro r W2 ⟨v',rfl,hown,hx2⟩;dsimp only;go_wp;exact zaa (v:=v') (hown.lower (by omega)) hx2
  ·intro x W he f;have h1:Own W (w.heap.size+3) 25 2 (x 13) JM.length (JM.flatMap zag):=f.1;have h2:OwnL entryT 37 W (w.heap.size+3) (fun b=>(S1 b ∨ S2 b)/\b < w.heap.size) (x 17) se:=f.2.1;have h3:Own W (w.heap.size+3) 9 1 (x 22) TX.length (TX.flatMap strC):=f.2.2.1;obtain⟨J1,j1,e1,-,-⟩:=h1.form;obtain⟨J2,j2,e2,-,-⟩:=h2.form;obtain⟨J3,j3,e3,-,-⟩:=h3.form;rw [e1] at h1;rw [e2] at h2;rw [e3] at h3;go_wp;exact zaa (v:=stV (.slice J1 JM.length j1) (.slice J2 se.length j2) (.slice J3 TX.length j3)) ⟨J1,j1,J2,j2,J3,j3,rfl,h1,h2,h3⟩ (Ext.refl _)
  ·intro x W he f;have hs:=he.size;have hrow:=zah W 30 [.slice none 0 0,.slice none 0 0,.slice none 0 0];have hxa:=(Ext.refl W).alloc (.cells #[.slice none 0 0,.slice none 0 0,.slice none 0 0] 30);go_wp;exact zaa (v:=.pointer (some ⟨W.heap.size,0,none⟩)) ⟨W.heap.size,rfl,by omega,hrow⟩ hxa
 case hend =>
  intro x W he f;obtain⟨J1,j1,J2,j2,J3,j3,h23,ho1,ho2,ho3⟩:∃ J1 j1 J2 j2 J3 j3,x 23=stV (.slice J1 JM.length j1) (.slice J2 se.length j2) (.slice J3 TX.length j3)/\Own W (w.heap.size+3) 25 2 (.slice J1 JM.length j1) JM.length (JM.flatMap zag)/\OwnL entryT 37 W (w.heap.size+3) (fun b=>(S1 b ∨ S2 b)/\b < w.heap.size) (.slice J2 se.length j2) se/\Own W (w.heap.size+3) 9 1 (.slice J3 TX.length j3) TX.length (TX.flatMap strC):=f.2.2.2.2.2.2.2.2.2.2.2.2.2.2.1;obtain⟨g,h5,hg3,hrow⟩:∃ g,x 5=.pointer (some ⟨g,0,none⟩)/\w.heap.size+3<=g/\RowIs W g 30 [.slice none 0 0,.slice none 0 0,.slice none 0 0] []:=f.2.2.2.2.2.2.2.2.2.2.2.2.2.2.2.1;clear f;simp only [List.length_cons,List.length_nil,Nat.reduceAdd,List.take_succ_cons,List.take_zero,List.filterMap_cons,List.filterMap_nil,List.drop_succ_cons,List.drop_zero,zaw,Act.put,List.setIfInBounds_toArray,List.set_cons_succ,List.set_cons_zero,h23,h5];have hk:∀ b,b ≠ g->(((W.setCell ⟨g,0,none⟩ (.slice J1 JM.length j1)).setCell ⟨g,1,none⟩ (.slice J2 se.length j2)).setCell ⟨g,2,none⟩ (.slice J3 TX.length j3)).heap[b]? = W.heap[b]?:=fun b hb=>((Below.heap_setCell _ _ _ b hb).trans (Below.heap_setCell _ _ _ b hb)).trans (Below.heap_setCell _ _ _ b hb)
  obtain⟨c0,c1,c2⟩:=hrow.p3;obtain⟨f0,f1,f2⟩:=hrow.q3;have r4:=((hrow.set (j:=0) (by simp) (.slice J1 JM.length j1)).set (j:=1) (by simp) (.slice J2 se.length j2)).set (j:=2) (by simp) (.slice J3 TX.length j3);simp only [List.set_cons_succ,List.set_cons_zero] at r4;obtain⟨x2,ho2'⟩:=ho2.own;have hsl:Sl entryT W (fun b=>(S1 b ∨ S2 b ∨ w.heap.size<=b)/\b ≠ g/\b ≠ w.heap.size+2) (.slice J2 se.length j2) se:=ho2.slB (by decide) (fun b _ h=>⟨h.1.elim .inl (fun k=>.inr (.inl k)),by have:=h.2;omega,by have:=h.2;omega⟩) (fun b _ h=>⟨.inr (.inr (by have:=(ho2'.base_le h).1;omega)),fun e=>by subst e;exact ho2'.apart hrow (by decide) h,by have:=(ho2'.base_le h).1;omega⟩)
  have HI6:=zH (show InvJ w.heap.size g S1 S2 JM TX [.slice A1 sa.length n1,.slice A2 se.length n2,.slice A3 sp.length n3] [.slice B1 ta.length m1,.slice B2 te.length m2,.slice B3 tp.length m3] (.slice J1 JM.length j1) (.slice J3 TX.length j3) (.slice J2 se.length j2) se (((W.setCell ⟨g,0,none⟩ (.slice J1 JM.length j1)).setCell ⟨g,1,none⟩ (.slice J2 se.length j2)).setCell ⟨g,2,none⟩ (.slice J3 TX.length j3)) from
   ⟨r4,ho1.keep (fun b hb _=>hk b (fun e=>by subst e;exact ho1.apart hrow (by decide) hb)),hsl.keep (by decide) (fun b hb _=>hk b hb.2.1),ho3.keep (fun b hb _=>hk b (fun e=>by subst e;exact ho3.apart hrow (by decide) hb)),(rR.ext he).keep (hk _ (by omega)),(rA.ext he).keep (hk _ (by omega)),(rB.ext he).keep (hk _ (by omega))⟩)
  have HX6:=zH (show Ext w (((W.setCell ⟨g,0,none⟩ (.slice J1 JM.length j1)).setCell ⟨g,1,none⟩ (.slice J2 se.length j2)).setCell ⟨g,2,none⟩ (.slice J3 TX.length j3)) from ((((hx0.trans he).set (p:=⟨g,0,none⟩) (by simp;omega) _).set (p:=⟨g,1,none⟩) (by simp;omega) _).set (p:=⟨g,2,none⟩) (by simp;omega) _));clear r4 hk ho1 ho2 ho2' ho3 hrow he hx0 rA rB rR hz0 HJM HTX h23 h5 hsl;go_wp2_with fail;generalize (((W.setCell ⟨g,0,none⟩ (.slice J1 JM.length j1)).setCell ⟨g,1,none⟩ (.slice J2 se.length j2)).setCell ⟨g,2,none⟩ (.slice J3 TX.length j3))=W6 at *;clear c0 c1 c2 f0 f1 f2
  go_loopw [6] (fun i wr=>∃ pre post vE,te=pre++post/\i=I pre.length/\Hid (InvJ w.heap.size g S1 S2 JM TX [.slice A1 sa.length n1,.slice A2 se.length n2,.slice A3 sp.length n3] [.slice B1 ta.length m1,.slice B2 te.length m2,.slice B3 tp.length m3] (.slice J1 JM.length j1) (.slice J3 TX.length j3) vE (zdc se pre) wr)/\Ext w wr) (fun i _=>te.length - (intOf i).toNat)
  case atStart=>exact⟨[],te,_,rfl,rfl,HI6,HX6.out⟩
  case round =>
   obtain⟨pre,post,vE,hl,rfl,hI,hx⟩:=hrel;have HX:=zH hx
   cases post with
   | cons m post =>
    obtain⟨b,o,a1,a2,a3,rfl,e0,e1,e2,e3,e4,e5,e6,hEA⟩:=zbq HT.out.entries hx hl;obtain⟨C1,c1,rfl,-,-⟩:=hEA.seen.form;obtain⟨C2,c2,rfl,-,-⟩:=hEA.counts.form;obtain⟨C3,c3,rfl,-,-⟩:=hEA.items.form;have hlt:pre.length < te.length:=(by rw [hl];simp);have hbm:=BT.out m (by rw [hl];simp);have HL:=zH hl;have HEA:=zH hEA;have hen:=zuq se pre;have HSN:=zH (zgz se pre m);generalize zdc se pre=PL at *;obtain⟨hg,hoJ,hE,hoT,hR,hA,hB⟩:=hI.out;obtain⟨AE,cE,rfl,-,-⟩:=hE.form;obtain⟨b0,b1,b2⟩:=hB.p3;have HIN:=zH (show InvJ w.heap.size g S1 S2 JM TX [.slice A1 sa.length n1,.slice A2 se.length n2,.slice A3 sp.length n3] [.slice B1 ta.length m1,.slice (some ⟨b,o,none⟩) te.length m2,.slice B3 tp.length m3] (.slice J1 JM.length j1) (.slice J3 TX.length j3) (.slice AE PL.length cE) PL wr from ⟨hg,hoJ,hE,hoT,hR,hA,hB⟩)
    have hgE:RefSm (getE se m.key)/\GoodM (getE se m.key).seen:=by
     rcases zoi se m.key with h | ⟨h,-⟩
     ·rw [h];exact⟨zuy,zkj⟩
     ·exact BS.out _ h
    obtain⟨z,hz⟩:∃ z,(zau se m.key).isSome=z:=⟨_,rfl⟩
    obtain⟨E,hE_⟩:∃ E,getE se m.key=E:=⟨_,rfl⟩
    have HOF:=zH (fun (W:World) (he:Ext w W)=>zsx m.key he HS.out);simp only [hz,hE_] at HOF hgE HSN;clear hl hEA hI hx hg hoJ hE hoT hR hA hB hz hE_;go_wp2_with fail;clear b0 b1 b2;refine zls [some fun v=>v=stV (.slice A1 sa.length n1) (.slice A2 se.length n2) (.slice A3 sp.length n3),some fun v=>v=.pointer (some ⟨w.heap.size+1,1,none⟩),some fun v=>v=.slice (some ⟨b,o,none⟩) te.length m2,some fun v=>v=I pre.length,some fun v=>v=.pointer (some ⟨b,o+pre.length * 7,none⟩),some fun v=>v=.pointer (some ⟨b,o+pre.length * 7,none⟩),some fun v=>v=St m.key,none,none,none,some fun v=>v=.bool z,none,none] (BoxK wr.heap.size 37 yap (CO w (fun b=>(S1 b ∨ S2 b)/\b < w.heap.size) E) (tupJ z) agJ 7 8 9 11 12) rfl (by kernel_rfl) ?hK ?h0 ?hstep5 ?hend5
    case hK=>exact fun st w w' h he=>h.ext CO.keep he
    case h0=>exact BoxK.start _
    case hstep5 =>
     simp only [List.length_cons,List.length_nil,Nat.reduceAdd,List.take_succ_cons,List.take_zero,ziz,zlq,and_true];refine ⟨?_,?_,?_,?_,?_,?_,?_,?_,?_,?_,?_,?_,?_⟩
     ·intro x W st he hK f;have h0:x 2=.pointer (some ⟨w.heap.size,0,none⟩):=f.1;clear hK;have hA:=HIN.out.2.2.2.2.2.1.ext he;obtain⟨k0,k1,k2⟩:=hA.p3;go_wp;exact sQ
     ·intro x W st he hK f;have h0:x 3=.pointer (some ⟨w.heap.size+1,0,none⟩):=f.1;clear hK;go_wp;exact sQ
     ·intro x W st he hK f;have h0:x 33=.pointer (some ⟨w.heap.size+1,1,none⟩):=f.1;clear hK;have c1:=(HIN.out.2.2.2.2.2.2.ext he).cell (j:=1) rfl;go_wp;exact sQ
     ·intro x W st he hK f;have h0:x 6=I pre.length:=f.1;clear hK;go_wp;exact sQ
     ·intro x W st he hK f;have h0:x 34=.slice (some ⟨b,o,none⟩) te.length m2:=f.1;have h1:x 35=I pre.length:=f.2.1;clear hK;go_wp;exact sQ
     ·intro x W st he hK f;have h0:x 36=.pointer (some ⟨b,o+pre.length * 7,none⟩):=f.1;clear hK;go_wp;exact sQ
     ·intro x W st he hK f;have h0:x 37=.pointer (some ⟨b,o+pre.length * 7,none⟩):=f.1;clear hK;have d0:=he.cell e0;go_wp;exact sQ
     ·intro x W st he hK hn f;have h0:x 32=stV (.slice A1 sa.length n1) (.slice A2 se.length n2) (.slice A3 sp.length n3):=f.1;have h1:x 38=St m.key:=f.2.1;have HC:=zH (HOF.out W (HX.out.trans he));have HK:=zH hK;clear hK;go_wp;refine HC.out.mono ?_;rintro r W2 ⟨u1,u2,u3,rfl,hn2⟩;have hn3:=hn2.1;have hx2:=hn2.2;obtain⟨F1,f1_,rfl,-,-⟩:=hn3.seen.form;obtain⟨F2,f2_,rfl,-,-⟩:=hn3.counts.form;obtain⟨F3,f3_,rfl,-,-⟩:=hn3.items.form;have HN:=zH hn3;clear hn2 hn3;dsimp only;go_wp;exact zie ⟨HK.out.call (xs:=entL E (.slice F1 E.seen.length f1_) (.slice F2 E.counts.length f2_) (.slice F3 E.items.length f3_)) (by decide) hn hx2 he.size ⟨F1,f1_,F2,f2_,F3,f3_,rfl,HN.out⟩,he.trans hx2⟩
     ·intro x W st he hK hn f;have h0:st 7=some (x 39):=f.1;have HK:=zH hK;clear hK;go_wp;exact zie ⟨HK.out.move (by decide) h0,he⟩
     ·intro x W st he hK hn f;have h0:st 8=some (x 31):=f.1;obtain⟨xs,S,hv,⟨F1,f1_,F2,f2_,F3,f3_,rfl,-⟩,hK2⟩:=hK.part (by decide) h0;have HK:=zH hK2;clear hK hK2;go_wp;exact zie ⟨HK.out,he⟩
     ·intro x W st he hK f;have h0:st 8=some (x 31):=f.1;obtain⟨xs,S,hv,⟨F1,f1_,F2,f2_,F3,f3_,rfl,-⟩,hK2⟩:=hK.part (by decide) h0;have HK:=zH hK2;clear hK hK2;go_wp;exact sQ
     ·intro x W st he hK hn f;have HK:=zH hK;clear hK;go_wp;exact zie ⟨HK.out.alloc CO.keep (by decide) hn he.size,he.alloc _⟩
     ·intro x W st he hK hn f;have h0:st 11=some (x 7):=f.1;have h1:st 9=some (x 40):=f.2.1;obtain⟨xs,S,g2,hv,hp,hg2,hr,⟨F1,f1_,F2,f2_,F3,f3_,rfl,-⟩,hfin⟩:=hK.store CO.keep (by decide) h1 h0 hn;obtain⟨r0,r1,r2,r3,r4,r5,r6⟩:=hr.p7;obtain⟨y0,y1,y2,y3,y4,y5,y6⟩:=hr.q7;have hfi:=hfin (put7 W g2 E (.slice F1 E.seen.length f1_) (.slice F2 E.counts.length f2_) (.slice F3 E.items.length f3_)) (.bool true) (zir (e0:=zai) hr) (Nat.le_of_eq (zt8 _ _ _ _ _ _).symm) (fun y hy=>ze0 _ _ _ _ _ _ y hy);have hxe:=zb4 he hg2 E (.slice F1 E.seen.length f1_) (.slice F2 E.counts.length f2_) (.slice F3 E.items.length f3_);have HK:=zH hfi;have HXE:=zH hxe;clear hK hfin hfi hxe hr h0 h1;go_wp;exact zie (v:=.bool true) ⟨HK.out,HXE.out⟩
    case hend5 =>
     intro x W8 st hx1 hK hn f;have h7:st 11=some (x 7):=f.2.2.2.2.2.2.2.2.2.2.2.1;have h41:x 41=.bool z:=f.2.2.2.2.2.2.2.2.2.2.1;obtain⟨xs,S,g2,hp,hg2,hrow,⟨F1,f1_,F2,f2_,F3,f3_,rfl,hEat⟩,-⟩:=hK.done h7 (hn 12 (show 12 < 13 by decide) rfl);have HEF:=zH hEat;have HX8:=zH (HX.out.trans hx1);obtain⟨hg,hoJ,hE,hoT,hR,hA,hB⟩:=HIN.out;have HI8:=zH (show InvJ w.heap.size g S1 S2 JM TX [.slice A1 sa.length n1,.slice A2 se.length n2,.slice A3 sp.length n3] [.slice B1 ta.length m1,.slice (some ⟨b,o,none⟩) te.length m2,.slice B3 tp.length m3] (.slice J1 JM.length j1) (.slice J3 TX.length j3) (.slice AE PL.length cE) PL W8 from ⟨hg.ext hx1,hoJ.ext hx1,hE.ext (by decide) hx1,hoT.ext hx1,hR.ext hx1,hA.ext hx1,hB.ext hx1⟩);have HRW:=zH hrow;have HM:=zH (And.intro (hx1.cell e0) (And.intro (hx1.cell e1) (And.intro (hx1.cell e2) (And.intro (hx1.cell e3) (And.intro (hx1.cell e4) (And.intro (hx1.cell e5) (hx1.cell e6)))))));clear hK hn f hrow hEat h7 hg hoJ hE hoT hR hA hB hx1 e0 e1 e2 e3 e4 e5 e6;simp only [List.length_cons,List.length_nil,Nat.reduceAdd,List.take_succ_cons,List.take_zero,List.filterMap_cons,List.filterMap_nil,List.drop_succ_cons,List.drop_zero,zaw,Act.put,List.setIfInBounds_toArray,List.set_cons_succ,List.set_cons_zero,h41,hp];clear h41 hp;go_wp;go_wp2_with fail;obtain⟨e0,e1,e2,e3,e4,e5,e6⟩:=HM.out;obtain⟨hg,hoJ,hE,hoT,hR,hA,hB⟩:=HI8.out;have hgl:=hg.lt
     refine zaq [fun v _=>v=.pointer (some ⟨g,1,none⟩),fun v _=>v=.slice AE PL.length cE,fun v _=>v=entV E (.slice F1 E.seen.length f1_) (.slice F2 E.counts.length f2_) (.slice F3 E.items.length f3_),fun v _=>v=.pointer (some ⟨w.heap.size+1,1,none⟩),fun v _=>v=.slice (some ⟨b,o,none⟩) te.length m2,fun v _=>v=I pre.length,
      fun v _=>v=.pointer (some ⟨b,o+pre.length * 7,none⟩),fun v _=>v=entV m (.slice C1 m.seen.length c1) (.slice C2 m.counts.length c2) (.slice C3 m.items.length c3),fun v W=>∃ u1 u2 u3,v=entV (zav E m) u1 u2 u3/\EntAt W (fun b=>(S1 b ∨ S2 b ∨ w.heap.size<=b)/\b ≠ g/\b ≠ w.heap.size+2) (zav E m) u1 u2 u3] rfl (by kernel_rfl) ?hR6 ?hstep6 ?hend6
     case hR6=>simp only [List.mem_cons,List.not_mem_nil,or_false,forall_eq_or_imp,forall_eq];exact⟨kP,kP,kP,kP,kP,kP,kP,kP,fun v _ _ h he=>by obtain⟨u1,u2,u3,e,a⟩:=h;exact⟨u1,u2,u3,e,a.ext he⟩⟩
     case hstep6 =>
      simp only [List.length_cons,List.length_nil,Nat.reduceAdd,List.take_succ_cons,List.take_zero,zbf,and_true];refine ⟨?_,?_,?_,?_,?_,?_,?_,?_,?_⟩
      ·intro x W he f;have h:x 5=.pointer (some ⟨g,0,none⟩):=f.1;go_wp;exact sQ
      ·intro x W he f;have h:x 42=.pointer (some ⟨g,1,none⟩):=f.1;have hc:=(hg.ext he).cell (j:=1) rfl;go_wp;exact sQ
      ·intro x W he f;have h:x 7=.pointer (some ⟨g2,0,none⟩):=f.1;have hrw:=HRW.out.ext he;obtain⟨r0,r1,r2,r3,r4,r5,r6⟩:=hrw.p7;go_wp;exact sQ
      ·intro x W he f;have h:x 3=.pointer (some ⟨w.heap.size+1,0,none⟩):=f.1;go_wp;exact sQ
      ·intro x W he f;have h:x 45=.pointer (some ⟨w.heap.size+1,1,none⟩):=f.1;have hc:=(hB.ext he).cell (j:=1) rfl;go_wp;exact sQ
      ·intro x W he f;have h:x 6=I pre.length:=f.1;go_wp;exact sQ
      ·intro x W he f;have h:x 46=.slice (some ⟨b,o,none⟩) te.length m2:=f.1;have h2:x 47=I pre.length:=f.2.1;go_wp;exact sQ
      ·intro x W he f;have h:x 48=.pointer (some ⟨b,o+pre.length * 7,none⟩):=f.1;have q0:=he.cell e0;have q1:=he.cell e1;have q2:=he.cell e2;have q3:=he.cell e3;have q4:=he.cell e4;have q5:=he.cell e5;have q6:=he.cell e6;go_wp;exact sQ
      ·intro x W he f;have h:x 44=entV E (.slice F1 E.seen.length f1_) (.slice F2 E.counts.length f2_) (.slice F3 E.items.length f3_):=f.1;have h2:x 49=entV m (.slice C1 m.seen.length c1) (.slice C2 m.counts.length c2) (.slice C3 m.items.length c3):=f.2.1;have hs:=he.size;have HC:=zH (zrh (HEF.out.ext (HX8.out.trans he)) (HEA.out.ext (HX8.out.trans he)) hgE.1 hbm.1 hgE.2 hbm.2);go_wp;refine HC.out.mono ?_;rintro r W2 ⟨u1,u2,u3,rfl,hn2,hx2⟩;dsimp only;go_wp;exact zaa (v:=entV (zav E m) u1 u2 u3) ⟨u1,u2,u3,rfl,hn2.mono fun b _ h=>by rcases h with (h | h) | h;exact⟨h.1.elim .inl (fun k=>.inr (.inl k)),by have:=h.2;omega,by have:=h.2;omega⟩;exact⟨h.1.elim .inl (fun k=>.inr (.inl k)),by have:=h.2;omega,by have:=h.2;omega⟩;exact⟨.inr (.inr (by omega)),by omega,by omega⟩⟩ hx2
     case hend6 =>
      intro x W he f;have h43:x 43=.slice AE PL.length cE:=f.2.1;obtain⟨u1,u2,u3,h50,hJE⟩:∃ u1 u2 u3,x 50=entV (zav E m) u1 u2 u3/\EntAt W (fun b=>(S1 b ∨ S2 b ∨ w.heap.size<=b)/\b ≠ g/\b ≠ w.heap.size+2) (zav E m) u1 u2 u3:=f.2.2.2.2.2.2.2.2.1;clear f;simp only [List.length_cons,List.length_nil,Nat.reduceAdd,List.take_succ_cons,List.take_zero,List.filterMap_cons,List.filterMap_nil,List.drop_succ_cons,List.drop_zero,zaw,Act.put,List.setIfInBounds_toArray,List.set_cons_succ,List.set_cons_zero,h43,h50];have HP:=zH (zrk (hE.ext (by decide) he) hJE (by omega));rw [<- HSN.out] at HP;go_wp;refine HP.out.mono ?_;rintro r W9 ⟨v9,rfl,hS9,hx9⟩;have hxx:=he.trans hx9;have hg9:=hg.ext hxx;have hgz:=hxx.size;have hW:=he.size;obtain⟨AL,hAL⟩:∃ AL,zdc se (pre++[m])=AL:=⟨_,rfl⟩
      rw [hAL] at hS9;have HAL:=zH hAL;clear hAL;obtain⟨AF,cF,rfl,-,-⟩:=hS9.form;obtain⟨c0,c1,c2⟩:=hg9.p3;obtain⟨f0,f1,f2⟩:=hg9.q3;have hgS:=hg9.set (j:=1) (by simp) (.slice AF AL.length cF);simp only [List.set_cons_succ,List.set_cons_zero] at hgS;have hkk:∀ b,b ≠ g->(W9.setCell ⟨g,1,none⟩ (.slice AF AL.length cF)).heap[b]? = W9.heap[b]?:=fun b hb=>Below.heap_setCell _ _ _ _ hb
      have hS9':=hS9.mono (S':=fun b=>(S1 b ∨ S2 b ∨ w.heap.size<=b)/\b ≠ g/\b ≠ w.heap.size+2) (by decide) (fun b _ h=>by rcases h with h | h;exact h;exact⟨.inr (.inr (by omega)),by omega,by omega⟩)
      have HI:=zH (show InvJ w.heap.size g S1 S2 JM TX [.slice A1 sa.length n1,.slice A2 se.length n2,.slice A3 sp.length n3] [.slice B1 ta.length m1,.slice (some ⟨b,o,none⟩) te.length m2,.slice B3 tp.length m3] (.slice J1 JM.length j1) (.slice J3 TX.length j3) (.slice AF AL.length cF) AL (W9.setCell ⟨g,1,none⟩ (.slice AF AL.length cF)) from
       ⟨hgS,(hoJ.ext hxx).keep (fun b hb _=>hkk b (fun e=>by subst e;exact (hoJ.ext hxx).apart hg9 (by decide) hb)),hS9'.keep (by decide) (fun b hb _=>hkk b hb.2.1),(hoT.ext hxx).keep (fun b hb _=>hkk b (fun e=>by subst e;exact (hoT.ext hxx).apart hg9 (by decide) hb)),(hR.ext hxx).keep (hkk _ (by omega)),(hA.ext hxx).keep (hkk _ (by omega)),(hB.ext hxx).keep (hkk _ (by omega))⟩)
      have HX9:=zH ((HX8.out.trans hxx).set (p:=⟨g,1,none⟩) (by simp;omega) (.slice AF AL.length cF));clear hgS hg9 hS9 hS9' hkk hxx hx9 he hg hoJ hE hoT hR hA hB hJE h43 h50 HP e0 e1 e2 e3 e4 e5 e6;go_wp2_with fail;go_roundw
      case rel=>exact⟨pre++[m],post,_,by rw [HL.out];simp,by simp,by rw [HAL.out];exact HI,HX9.out⟩
      case measure=>simp [intOf];omega
   | nil =>
    rw [List.append_nil] at hl;subst hl;have HI:=hI;obtain⟨hg,hoJ,hE,hoT,hR,hA,hB⟩:=hI.out;generalize zdc se te=PL at *;obtain⟨AE,cE,rfl,-,-⟩:=hE.form;obtain⟨k0,k1,k2⟩:=hg.p3;obtain⟨r0,r1,r2⟩:=hR.p3;obtain⟨f0,f1,f2⟩:=hR.q3;have b1:=hB.cell (j:=1) rfl;clear hI hg hoJ hE hoT hR hA hB hx;go_wp2_with fail
    (try simp only [Exit.inBlock,Exit.then])
    refine bodyPost_ret (v:=stV (.slice J1 JM.length j1) (.slice AE PL.length cE) (.slice J3 TX.length j3)) (by simp [results,Tryz.f31,go_sem,r0,r1,r2]) rfl ?_;obtain⟨hg,hoJ,hE,hoT,hR,-⟩:=HI.out;have hk:∀ b,b ≠ w.heap.size+2->(((wr.setCell ⟨w.heap.size+2,0,none⟩ (.slice J1 JM.length j1)).setCell ⟨w.heap.size+2,1,none⟩ (.slice AE PL.length cE)).setCell ⟨w.heap.size+2,2,none⟩ (.slice J3 TX.length j3)).heap[b]? = wr.heap[b]?:=fun b hb=>((Below.heap_setCell _ _ _ b hb).trans (Below.heap_setCell _ _ _ b hb)).trans (Below.heap_setCell _ _ _ b hb)
    refine ⟨(.slice J1 JM.length j1),.slice AE PL.length cE,(.slice J3 TX.length j3),rfl,?_,(((HX.out.set (p:=⟨w.heap.size+2,0,none⟩) (by simp) _).set (p:=⟨w.heap.size+2,1,none⟩) (by simp) _).set (p:=⟨w.heap.size+2,2,none⟩) (by simp) _)⟩;rw [HJ.out]
    exact⟨(zax (hoJ.keep fun b hb _=>hk b (by have:=(hoJ.base_le hb).1;omega))).mono (by decide) (fun b _ h=>.inr (.inr (by omega))),
     (hE.keep (by decide) (fun b hb _=>hk b hb.2.2)).mono (by decide) (fun b _ h=>h.1),
     (zo1 (hoT.keep fun b hb _=>hk b (by have:=(hoT.base_le hb).1;omega))).mono (by decide) (fun b _ h=>.inr (.inr (by omega)))⟩
end
section
open Go.RowKit Go.Shelf
theorem zol {S1 S2 S0:Nat->Prop} {s d:State} {a1 a2 a3 b0 b1 b2 b3:Value} {db:List Mark} {w:World} (hs:StAt w S1 s a1 a2 a3) (hd:StAt w S2 d b1 b2 b3) (hb:Sl markT w S0 b0 db) (bs:SmR s) (bd:SmR d) (hbl:db.length<=1000000) :
  Calls Tryz.prog 32 #[stV a1 a2 a3,dltV b0 b1 b2 b3] w fun r w'=>∃ u1 u2 u3,r=.returned (.tuple #[stV u1 u2 u3,I (zhr s d db).2])/\StAt w' (fun _=>True) (zhr s d db).1 u1 u2 u3/\Ext w w':=by
 have HAP:=zH (show zhr s d db=if zch s.all (s.pruned++d.pruned) (za0 db) then (zba,160) else (zg7 s d,0) from rfl);obtain⟨sa,se,sp⟩:=s;obtain⟨ta,te,tp⟩:=d;obtain⟨A1,n1,rfl,-,-⟩:=hs.all.form;obtain⟨A2,n2,rfl,-,-⟩:=hs.entries.form;obtain⟨A3,n3,rfl,-,-⟩:=hs.pruned.form;obtain⟨B0,m0,rfl,-,-⟩:=hb.form;obtain⟨B1,m1,rfl,-,-⟩:=hd.all.form;obtain⟨B2,m2,rfl,-,-⟩:=hd.entries.form;obtain⟨B3,m3,rfl,-,-⟩:=hd.pruned.form;have HS:=zH (hs.mono (S':=fun b=>b < w.heap.size) (fun b hb _=>hb));have HD:=zH (hd.mono (S':=fun b=>b < w.heap.size) (fun b hb _=>hb));have BS:=zH bs;have BD:=zH bd;obtain⟨W0,hW0⟩:∃ W0,((w.alloc (.cells #[.slice A1 sa.length n1,.slice A2 se.length n2,.slice A3 sp.length n3] 30)).alloc (.cells #[.slice B0 db.length m0,.slice B1 ta.length m1,.slice B2 te.length m2,.slice B3 tp.length m3] 64)).alloc (.cells #[.slice none 0 0,.slice none 0 0,.slice none 0 0] 30)=W0:=⟨_,rfl⟩
 have hx0:Ext w W0:=by rw [<- hW0];exact (((Ext.refl w).alloc _).alloc _).alloc _
 have rA:RowIs W0 w.heap.size 30 [.slice A1 sa.length n1,.slice A2 se.length n2,.slice A3 sp.length n3] []:=by rw [<- hW0];exact ((zah w 30 [.slice A1 sa.length n1,.slice A2 se.length n2,.slice A3 sp.length n3]).alloc _).alloc _
 have rB:RowIs W0 (w.heap.size+1) 64 [.slice B0 db.length m0,.slice B1 ta.length m1,.slice B2 te.length m2,.slice B3 tp.length m3] []:=by rw [<- hW0];have h:=zah (w.alloc (.cells #[.slice A1 sa.length n1,.slice A2 se.length n2,.slice A3 sp.length n3] 30)) 64 [.slice B0 db.length m0,.slice B1 ta.length m1,.slice B2 te.length m2,.slice B3 tp.length m3];simp only [World.size_alloc] at h;exact h.alloc _
 have rR:RowIs W0 (w.heap.size+2) 30 [.slice none 0 0,.slice none 0 0,.slice none 0 0] []:=by rw [<- hW0];have h:=zah ((w.alloc (.cells #[.slice A1 sa.length n1,.slice A2 se.length n2,.slice A3 sp.length n3] 30)).alloc (.cells #[.slice B0 db.length m0,.slice B1 ta.length m1,.slice B2 te.length m2,.slice B3 tp.length m3] 64)) 30 [.slice none 0 0,.slice none 0 0,.slice none 0 0];simp only [World.size_alloc] at h;exact h
 have hz0:W0.heap.size=w.heap.size+3:=by rw [<- hW0];simp
 have HCL:=zH (zgd (hb.ext (by decide) hx0) hbl);generalize zhr ⟨sa,se,sp⟩ ⟨ta,te,tp⟩ db=R at *;have htl:=zd8 db;generalize za0 db=T at *;clear hs hd hb bs bd;obtain⟨k0,k1,k2,k3⟩:=rB.p4;go_enter Tryz.func32,Tryz.ntmps32;go_wp2_with fail
 (try rw [hW0])
 clear hW0;refine HCL.out.mono ?_;rintro r W1 ⟨v',rfl,hown,hx1⟩;have hsl:=zax hown;obtain⟨P,c',rfl,hp1,hp2⟩:=hown.form;have HTA:=zH (fun (pre post:List Mark) (x:Mark) (wr:World) (h:Ext W1 wr) (hl:T=pre++x :: post)=>zct hsl h hl);have hz1:=hx1.size;have HX:=zH (hx0.trans hx1);have RA:=zH (rA.ext hx1);have RB:=zH (rB.ext hx1);have RR:=zH (rR.ext hx1);clear hown hsl HCL hx0 hx1 rA rB rR k0 k1 k2 k3;go_wp2_with fail
 go_loopw [7] (fun i wr=>∃ pre post,T=pre++post/\i=I pre.length/\zch sa (sp++tp) pre=false/\Ext W1 wr) (fun i _=>T.length - (intOf i).toNat)
 case atStart=>exact⟨[],T,rfl,rfl,rfl,Ext.refl _⟩
 case round =>
  obtain⟨pre,post,hl,rfl,hbh,hx⟩:=hrel
  cases post with
  | cons x post =>
   obtain⟨b,o,rfl,e0,e1⟩:=HTA.out pre post x wr hx hl;have hlt:pre.length < T.length:=(by rw [hl];simp);have HL:=zH hl;obtain⟨Wd,hWd⟩:∃ Wd,wr.drew=Wd:=⟨_,rfl⟩
   have hxd:Ext wr Wd:=(by rw [<- hWd];exact (Ext.refl wr).drew);have HWD:=zH hWd;have HYD:=zH (hx.trans hxd);have hrA:=RA.out.ext HYD.out;have hrB:=RB.out.ext HYD.out;have hrR:=RR.out.ext HYD.out;have HF:=zH (zd9 x.1 (HS.out.all.ext (by decide) (HX.out.trans HYD.out)));have HI1:=zH ((znz x.1 (HS.out.pruned.ext (by decide) (HX.out.trans HYD.out))).mono fun e w' h=>And.intro h.1 h.2.symm);have HI2:=zH (znz x.1 (HD.out.pruned.ext (by decide) (HX.out.trans HYD.out)))
   have HBX:=zH (show zch sa (sp++tp) (pre++[x])=(decide (ofM sa x.1 < x.2) && !decide (x.1 ∈ sp ∨ x.1 ∈ tp)) by have h:zch sa (sp++tp) (pre++[x])=(zch sa (sp++tp) pre || zch sa (sp++tp) [x]):=(by unfold zch;rw [List.any_append]);rw [h,hbh];simp [zch])
   generalize ofM sa x.1=nn at HF HBX;clear hbh hl hx;go_wp2_with fail;replace e0:=hxd.cell e0;replace e1:=hxd.cell e1;obtain⟨k0,k1,k2⟩:=hrA.p3;obtain⟨j0,j1,j2,j3⟩:=hrB.p4
   by_cases hlt2:nn < x.2
   case' neg =>
    refine wp_region_still_tail 34 (by kernel_rfl) (by kernel_rfl) ?_;simp only [List.take_succ_cons,List.take_zero,List.drop_succ_cons,List.drop_zero];change wpStill _ _ (wr).drew (fun a'=>wpList _ _ _ _ a' (wr).drew) _ _;rw [HWD.out];generalize hA:Act.mk _ _=A0;repeat (refine wpStill_step (fun K2 hK2=>?_);subst hA;go_simp;(try rw [if_neg (by decide)]);generalize hA:Act.mk _ _=A0;refine hK2 A0 ?_;clear hK2 K2)
    refine wpStill_step (fun K2 hK2=>?_);subst hA;go_simp;refine ⟨_,(HF.out.mono fun e w' h=>⟨h.1,h.2.symm⟩),?_⟩;generalize hA:Act.mk _ _=A0;refine hK2 A0 ?_;clear hK2 K2
    repeat (refine wpStill_step (fun K2 hK2=>?_);subst hA;go_simp;(try rw [if_neg (by decide)]);generalize hA:Act.mk _ _=A0;refine hK2 A0 ?_;clear hK2 K2)
    refine wpStill_nil ?_;subst hA;go_wp2_with fail;go_roundw
    case rel=>exact⟨pre++[x],post,by rw [HL.out];simp,by simp <;> omega,by rw [HBX.out];simp [hlt2],HYD.out⟩
    case measure=>simp [intOf];omega
   by_cases i1:x.1 ∈ sp
   case' pos =>
    simp only [decide_eq_true i1] at HI1;refine wp_region_still_tail 34 (by kernel_rfl) (by kernel_rfl) ?_;simp only [List.take_succ_cons,List.take_zero,List.drop_succ_cons,List.drop_zero];change wpStill _ _ (wr).drew (fun a'=>wpList _ _ _ _ a' (wr).drew) _ _;rw [HWD.out];generalize hA:Act.mk _ _=A0;repeat (refine wpStill_step (fun K2 hK2=>?_);subst hA;go_simp;(try rw [if_neg (by decide)]);generalize hA:Act.mk _ _=A0;refine hK2 A0 ?_;clear hK2 K2)
    refine wpStill_step (fun K2 hK2=>?_);subst hA;go_simp;refine ⟨_,(HF.out.mono fun e w' h=>⟨h.1,h.2.symm⟩),?_⟩;generalize hA:Act.mk _ _=A0;refine hK2 A0 ?_;clear hK2 K2
    repeat (refine wpStill_step (fun K2 hK2=>?_);subst hA;go_simp;(try rw [if_neg (by decide)]);generalize hA:Act.mk _ _=A0;refine hK2 A0 ?_;clear hK2 K2)
    refine wpStill_step (fun K2 hK2=>?_);subst hA;go_simp;refine ⟨_,(HI1.out.mono fun e w' h=>⟨h.1,h.2.symm⟩),?_⟩;generalize hA:Act.mk _ _=A0;refine hK2 A0 ?_;clear hK2 K2
    repeat (refine wpStill_step (fun K2 hK2=>?_);subst hA;go_simp;(try rw [if_neg (by decide)]);generalize hA:Act.mk _ _=A0;refine hK2 A0 ?_;clear hK2 K2)
    refine wpStill_nil ?_;subst hA;go_wp2_with fail;go_roundw
    case rel=>exact⟨pre++[x],post,by rw [HL.out];simp,by simp <;> omega,by rw [HBX.out];simp [i1],HYD.out⟩
    case measure=>simp [intOf];omega
   simp only [decide_eq_false i1] at HI1;refine wp_region_still_tail 34 (by kernel_rfl) (by kernel_rfl) ?_;simp only [List.take_succ_cons,List.take_zero,List.drop_succ_cons,List.drop_zero];change wpStill _ _ (wr).drew (fun a'=>wpList _ _ _ _ a' (wr).drew) _ _;rw [HWD.out];generalize hA:Act.mk _ _=A0;repeat (refine wpStill_step (fun K2 hK2=>?_);subst hA;go_simp;(try rw [if_neg (by decide)]);generalize hA:Act.mk _ _=A0;refine hK2 A0 ?_;clear hK2 K2)
   refine wpStill_step (fun K2 hK2=>?_);subst hA;go_simp;refine ⟨_,(HF.out.mono fun e w' h=>⟨h.1,h.2.symm⟩),?_⟩;generalize hA:Act.mk _ _=A0;refine hK2 A0 ?_;clear hK2 K2
   repeat (refine wpStill_step (fun K2 hK2=>?_);subst hA;go_simp;(try rw [if_neg (by decide)]);generalize hA:Act.mk _ _=A0;refine hK2 A0 ?_;clear hK2 K2)
   refine wpStill_step (fun K2 hK2=>?_);subst hA;go_simp;refine ⟨_,(HI1.out.mono fun e w' h=>⟨h.1,h.2.symm⟩),?_⟩;generalize hA:Act.mk _ _=A0;refine hK2 A0 ?_;clear hK2 K2
   repeat (refine wpStill_step (fun K2 hK2=>?_);subst hA;go_simp;(try rw [if_neg (by decide)]);generalize hA:Act.mk _ _=A0;refine hK2 A0 ?_;clear hK2 K2)
   refine wpStill_nil ?_;subst hA;go_wp2_with fail;refine HI2.out.mono ?_;rintro r Wz ⟨rfl,rfl⟩
   by_cases i2:x.1 ∈ tp
   ·rw [decide_eq_true i2];go_wp2_with fail;go_roundw
    case rel=>exact⟨pre++[x],post,by rw [HL.out];simp,by simp <;> omega,by rw [HBX.out];simp [i2],HYD.out⟩
    case measure=>simp [intOf];omega
   ·rw [decide_eq_false i2]
    have HR:=zH (show R=(zba,160) by have h:zch sa (sp++tp) (pre++[x]++post)=(zch sa (sp++tp) (pre++[x]) || zch sa (sp++tp) post):=(by unfold zch;rw [List.any_append]);rw [HAP.out,HL.out,show pre++x :: post=pre++[x]++post by simp,h,HBX.out];simp [hlt2,i1,i2])
    obtain⟨c0,c1,c2⟩:=hrR.p3;obtain⟨f0,f1,f2⟩:=hrR.q3;clear i1 i2 hlt2 hrA hrB hrR;go_wp2_with fail
    (try simp only [Exit.inBlock,Exit.then])
    refine bodyPost_ret (v:=.tuple #[stV (.slice none 0 0) (.slice none 0 0) (.slice none 0 0),I 160]) (by simp [results,Tryz.f32,go_sem,c0,c1,c2]) rfl ?_;refine ⟨.slice none 0 0,.slice none 0 0,.slice none 0 0,by rw [HR.out];rfl,by rw [HR.out];exact StAt.none _ _ none none none,?_⟩;exact ((((HX.out.trans HYD.out).set (p:=⟨w.heap.size+2,0,none⟩) (by simp) _).set (p:=⟨w.heap.size+2,1,none⟩) (by simp) _).set (p:=⟨w.heap.size+2,2,none⟩) (by simp) _)
  | nil =>
   rw [List.append_nil] at hl;have hle:pre.length=T.length:=(by rw [hl]);have hn1:¬ pre.length < T.length:=(by omega);have HR:=zH (show R=(zg7 ⟨sa,se,sp⟩ ⟨ta,te,tp⟩,0) by rw [HAP.out,hl,hbh];rfl);have hxw:=HX.out.trans hx;have hrA:=RA.out.ext hx;have hrB:=RB.out.ext hx;have hz2:=hx.size;obtain⟨k0,k1,k2⟩:=hrA.p3;obtain⟨j0,j1,j2,j3⟩:=hrB.p4;have HJN:=zH (zkd (HS.out.ext hxw) (HD.out.ext hxw) BS.out BD.out);have HXW:=zH hxw;have HX1:=zH hx;clear hl hle hbh hx hxw hrA hrB;go_wp2_with fail;refine HJN.out.mono ?_;rintro r W9 ⟨u1,u2,u3,rfl,hst,hx9⟩;have hrR:=(RR.out.ext HX1.out).ext hx9;obtain⟨c0,c1,c2⟩:=hrR.p3;obtain⟨f0,f1,f2⟩:=hrR.q3;generalize zg7 ⟨sa,se,sp⟩ ⟨ta,te,tp⟩=J at *;obtain⟨ja,je,jp⟩:=J;obtain⟨U1,v1_,rfl,-,-⟩:=hst.all.form;obtain⟨U2,v2_,rfl,-,-⟩:=hst.entries.form;obtain⟨U3,v3_,rfl,-,-⟩:=hst.pruned.form;have HST:=zH hst;have HX9:=zH hx9;clear hst hx9 hrR HJN;go_wp2_with fail
   (try simp only [Exit.inBlock,Exit.then])
   refine bodyPost_ret (v:=.tuple #[stV (.slice U1 ja.length v1_) (.slice U2 je.length v2_) (.slice U3 jp.length v3_),I 0]) (by simp [results,Tryz.f32,go_sem,c0,c1,c2]) rfl ?_;have hk:∀ b,b ≠ w.heap.size+2->(((W9.setCell ⟨w.heap.size+2,0,none⟩ (.slice U1 ja.length v1_)).setCell ⟨w.heap.size+2,1,none⟩ (.slice U2 je.length v2_)).setCell ⟨w.heap.size+2,2,none⟩ (.slice U3 jp.length v3_)).heap[b]? = W9.heap[b]?:=fun b hb=>((Below.heap_setCell _ _ _ b hb).trans (Below.heap_setCell _ _ _ b hb)).trans (Below.heap_setCell _ _ _ b hb)
   have hne:∀ b,(b < w.heap.size ∨ b < w.heap.size ∨ wr.heap.size<=b)->b ≠ w.heap.size+2:=fun b h=>by omega
   refine ⟨.slice U1 ja.length v1_,.slice U2 je.length v2_,.slice U3 jp.length v3_,by rw [HR.out];rfl,?_,((((HXW.out.trans HX9.out).set (p:=⟨w.heap.size+2,0,none⟩) (by simp) _).set (p:=⟨w.heap.size+2,1,none⟩) (by simp) _).set (p:=⟨w.heap.size+2,2,none⟩) (by simp) _)⟩;rw [HR.out];exact⟨(HST.out.all.keep (by decide) (fun b hb _=>hk b (hne b hb))).mono (by decide) (fun _ _ _=>trivial),(HST.out.entries.keep (by decide) (fun b hb _=>hk b (hne b hb))).mono (by decide) (fun _ _ _=>trivial),(HST.out.pruned.keep (by decide) (fun b hb _=>hk b (hne b hb))).mono (by decide) (fun _ _ _=>trivial)⟩
end
end Go.Proofs.YtdikcgmdmcfpfaaGreat
