/- Laws. -/
import Derived.Test.YtaabaflgeljbjaaGreatPr16
import Derived.Test.YtaabaflgeljbjaaGreatPr12
import Derived.Test.YtaabaflgeljbjaaGreatPr05
set_option linter.unusedVariables false
set_option linter.unusedSimpArgs false
set_option maxRecDepth 100000
set_option maxHeartbeats 40000000
namespace Go.Proofs.YtaabaflgeljbjaaGreat
section
open Go.RowKit
theorem zq8 (l:List Item) (it:Item):zab (l++[it])=zab l++it.2.map fun d=>(it.1,d):=by simp [zab]
theorem zkc {S:Nat->Prop} {v:Value} {l:List Item} {w:World} (hv:Sl itemT w S v l) :
  Calls Tryz.prog 144 #[v] w fun e w'=>∃ p,e=.returned (.map (some p))/\w.heap.size<=p/\SetOf zar w' p (setL (zab l))/\Ext w w':=by
 have hv':=hv;obtain⟨A,c,rfl,hc1,hc2⟩:=hv.form;have HAT:=zH (fun (pre post:List Item) (m:Item) (wr:World) (h:Ext w wr) (hl:l=pre++m :: post)=>zgr hv' h hl);have hmm:=@run_makeMap Tryz.prog;clear hv hv';go_enter Tryz.func144,Tryz.ntmps144;go_wp2_with fail
 go_loopw [11] (fun i wr=>∃ pre post,l=pre++post/\i=I pre.length/\SetOf zar wr w.heap.size (setL (zab pre))/\Ext w wr) (fun i _=>l.length - (intOf i).toNat)
 case atStart=>exact⟨[],l,rfl,rfl,SetOf.new w,(Ext.refl w).alloc _⟩
 case round =>
  obtain⟨pre,post,hl,rfl,hS,hx⟩:=hrel
  cases post with
  | cons it post =>
   obtain⟨b,o,vd,rfl,hd0,hd1,hsl⟩:=HAT.out pre post it wr hx hl;have hlt:pre.length < l.length:=(by rw [hl];simp);have hsl':=hsl;obtain⟨A2,c2,rfl,hc3,hc4⟩:=hsl.form;have HL:=zH hl;have hx1:=(Ext.refl wr).alloc (.cells #[St it.1,.slice A2 it.2.length c2] 57);have HS:=zH (hS.ext hx1);have HX:=zH (hx.trans hx1);have t0:(wr.alloc (.cells #[St it.1,.slice A2 it.2.length c2] 57)).cell? ⟨wr.heap.size,0,none⟩=some (St it.1):=(by simp [go_sem]);have hws:=hS.lt;have HIN:=zH (fun (p2 q2:List Dot) (x:Dot) (wr':World) (h:Ext w wr') (hl:it.2=p2++x :: q2)=>zje hsl' h hl);have hwz:(wr.alloc (.cells #[St it.1,.slice A2 it.2.length c2] 57)).heap.size=wr.heap.size+1:=(by simp);clear hl hS hsl hsl' hx hx1;go_wp2_with fail;generalize hW1:wr.alloc (.cells #[St it.1,.slice A2 it.2.length c2] 57)=W1 at *;clear hW1;obtain⟨wo,rfl⟩:∃ wo:World,wo=wr:=⟨_,rfl⟩
   go_loopw [18] (fun j wr2=>∃ p2 q2,it.2=p2++q2/\j=I p2.length/\SetOf zar wr2 w.heap.size (setL (zab pre++p2.map fun d=>(it.1,d)))/\wr2.cell? ⟨wo.heap.size,0,none⟩=some (St it.1)/\Ext w wr2) (fun j _=>it.2.length - (intOf j).toNat)
   case atStart=>exact⟨[],it.2,rfl,rfl,by simpa using HS.out,t0,HX.out⟩
   case round =>
    obtain⟨p2,q2,hl2,rfl,hS2,ht2,hx2⟩:=hrel
    cases q2 with
    | cons x q2 =>
     obtain⟨b2,o2,rfl,e0,e1⟩:=HIN.out p2 q2 x wr hx2 hl2;have hlt2:p2.length < it.2.length:=(by rw [hl2];simp);have hx3:=(Ext.refl wr).alloc (.cells #[St x.1,U x.2] 59);have ht3:=hx3.cell ht2;obtain⟨wn,hup,hsn,htn⟩:=zc9 (P:=Tryz.prog) Tryz.underlying217 zjd (hS2.ext hx3) (it.1,x);have htc:=htn.cell ht3 (by omega);have HSN:=zH hsn;have HXN:=zH ((hx2.trans hx3).turned htn (Nat.le_refl _));have HL2:=zH hl2;clear hl2 hS2 hx2 hx3 hsn htn;go_wp2_with fail;go_roundw
     case rel=>exact⟨p2++[x],q2,by rw [HL2.out];simp,by simp,by rw [List.map_append,<- List.append_assoc,List.map_singleton,zh6];exact HSN.out,htc,HXN.out⟩
     case measure=>simp [intOf];omega
    | nil =>
     rw [List.append_nil] at hl2;have HS2:=zH hS2;have HX2:=zH hx2;have hlen:it.2.length=p2.length:=(by rw [hl2]);have HL2:=zH hl2;clear hS2 hx2 hl2;go_wp2_with fail;go_roundw
     case rel=>exact⟨pre++[it],post,by rw [HL.out];simp,by simp,by rw [zq8,HL2.out];exact HS2.out,HX2.out⟩
     case measure=>simp [intOf];omega
  | nil=>rw [List.append_nil] at hl;have hlen:l.length=pre.length:=(by rw [hl]);have HL:=zH hl;have HS:=zH hS;have HX:=zH hx;clear hl hS hx;go_wp2_with fail;go_ret;exact⟨_,rfl,Nat.le_refl _,by rw [HL.out];exact HS.out,HX.out⟩
structure PredK {κ:Type} (K:κ->Value) (P:Program) (g:Nat) (cb:Array Value) (base:Nat) (C:World->Prop) (p:κ->Bool):Prop where
 enters:∀ args w,(callFunc g args).run P w=.ok (.enter g args) w
 keep:∀ W W',C W->Below base W W'->C W'
 does:∀ m W,C W->Calls P g (#[K m]++cb) W fun e w'=>e=.returned (.bool (p m))/\Ext W w'
theorem zku {b g base:Nat} {cb:Array Value} {C:World->Prop} {p:zan->Bool} {ks:List zan} {w:World} (hs:SetOf zar w b ks) (hp:PredK zar Tryz.prog g cb base C p) (hC:C w) (hbase:base<=w.heap.size) :
  Calls Tryz.prog 156 #[.map (some b),.func (.func g) #[] cb] w fun e w'=>∃ q ks',e=.returned (.map (some q))/\w.heap.size<=q/\ks'.Perm (ks.filter p)/\SetOf zar w' q ks'/\Ext w w':=by
 have hx0:=(Ext.refl w).alloc (.map #[] 0);obtain⟨W1,hr,hR,hx1,hsz⟩:=zcz (P:=Tryz.prog) Tryz.underlying217 (hs.ext hx0);have HR:=zH hR;have HX:=zH (hx0.trans hx1);have HN:=zH (SetOf.new (K:=zar) w |>.ext hx1);have HND:=zH hs.nodup;have HP:=zH hp;have HC:=zH hC;have eg:=hp.enters;have hbw:=hs.lt;have hmm:=@run_makeMap Tryz.prog;rw [World.size_alloc] at hr hsz;clear hR hx0 hx1 hs hp hC;go_enter Tryz.func156,Tryz.ntmps156;go_wp2_with fail
 go_loopw [10] (fun u wr=>∃ done rest,(done++rest.map Prod.fst).Perm ks/\RangeIs zar zeg wr b (w.heap.size+1) (ks.map fun k=>(k,())) rest/\SetOf zar wr w.heap.size (done.filter p)/\Ext w wr) (fun _ wr=>wr.rangeLeft b (w.heap.size+1))
 case atStart=>exact⟨[],_,by rw [ze3];exact .refl _,by have:=HR.out;rwa [World.size_alloc] at this,HN.out,HX.out⟩
 case round =>
  obtain⟨done,rest,hperm,hR,hS,hx⟩:=hrel;rcases zdh (P:=Tryz.prog) 0 hR with ⟨rfl,hrun⟩ | ⟨r1,q,r2,wn,rfl,hrun,hR2,ht,hent⟩
  ·have hnx:∀ ty,(Instr.next (.pointer (some ⟨w.heap.size+1,0,none⟩)) false ty).run Tryz.prog wr=.ok (.tuple #[.bool false]) wr:=fun ty=>hrun
   have HPM:=zH hperm;have HS:=zH hS;have HX2:=zH hx;clear hperm hR hrun hS hx;go_wp2_with fail;go_ret;exact⟨_,_,rfl,Nat.le_refl _,by have:=HPM.out;simp at this;exact this.filter p,HS.out,HX2.out⟩
  ·have hnx:∀ ty,(Instr.next (.pointer (some ⟨w.heap.size+1,0,none⟩)) false ty).run Tryz.prog wr=.ok (.tuple #[.bool true,zar q.1,zeg q.2]) wn:=fun ty=>hrun
   have hxn:=hx.turned ht (by omega);have hSn:SetOf zar wn w.heap.size (done.filter p):=hS.keep (ht.other _ (by omega));have hx1:=(Ext.refl wn).alloc (.cells #[St q.1.1,St q.1.2.1,U q.1.2.2] 220);have HPR:=zH (HP.out.does q.1 _ (HP.out.keep _ _ HC.out ((hxn.trans hx1).below hbase)))
   have hqn:q.1 ∉ done:=fun hq=>by
    have:=(hperm.nodup_iff.2 HND.out)
    rw [List.nodup_append] at this;exact this.2.2 q.1 hq q.1 (by simp) rfl
   have HML:=zH hR.left_eq;have HR2:=zH hR2;have HPM:=zH hperm;have HS1:=zH (hSn.ext hx1);have HX1:=zH (hxn.trans hx1);have hns:w.heap.size < wn.heap.size:=hSn.lt;have hrs:w.heap.size+1 < wn.heap.size:=hR2.lt;clear hperm hR hrun hR2 hx ht hxn hSn hS hx1;go_wp2_with fail;refine HPR.out.mono ?_;rintro e w2 ⟨rfl,hx2⟩;have hc0:w2.cell? ⟨wn.heap.size,0,none⟩=some (St q.1.1):=hx2.cell (by simp [go_sem]);have hc1:w2.cell? ⟨wn.heap.size,1,none⟩=some (St q.1.2.1):=hx2.cell (by simp [go_sem]);have hc2:w2.cell? ⟨wn.heap.size,2,none⟩=some (U q.1.2.2):=hx2.cell (by simp [go_sem]);have HR3:=zH ((HR2.out.ext ((Ext.refl wn).alloc (.cells #[St q.1.1,St q.1.2.1,U q.1.2.2] 220))).ext hx2);have HX3:=zH (HX1.out.trans hx2);have hS3:=HS1.out.ext hx2;have hw2s:=hx2.size
   have HPM2:=zH (show ((done++[q.1])++(r1++r2).map Prod.fst).Perm ks by have h1:=HPM.out;simp only [List.map_append,List.map_cons] at h1 ⊢;rw [List.append_assoc];exact ((List.perm_middle (l₁:=r1.map Prod.fst) (a:=q.1) (l₂:=r2.map Prod.fst)).symm.append_left done).trans h1)
   clear hx2;cases hpq:p q.1
   ·have HF:=zH (show (done++[q.1]).filter p=done.filter p by simp [List.filter_append,hpq]);have HS4:=zH hS3;clear hS3;go_wp2_with fail;go_roundw
    case rel=>exact⟨done++[q.1],r1++r2,HPM2.out,HR3.out,by rw [HF.out];exact HS4.out,HX3.out⟩
    case measure=>rw [HML.out,HR3.out.left_eq];simp
   ·obtain⟨w3,hup,hs4,ht4⟩:=zc9 (P:=Tryz.prog) Tryz.underlying217 zjd hS3 q.1
    have HF:=zH (show addK (done.filter p) q.1=(done++[q.1]).filter p by rw [List.filter_append];unfold addK;rw [if_neg (fun h=>hqn (List.mem_filter.1 h).1)];simp [hpq])
    have HS4:=zH hs4;have HT4:=zH ht4;clear hS3 hs4 ht4;go_wp2_with fail;have hR4:RangeIs zar zeg w3 b (w.heap.size+1) (ks.map fun k=>(k,())) (r1++r2):=HR3.out.keep (HT4.out.other b (by omega)) (HT4.out.other _ (by omega));go_roundw
    case rel=>exact⟨done++[q.1],r1++r2,HPM2.out,hR4,by rw [<- HF.out];exact HS4.out,HX3.out.turned HT4.out (Nat.le_refl _)⟩
    case measure=>rw [HML.out,hR4.left_eq];simp
end
end Go.Proofs.YtaabaflgeljbjaaGreat
