/- Plain words: who stays knows all of who has gone; what prunes of it, joined, told, come to. No program in sight. -/
import Derived.Test.YtaabaflgeljbjaaGreatQx39
import Derived.Test.YtaabaflgeljbjaaGreatQx43
set_option linter.unusedVariables false
set_option linter.unusedSimpArgs false
set_option maxRecDepth 100000
set_option maxHeartbeats 40000000
namespace Go.Proofs.YtaabaflgeljbjaaGreat
section
open Go.RowKit
def meetA (rs:List Rep):Nat->List Rep
 | 3=>zmi rs 1 2
 | 4=>zmi (zmi rs 1 2) 1 3
 | _=>rs
theorem RepsOk.meetA {E:List Ev} {rs:List Rep} (h:RepsOk E 4 rs) (m:Nat):RepsOk E 4 (meetA rs m):=by
 unfold Go.Proofs.YtaabaflgeljbjaaGreat.meetA
 split
 ·exact h.join 1 2
 ·exact (h.join 1 2).join 1 3
 ·exact h
def yc1 (a:Rep):PrD:=(zac 0,ofM a.s.all (zac 0),zac 1,ofM a.s.all (zac 1))
def yc0 (a:Rep):State:={ a.s with all:=setM a.s.all (zac 1) (ofM a.s.all (zac 1)+ofM a.s.all (zac 0)) }
def yc3 (r0 a b c:Rep):Nat->List Rep
 | 3=>[r0,{ a with s:=yc0 a },⟨zb9 b.s (yc0 a),orL b.knew a.knew,b.asked⟩,c]
 | 4=>[r0,{ a with s:=yc0 a },⟨zb9 b.s (yc0 a),orL b.knew a.knew,b.asked⟩,⟨zb9 c.s (yc0 a),orL c.knew a.knew,c.asked⟩]
 | _=>[r0,{ a with s:=yc0 a },b,c]
structure Met (E:List Ev) (a b c:Rep):Prop where
 is:IsS E [] (yc0 a)
 vec:VecOk (zf9 4) (yc0 a)
 ok:PrOk (yc1 a)
 turn:TurnS (yc1 a) (yc0 a)
 res:zee a.s (zac 1) (ofM a.s.all (zac 0))=(yc0 a,0)
 ready:zc3 (yc0 a).all (yc1 a)=true
 leb:∀ p,ofM b.s.all p<=ofM (yc0 a).all p
 lec:∀ p,ofM c.s.all p<=ofM (yc0 a).all p
 jb:zb9 b.s (yc0 a)=yc0 a
 jc:zb9 c.s (yc0 a)=yc0 a
 kb:orL b.knew a.knew=a.knew
 kc:orL c.knew a.knew=a.knew
 knew:a.knew=E.map (zao (vecS (yc0 a)))
theorem p01':zac 0 ≠ zac 1:=by decide
theorem RepsOk.met {E:List Ev} {rs:List Rep} (h:RepsOk E 4 rs) {r0 a b c:Rep} (hm:Go.Proofs.YtaabaflgeljbjaaGreat.meetA rs 4 = [r0,a,b,c]):Met E a b c:=by
 have h4:RepsOk E 4 [r0,a,b,c]:=hm ▸ h.meetA 4;obtain⟨q0,q1,q2,q3,rfl⟩:=yax h.len
 have e1:a=⟨zb9 (zb9 q1.s q2.s) q3.s,orL (orL q1.knew q2.knew) q3.knew,q1.asked⟩:=by
  have:=congrArg (fun l=>l[1]?) hm
  simpa [Go.Proofs.YtaabaflgeljbjaaGreat.meetA,zmi] using this.symm
 have e2:b=q2:=by
  have:=congrArg (fun l=>l[2]?) hm
  simpa [Go.Proofs.YtaabaflgeljbjaaGreat.meetA,zmi] using this.symm
 have e3:c=q3:=by
  have:=congrArg (fun l=>l[3]?) hm
  simpa [Go.Proofs.YtaabaflgeljbjaaGreat.meetA,zmi] using this.symm
 have hle2:∀ p,ofM b.s.all p<=ofM a.s.all p:=fun p=>by
  rw [e1,e2]
  show _<=ofM (zb9 (zb9 q1.s q2.s) q3.s).all p
  rw [zjk,zjk];omega
 have hle3:∀ p,ofM c.s.all p<=ofM a.s.all p:=fun p=>by
  rw [e1,e3]
  show _<=ofM (zb9 (zb9 q1.s q2.s) q3.s).all p
  rw [zjk];omega
 clear e1 e2 e3 hm h;have ra:=h4.each 1 a rfl;have rb:=h4.each 2 b rfl;have rc:=h4.each 3 c rfl;have H:=h4.hist;have va:=ra.vec h4.few H.most;have hown:=h4.own 1 a rfl;have hmost:=ra.most (zac 1);have hmost0:=ra.most (zac 0);have hl:=H.most
 have hv:∀ t,ofM (yc0 a).all t=if t=zac 1 then ofM a.s.all (zac 1)+ofM a.s.all (zac 0) else ofM a.s.all t:=fun t=>by
  show ofM (setM _ _ _) t=_
  rw [zho,zN (zfz 1)]
 have hge:∀ t,ofM a.s.all t<=ofM (yc0 a).all t:=fun t=>by
  rw [hv]
  split
  ·rename_i e;rw [e];omega
  ·exact Nat.le_refl _
 have his:IsS E [] (yc0 a):=ra.is.up (zfz 1) (by omega) hown
 have hvec:VecOk (zf9 4) (yc0 a):=⟨fun p hp=>by
  by_cases e:p=zac 1
  ·rw [e];exact zys (by decide)
  ·rw [hv,zN e] at hp;exact va.paths p hp,va.few,fun p=>by
  rw [hv]
  split
  ·omega
  ·exact va.most p⟩
 have hkn:∀ e ∈ E,zao (vecS (yc0 a)) e=zao (vecS a.s) e:=fun e he=>yau (p:=zac 1) (fun t ht=>by show ofM (yc0 a).all t=_;rw [hv,zN ht]) (hge _) hown he
 have hev:∀ e ∈ E,e.path=zac 1->e.num<=ofM a.s.all (zac 1):=fun e he hp=>by
  have:=hown e he hp;unfold zao at this;simp only [decide_eq_true_eq,vecS] at this
  rwa [hp] at this
 have hof:ofM (yc0 a).all (zac 0)=ofM a.s.all (zac 0):=by rw [hv,zN p01']
 have hown1:ofM (yc0 a).all (zac 1)=ofM a.s.all (zac 1)+ofM a.s.all (zac 0):=by rw [hv,zP rfl]
 have same:∀ {r:Rep},RepOk E 4 r->(∀ p,ofM r.s.all p<=ofM a.s.all p)->zb9 r.s (yc0 a)=yc0 a/\orL r.knew a.knew=a.knew:=fun {r} hr hle=>by
  refine ⟨(hr.is.join0 H.toHist his).uniq his fun p=>?_,?_⟩
  ·rw [zjk];have:=hle p;have:=hge p;omega
  ·rw [hr.knew,ra.knew];unfold orL;refine List.ext_getElem? fun m=>?_
   simp only [List.getElem?_zipWith,List.getElem?_map]
   cases E[m]? with
   | none=>rfl
   | some e=>have:=hle e.path;simp only [Option.map_some,Option.some.injEq];unfold zao;rw [Bool.eq_iff_iff];simp only [Bool.or_eq_true,decide_eq_true_eq,vecS];omega
 refine ⟨his,hvec,⟨zfz 0,zfz 1,p01',by show ofM a.s.all (zac 1)+ofM a.s.all (zac 0)<=_;omega⟩,his.turnS H hvec hof (Nat.le_of_eq hown1.symm) fun e he _ hp=>.inl (hev e he hp),?_,?_,fun p=>Nat.le_trans (hle2 p) (hge p),fun p=>Nat.le_trans (hle3 p) (hge p),(same rb hle2).1,(same rc hle3).1,(same rb hle2).2,(same rc hle3).2,?_⟩
 ·unfold zee;rw [zN (by rw [ra.is.may H va (by simp) .nil];simp [zac]),zN (by omega)]
  rfl
 ·unfold zc3;rw [show ofM (yc0 a).all (yc1 a).1=(yc1 a).2.1 from hof,decide_eq_true rfl,decide_eq_true (show (yc1 a).2.2.2+(yc1 a).2.1<=ofM (yc0 a).all (yc1 a).2.2.1 by show ofM a.s.all (zac 1)+ofM a.s.all (zac 0)<=ofM (yc0 a).all (zac 1);omega)]
  rfl
 ·rw [ra.knew];exact List.map_congr_left fun e he=>(hkn e he).symm
theorem ydm {rs:List Rep} (h:rs.length=4) {r0 a b c:Rep} (hm:meetA rs 4 = [r0,a,b,c]):rs[3]? = some c:=by
 obtain⟨q0,q1,q2,q3,rfl⟩:=yax h;have:=congrArg (fun l=>l[3]?) hm
 simpa [meetA,zmi] using this
theorem TurnS.same {p:PrD} {s:State} (h:TurnS p s):∀ x ∈ s.entries,∀ y ∈ s.entries,x.key=y.key->TurnTwo p x y:=fun x hx y hy e=>by
 have:=zpz (mayS_iff.1 h.may).rise hx hy e;subst this;exact TurnTwo.refl (h.each x hx).1
theorem TurnS.since {p:PrD} {s:State} (h:TurnS p s) (base:List Mark):TurnS p (zic s base) where
 may:=by have hM:=mayS_iff.1 h.may;refine mayS_iff.2 ⟨hM.all,fun e he=>hM.each e (List.mem_filter.1 he).1,?_,hM.pruned,hM.risep⟩;have:=hM.rise;unfold RiseS at this ⊢;rw [List.pairwise_map] at this ⊢;exact this.filter _
 each x hx:=h.each x (List.mem_filter.1 hx).1
 new:=h.new
 ready:=h.ready
theorem TurnS.ok {p:PrD} {s:State} (h:TurnS p s):∀ x ∈ s.entries,TurnOk p x/\x.key ≠ []:=fun x hx=>⟨(h.each x hx).1,(h.each x hx).2.1⟩
theorem yda {E:List Ev} (H:Hist E) {p:PrD} (hp:PrOk p) {s:State} (hs:IsS E [] s) (h:TurnS p s):zb9 s s=s/\zb9 (turnS p s) (turnS p s)=turnS p s:=by
 have h1:zb9 s s=s:=(hs.join0 H hs).uniq hs fun t=>by rw [zjk];omega
 refine ⟨h1,?_⟩;rw [yc7 hp h.ok h.ok h.same hs.pruned hs.pruned,h1]
theorem ydn {E:List Ev} (H:Hist E) {p:PrD} (hp:PrOk p) {s:State} (hs:IsS E [] s) (h:TurnS p s) {base:List Mark} (hb:∀ t,ofM base t<=ofM s.all t) :
  zie (za0 base []) (zic s base) p=(zau (za0 base []) p.1,turnS p (zic s base),0)/\zhe (turnS p s) (zau (za0 base []) p.1) (turnS p (zic s base))=(turnS p s,0):=by
 have hd:=h.since base;refine ⟨?_,?_⟩
 ·unfold zie;rw [hd.prune hp]
  rfl
 ·have hj:zb9 (turnS p s) (turnS p (zic s base))=turnS p s:=by
   rw [yc7 hp h.ok hd.ok (fun x hx y hy e=>h.same x hx y (List.mem_filter.1 hy).1 e) hs.pruned hs.pruned,zu8 H hs hs hb,(yda H hp hs h).1]
  unfold zhe;rw [zP,hj];refine (zqp (ze7 _ _)).2 fun m hm _=>?_
  have h1:=(ze7 (za0 base []) p.1).1.of hm ((ze7 (za0 base []) p.1).2 m hm).1;have h2:=((ze7 (za0 base []) p.1).2 m hm).2;rw [zcs] at h1
  show m.2<=ofM (zau s.all p.1) m.1
  rw [zcs]
  by_cases e:m.1=p.1
  ·rw [zP e] at h1;omega
  ·rw [zN e,zfs,zff] at h1;rw [zN e];have:=hb m.1;omega
end
end Go.Proofs.YtaabaflgeljbjaaGreat
