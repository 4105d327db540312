/- member.Join. -/
import Derived.Test.YtblkikjmocnllaaGreatDoorQz35
import Derived.Test.YtblkikjmocnllaaGreatDoorQz25
set_option linter.unusedVariables false
set_option linter.unusedSimpArgs false
set_option maxRecDepth 100000
set_option maxHeartbeats 40000000
namespace Go.Proofs.YtblkikjmocnllaaGreatDoor
section
open Go.RowKit Go.Shelf
section
variable {ν:Type} {name:ν->Str} {both:ν->ν->ν} {a b:List ν}
theorem mergeL_mem {e:ν} (h:e ∈ mergeL name both a b):e ∈ a ∨ e ∈ b ∨ ∃ x ∈ a,∃ y ∈ b,name x=name y/\e=both x y:=by
 unfold mergeL at h
 obtain⟨k,-,h⟩:=List.mem_filterMap.1 h
 cases ha:a.find? fun x=>decide (name x=k) with
 | none =>
  cases hb:b.find? fun x=>decide (name x=k) with
  | none=>rw [ha,hb] at h;cases h
  | some y=>rw [ha,hb] at h;injection h with h;subst h;exact .inr (.inl (List.mem_of_find?_eq_some hb))
 | some x =>
  cases hb:b.find? fun x=>decide (name x=k) with
  | none=>rw [ha,hb] at h;injection h with h;subst h;exact .inl (List.mem_of_find?_eq_some ha)
  | some y =>
   rw [ha,hb] at h
   injection h with h
   have h1:name x=k:=by simpa using List.find?_some ha
   have h2:name y=k:=by simpa using List.find?_some hb
   exact .inr (.inr ⟨x,List.mem_of_find?_eq_some ha,y,List.mem_of_find?_eq_some hb,h1.trans h2.symm,h.symm⟩)
theorem mergeL_length:(mergeL name both a b).length<=a.length+b.length:=by
 unfold mergeL
 refine Nat.le_trans (List.length_filterMap_le _ _) ?_
 rw [(isort_perm (lt:=ltP) _).length_eq]
 have:=onceF_len (a.map name++b.map name) []
 simpa [onceL] using this
theorem mergeL_pos (h:0 < a.length+b.length):0 < (mergeL name both a b).length:=by
 have hx:∃ k,k ∈ a.map name++b.map name:=by
  cases a with
  | cons x a=>exact⟨name x,by simp⟩
  | nil =>
   cases b with
   | cons y b=>exact⟨name y,by simp⟩
   | nil=>simp at h
 obtain⟨k,hk⟩:=hx
 have h1:(mrgO both (a.find? fun x=>decide (name x=k)) (b.find? fun x=>decide (name x=k))).isSome=true:=by
  rw [mrgO_some,Bool.or_eq_true,find_mem,find_mem]
  exact List.mem_append.1 hk
 obtain⟨e,he⟩:=Option.isSome_iff_exists.1 h1
 refine List.length_pos_of_mem (a:=e) ?_
 unfold mergeL
 exact List.mem_filterMap.2 ⟨k,(isort_perm (lt:=ltP) _).symm.subset (onceL_in.2 hk),he⟩
end
theorem spansM_length (a b:List Span):(spansM a b).length<=a.length+b.length:=by
 unfold spansM
 refine Nat.le_trans (mrg_len _) ?_
 rw [(List.mergeSort_perm _ _).length_eq,<- List.length_append]
 exact List.length_filter_le _ _
structure JoinOk (l:List Mbr):Prop where
 len:l.length<=2147483648
 path:∀ x ∈ l,x.path.length < 4294967296
 keeper:∀ x ∈ l,x.plan.keeper.length < 4611686018427387904
 words:∀ x ∈ l,∀ z ∈ x.words,z.of.length < 4294967296/\z.keeper.length < 4611686018427387904
 gone:∀ x ∈ l,x.gone.length<=2147483648
 wlen:∀ x ∈ l,x.words.length<=2147483648
def joinL (a b:List Mbr):List Mbr:=bareM (mergeL Mbr.path joinedM a b)
theorem join_small {a b:List Mbr} (ha:JoinOk a) (hb:JoinOk b):SmallL (mergeL Mbr.path joinedM a b) where
 len:=by have:=mergeL_length (name:=Mbr.path) (both:=joinedM) (a:=a) (b:=b);have:=ha.len;have:=hb.len;omega
 each x hx:=by
  rcases mergeL_mem hx with h | h | ⟨y,hy,z,hz,-,rfl⟩
  ·have:=ha.gone x h;have:=ha.wlen x h;omega
  ·have:=hb.gone x h;have:=hb.wlen x h;omega
  ·have h1:=spansM_length y.gone z.gone
   have h2:=mergeL_length (name:=Word.of) (both:=saidM) (a:=y.words) (b:=z.words)
   have:=ha.gone y hy;have:=ha.wlen y hy;have:=hb.gone z hz;have:=hb.wlen z hz
   refine ⟨?_,?_⟩
   ·show (spansM y.gone z.gone).length<=_
    omega
   ·show (mergeL Word.of saidM y.words z.words).length<=_
    omega
theorem join_path {a b:List Mbr} (ha:JoinOk a) (hb:JoinOk b):∀ x ∈ mergeL Mbr.path joinedM a b,x.path.length < 4294967296:=by
 intro x hx
 rcases mergeL_mem hx with h | h | ⟨y,hy,z,hz,-,rfl⟩
 ·exact ha.path x h
 ·exact hb.path x h
 ·exact ha.path y hy
theorem join_any {S S':Nat->Prop} {v u:Value} {a b:List Mbr} {w:World} (hv:Sl mbrT w S v a) (hu:Sl mbrT w S' u b) (ha:JoinOk a) (hb:JoinOk b) (h0:0 < a.length+b.length) :
  Calls Tryz.prog 18 #[v,u] w fun e w'=>∃ v',e=.returned v'/\Sl mbrT w' (fun b=>w.heap.size<=b) v' (joinL a b)/\Ext w w':=by
 have hv':=hv
 have hu':=hu
 obtain⟨A,ca,rfl,ha1,ha2⟩:=hv.form
 obtain⟨B,cb,rfl,hb1,hb2⟩:=hu.form
 obtain⟨la,hla,hFa,hca⟩:=mps_of hv'
 obtain⟨lb,hlb,hFb,hcb⟩:=mps_of hu'
 have hlla:la.length=a.length:=by rw [<- hla,List.length_map]
 have hllb:lb.length=b.length:=by rw [<- hlb,List.length_map]
 have hin:∀ e,e ∈ la ∨ e ∈ lb->e.1 ∈ a ∨ e.1 ∈ b:=fun e he=>by
  rcases he with he | he
  ·exact .inl (by rw [<- hla];exact List.mem_map_of_mem he)
  ·exact .inr (by rw [<- hlb];exact List.mem_map_of_mem he)
 have HM:=mergeM_any (a:=la) (b:=lb) (A:=A) (B:=B) (ca:=ca) (cb:=cb) (by omega) ha2 (by omega) hb2 hFa hFb (fun pre e post h=>by obtain⟨b,o,h1,-,h2⟩:=hca pre e post h;exact⟨b,o,h1,h2⟩) (fun pre e post h=>by obtain⟨b,o,h1,-,h2⟩:=hcb pre e post h;exact⟨b,o,h1,h2⟩)
  (fun e he=>by
   rcases hin e he with h | h
   ·exact⟨ha.path _ h,ha.keeper _ h,ha.words _ h,by have:=ha.gone _ h;omega,by have:=ha.wlen _ h;omega⟩
   ·exact⟨hb.path _ h,hb.keeper _ h,hb.words _ h,by have:=hb.gone _ h;omega,by have:=hb.wlen _ h;omega⟩)
  (by have:=ha.len;have:=hb.len;omega)
 rw [hla,hlb,hlla,hllb] at HM
 have HM:=Lib.hid HM
 have HSM:=Lib.hid (join_small ha hb)
 have HPA:=Lib.hid (join_path ha hb)
 have HPO:=Lib.hid (mergeL_pos (name:=Mbr.path) (both:=joinedM) h0)
 have eg:∀ args w,(callFunc 42 args).run Tryz.prog w=.ok (.enter 42 args) w:=enters_of Tryz.func42 (by kernel_rfl) rfl
 clear hv hv' hu hu' ha hb hFa hFb hca hcb hin ha1 ha2 hb1 hb2 hla hlb hlla hllb h0
 unfold joinL
 generalize mergeL Mbr.path joinedM a b=m at *
 go_enter Tryz.func18,Tryz.ntmps18
 go_wp2_with fail
 refine HM.out.mono ?_
 rintro e w1 ⟨v',L,rfl,hown,hLm,hrd,hx1⟩
 have hol:=ownL_mp hown hrd
 rw [hLm] at hol
 have HB:=Lib.hid (bare_any (hol.sl (S':=fun _=>True) (by decide) (fun _ _ _=>trivial) (fun _ _ _=>trivial)) HSM.out HPO.out HPA.out)
 have HX1:=Lib.hid hx1
 obtain⟨Am,cm,rfl,-,-⟩:=hown.form
 clear hown hLm hrd hol hx1 HM
 go_wp2_with fail
 refine HB.out.mono ?_
 rintro e w2 ⟨v2,rfl,hs,hx2⟩
 go_wp2_with fail
 go_ret
 exact⟨v2,rfl,hs.mono (by decide) (fun b _ h=>Nat.le_trans HX1.out.size h),HX1.out.trans hx2⟩
end
end Go.Proofs.YtblkikjmocnllaaGreatDoor
