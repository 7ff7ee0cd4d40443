/- Texts of one chain, merged. -/
import Derived.Test.YtechdefolfboeaaGreatDoorCc6
import Derived.Test.YtechdefolfboeaaGreatDoorCc28
set_option linter.unusedVariables false
set_option linter.unusedSimpArgs false
namespace Go.Proofs.YtechdefolfboeaaGreatDoor
open Go.RowKit B K
structure PatP where
 rt:Int
 runs:List Int
deriving DecidableEq
instance:Inhabited PatP:=⟨⟨0,[]⟩⟩
def runAt (L:List RunP) (i:Int):RunP:=(L[i.toNat]?).getD default
def noneB:List Int→List Int→Bool
 |x::a,y::b=>decide (x≤y)&&noneB a b
 |_,_=>true
theorem noneB_iff {a b:List Int}:noneB a b=true↔ ∀ (i:Nat) x y,a[i]?=some x→b[i]?=some y→x≤y:=by
 induction a generalizing b with
 |nil=>simp [noneB]
 |cons x a ih=>
  cases b with
  |nil=>simp [noneB]
  |cons y b=>
   rw [noneB,Bool.and_eq_true,decide_eq_true_eq,ih]
   constructor
   ·rintro⟨h1,h2⟩ i x' y' hx hy
    cases i with
    |zero=>cases hx;cases hy;exact h1
    |succ i=>exact h2 i x' y' hx hy
   ·exact fun h=>⟨h 0 x y rfl rfl,fun i x' y' hx hy=>h (i+1) x' y' hx hy⟩
theorem noneB_tr {a b c:List Int} (hl:a.length=b.length) (h1:noneB a b=true) (h2:noneB b c=true):noneB a c=true:=by
 rw [noneB_iff] at*
 intro i x z hx hz
 have hi:i<b.length:=by rw [←hl];exact(List.getElem?_eq_some_iff.1 hx).1
 exact Int.le_trans (h1 i x b[i] hx (List.getElem?_eq_getElem hi)) (h2 i b[i] z (List.getElem?_eq_getElem hi) hz)
def aheadB (r s:RunP):Bool:=decide (r.arr.length=s.arr.length)&&(decide (r.dep.length=s.dep.length)&&(noneB r.arr s.arr&&noneB r.dep s.dep))
theorem aheadB_iff {r s:RunP}:aheadB r s=true↔r.arr.length=s.arr.length∧r.dep.length=s.dep.length∧noneB r.arr s.arr=true∧noneB r.dep s.dep=true:=by
 unfold aheadB;simp only [Bool.and_eq_true,decide_eq_true_eq]
theorem aheadB_tr {r s t:RunP} (h1:aheadB r s=true) (h2:aheadB s t=true):aheadB r t=true:=by
 rw [aheadB_iff] at*
 exact⟨h1.1.trans h2.1,h1.2.1.trans h2.2.1,noneB_tr h1.1 h1.2.2.1 h2.2.2.1,noneB_tr h1.2.1 h1.2.2.2 h2.2.2.2⟩
section
variable {L:List RunP}
def ofStep (L:List RunP) (rt:Int) (out:List PatP) (n:Int):List PatP:=
 match out.findIdx? (fun p=>aheadB (runAt L (p.runs.getLastD 0)) (runAt L n)) with
 |none=>out++[⟨rt,[n]⟩]
 |some i=>out.modify i fun p=>⟨p.rt,p.runs++[n]⟩
structure OfI (L:List RunP) (rt:Int) (order:List Int) (out:List PatP):Prop where
 rt: ∀ p∈out,p.rt=rt∧p.runs≠[]
 ah: ∀ p∈out,p.runs.Pairwise fun a b=>aheadB (runAt L a) (runAt L b)=true
 pm:(out.flatMap PatP.runs).Perm order
theorem flat_modify {l:List PatP} {i:Nat} {p:PatP} {f:PatP→PatP} {n:Int} (hp:l[i]?=some p) (hf:(f p).runs =p.runs++[n]):((l.modify i f).flatMap PatP.runs).Perm (l.flatMap PatP.runs++[n]):=by
 induction l generalizing i with
 |nil=>simp at hp
 |cons x l ih=>
  cases i with
  |zero=>
   simp at hp;subst hp
   rw [List.modify_zero_cons,List.flatMap_cons,List.flatMap_cons,hf,List.append_assoc,List.append_assoc]
   exact List.Perm.append_left _ List.perm_append_comm
  |succ i=>
   rw [List.modify_succ_cons,List.flatMap_cons,List.flatMap_cons,List.append_assoc]
   exact List.Perm.append_left _ (ih (by simpa using hp))
theorem mem_modify {α:Type} {l:List α} {i:Nat} {p:α} {f:α→α} (hp:l[i]?=some p) {q:α} (h:q∈l.modify i f):q∈l∨q=f p:=by
 obtain⟨k,hk⟩:=List.getElem?_of_mem h
 rw [List.getElem?_modify] at hk
 by_cases e:i=k
 ·subst e
  rw [hp] at hk
  simp at hk
  exact .inr hk.symm
 ·simp [e] at hk
  exact .inl (List.mem_of_getElem? hk)
theorem OfI.step {rt n:Int} {l:List Int} {out:List PatP} (h:OfI L rt l out):OfI L rt (l++[n]) (ofStep L rt out n):=by
 unfold ofStep
 split
 ·refine⟨fun p hp=>?_,fun p hp=>?_,?_⟩
  ·rcases List.mem_append.1 hp with hp|hp
   ·exact h.rt p hp
   ·simp only [List.mem_singleton] at hp;subst hp;exact⟨rfl,by simp⟩
  ·rcases List.mem_append.1 hp with hp|hp
   ·exact h.ah p hp
   ·simp only [List.mem_singleton] at hp;subst hp;exact List.pairwise_singleton _ _
  ·rw [List.flatMap_append]
   exact List.Perm.append_right _ h.pm
 ·rename_i i hi
  obtain⟨p,hp,hpa⟩: ∃ p,out[i]?=some p∧aheadB (runAt L (p.runs.getLastD 0)) (runAt L n)=true:=by
   obtain⟨h1,h2,_⟩:=List.findIdx?_eq_some_iff_getElem.1 hi
   exact⟨out[i],List.getElem?_eq_getElem h1,h2⟩
  have hm:=List.mem_of_getElem? hp
  refine⟨fun q hq=>?_,fun q hq=>?_,(flat_modify (n:=n) hp rfl).trans (List.Perm.append_right _ h.pm)⟩
  ·rcases mem_modify hp hq with hq|rfl
   ·exact h.rt q hq
   ·exact⟨(h.rt p hm).1,by simp⟩
  ·rcases mem_modify hp hq with hq|rfl
   ·exact h.ah q hq
   ·show(p.runs++[n]).Pairwise _
    rw [List.pairwise_append]
    refine⟨h.ah p hm,List.pairwise_singleton _ _,fun a ha b hb=>?_⟩
    simp only [List.mem_singleton] at hb;subst hb
    have hne:=(h.rt p hm).2
    have hla:p.runs.getLastD 0=p.runs.getLast hne:=by rw [List.getLastD_eq_getLast?,List.getLast?_eq_some_getLast hne];rfl
    rw [hla] at hpa
    rcases List.mem_iff_getElem.1 ha with⟨k,hk,rfl⟩
    by_cases hkl:k=p.runs.length-1
    ·subst hkl;rw [←List.getLast_eq_getElem hne];exact hpa
    ·have:=List.pairwise_iff_getElem.1 (h.ah p hm) k (p.runs.length-1) hk (by omega) (by omega)
     rw [←List.getLast_eq_getElem hne] at this
     exact aheadB_tr this hpa
end
def rtOf (M:WorldP) (L:List RunP) (n:Int):Int:=((M.trips[(runAt L n).trip.toNat]?).map TripP.route).getD 0
def natI (k:Nat):List Int:=(List.range k).map Int.ofNat
theorem natI_mem {k:Nat} {n:Int}:n∈natI k↔0≤n∧n<k:=by
 unfold natI
 rw [List.mem_map]
 constructor
 ·rintro⟨a,ha,rfl⟩;have:=List.mem_range.1 ha;exact⟨Int.natCast_nonneg _,by show(a:Int)<k;omega⟩
 ·rintro⟨h1,h2⟩;exact⟨n.toNat,List.mem_range.2 (by omega),by show(n.toNat:Int)=n;omega⟩
structure FitL (M:WorldP) (L:List RunP):Prop where
 fit: ∀ r∈L,FitR M r
 rt: ∀ q∈M.trips,0≤q.route∧q.route<(M.routes.length:Int)
section
variable {M:WorldP} {L:List RunP}
theorem runAt_get {n:Int} (h:n∈natI L.length):L[n.toNat]?=some (runAt L n):=by
 obtain⟨h1,h2⟩:=natI_mem.1 h
 unfold runAt
 rw [List.getElem?_eq_getElem (by omega)];rfl
theorem FitL.at_ (h:FitL M L) {n:Int} (hn:n∈natI L.length):FitR M (runAt L n):=h.fit _ (List.mem_of_getElem? (runAt_get hn))
theorem FitL.route (h:FitL M L) {n:Int} (hn:n∈natI L.length): ∃ q r,0≤(runAt L n).trip ∧M.trips[(runAt L n).trip.toNat]?=some q∧q.route=rtOf M L n∧0≤q.route∧q.route<M.routes.length∧M.routes[q.route.toNat]?=some r∧r.stops=tripStops M (runAt L n).trip :=by
 have hp:=(h.at_ hn).pos
 obtain⟨s,hs⟩: ∃ s,tripStops M (runAt L n).trip =s:=⟨_,rfl⟩
 rw [hs] at hp ⊢
 unfold tripStops at hs
 split at hs
 ·subst hs;simp at hp
 ·split at hs
  ·subst hs;simp at hp
  ·rename_i q hq
   obtain⟨h1,h2⟩:=h.rt q (List.mem_of_getElem? hq)
   split at hs
   ·subst hs;simp at hp
   ·rename_i r hr
    exact⟨q,r,by omega,hq,by unfold rtOf;rw [hq];rfl,h1,h2,hr,hs⟩
theorem FitL.rtOf (h:FitL M L) {n:Int} (hn:n∈natI L.length):0≤rtOf M L n∧rtOf M L n<M.routes.length:=by
 obtain⟨q,r,_,_,e,h1,h2,_⟩:=h.route hn
 rw [←e];exact⟨h1,h2⟩
end
structure Told (L L':List RunP) (σ:Int→Int):Prop where
 len:L'.length=L.length
 at_: ∀ n∈natI L.length,σ n∈natI L.length∧runAt L' (σ n)=runAt L n
 pm:((natI L.length).map σ).Perm (natI L.length)
section
variable {M:WorldP} {L L':List RunP} {σ:Int→Int}
end
section
variable {L:List RunP} {P:List PatP} {rt n:Int}
end
end Go.Proofs.YtechdefolfboeaaGreatDoor
