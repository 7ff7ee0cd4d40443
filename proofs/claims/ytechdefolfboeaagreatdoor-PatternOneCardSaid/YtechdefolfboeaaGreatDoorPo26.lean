/- Merged. -/
import Derived.Test.YtechdefolfboeaaGreatDoorPo24
set_option linter.unusedVariables false
set_option linter.unusedSimpArgs false
namespace Go.Proofs.YtechdefolfboeaaGreatDoor
open Go.RowKit B K
structure PatP where
 rt:Int
 runs:List Int
deriving DecidableEq
instance:Inhabited PatP:=⟨⟨0,[]⟩⟩
def runAt (L:List RunP) (i:Int):RunP:=(L[i.toNat]?).getD default
def noneB:List Int→List Int→Bool
 |x::a,y::b=>decide (x≤y)&&noneB a b
 |_,_=>true
theorem noneB_iff {a b:List Int}:noneB a b=true↔ ∀ (i:Nat) x y,a[i]?=some x→b[i]?=some y→x≤y:=by
 induction a generalizing b with
 |nil=>simp [noneB]
 |cons x a ih=>
  cases b with
  |nil=>simp [noneB]
  |cons y b=>
   rw [noneB,Bool.and_eq_true,decide_eq_true_eq,ih];constructor
   ·rintro⟨h1,h2⟩ i x' y' hx hy
    cases i with
    |zero=>cases hx;cases hy;exact h1
    |succ i=>exact h2 i x' y' hx hy
   ·exact fun h=>⟨h 0 x y rfl rfl,fun i x' y' hx hy=>h (i+1) x' y' hx hy⟩
theorem noneB_tr {a b c:List Int} (hl:a.length=b.length) (h1:noneB a b=true) (h2:noneB b c=true):noneB a c=true:=by
 rw [noneB_iff] at*;intro i x z hx hz;have hi:i<b.length:=by rw [←hl];exact(List.getElem?_eq_some_iff.1 hx).1
 exact Int.le_trans (h1 i x b[i] hx (List.getElem?_eq_getElem hi)) (h2 i b[i] z (List.getElem?_eq_getElem hi) hz)
def aheadB (r s:RunP):Bool:=decide (r.arr.length=s.arr.length)&&(decide (r.dep.length=s.dep.length)&&(noneB r.arr s.arr&&noneB r.dep s.dep))
theorem aheadB_iff {r s:RunP}:aheadB r s=true↔r.arr.length=s.arr.length∧r.dep.length=s.dep.length∧noneB r.arr s.arr=true∧noneB r.dep s.dep=true:=by
 unfold aheadB;simp only [Bool.and_eq_true,decide_eq_true_eq]
theorem aheadB_tr {r s t:RunP} (h1:aheadB r s=true) (h2:aheadB s t=true):aheadB r t=true:=by
 rw [aheadB_iff] at*;exact⟨h1.1.trans h2.1,h1.2.1.trans h2.2.1,noneB_tr h1.1 h1.2.2.1 h2.2.2.1,noneB_tr h1.2.1 h1.2.2.2 h2.2.2.2⟩
def dep0 (r:RunP):Int:=(r.dep[0]?).getD 0
def ordR (L:List RunP) (a b:Int):Int:=or2 (cmpI (dep0 (runAt L a)) (dep0 (runAt L b))) (or2 (cmpI (runAt L a).trip (runAt L b).trip) (or2 (cmpI (runAt L a).no (runAt L b).no) (cmpI a b)))
def ltR (L:List RunP) (a b:Int):Bool:=decide (ordR L a b<0)
section
variable {L:List RunP}
theorem ltR_iff {a b:Int}:ltR L a b=true↔dep0 (runAt L a)<dep0 (runAt L b)∨dep0 (runAt L a)=dep0 (runAt L b)∧((runAt L a).trip <(runAt L b).trip ∨(runAt L a).trip =(runAt L b).trip ∧((runAt L a).no <(runAt L b).no ∨(runAt L a).no =(runAt L b).no ∧a<b)):=by
 unfold ltR ordR;rw [decide_eq_true_eq];simp only [or2_lt,cmpI_lt,cmpI_zero]
theorem ltR_irr (a:Int):ltR L a a=false:=by
 rw [Bool.eq_false_iff];intro h;rw [ltR_iff] at h;omega
theorem ltR_tr {a b c:Int} (h1:ltR L a b=true) (h2:ltR L b c=true):ltR L a c=true:=by
 rw [ltR_iff] at*;omega
theorem ltR_ntr {a b c:Int} (h1:ltR L a b=false) (h2:ltR L b c=false):ltR L a c=false:=by
 rw [Bool.eq_false_iff,ne_eq,ltR_iff] at*;omega
theorem ltR_asy {a b:Int} (h:ltR L a b=true):ltR L b a=false:=by
 rw [Bool.eq_false_iff,ne_eq];intro h2;have:=ltR_tr h h2;rw [ltR_irr] at this;cases this
theorem ltR_conn {a b:Int} (h1:ltR L a b=false) (h2:ltR L b a=false):a=b:=by
 rw [Bool.eq_false_iff,ne_eq,ltR_iff] at*;omega
def srtR (L:List RunP) (l:List Int):List Int:=l.mergeSort fun x y=> !ltR L y x
theorem srtR_perm (l:List Int):(srtR L l).Perm l:=List.mergeSort_perm _ _
theorem srtR_len (l:List Int):(srtR L l).length =l.length:=List.length_mergeSort ..
theorem srtR_sorted (l:List Int):(srtR L l).Pairwise fun a b=>ltR L b a=false:=by
 refine(List.pairwise_mergeSort (le:=fun x y=> !ltR L y x) (fun a b c h1 h2=>?_) (fun a b=>?_) l).imp fun {a b} h=>by simpa using h
 ·simp only [Bool.not_eq_true'] at*;exact ltR_ntr h2 h1
 ·cases h1:ltR L b a<;>cases h2:ltR L a b<;>simp [h1,h2];rw [ltR_asy h1] at h2;cases h2
theorem srtR_unique {l S:List Int} (hp:S.Perm l) (hs:S.Pairwise fun a b=>ltR L b a=false):S=srtR L l:=
 List.Perm.eq_of_pairwise (le:=fun a b=>ltR L b a=false) (fun a b ha hb h1 h2=>ltR_conn h2 h1) hs (srtR_sorted l) (hp.trans (srtR_perm l).symm)
def ofStep (L:List RunP) (rt:Int) (out:List PatP) (n:Int):List PatP:=
 match out.findIdx? (fun p=>aheadB (runAt L (p.runs.getLastD 0)) (runAt L n)) with
 |none=>out++[⟨rt,[n]⟩]
 |some i=>out.modify i fun p=>⟨p.rt,p.runs++[n]⟩
def ofL (L:List RunP) (rt:Int) (order:List Int):List PatP:=order.foldl (ofStep L rt) []
theorem ofL_snoc (rt:Int) (l:List Int) (n:Int):ofL L rt (l++[n])=ofStep L rt (ofL L rt l) n:=by unfold ofL;rw [List.foldl_append];rfl
structure OfI (L:List RunP) (rt:Int) (order:List Int) (out:List PatP):Prop where
 rt: ∀ p∈out,p.rt=rt∧p.runs≠[]
 ah: ∀ p∈out,p.runs.Pairwise fun a b=>aheadB (runAt L a) (runAt L b)=true
 pm:(out.flatMap PatP.runs).Perm order
theorem getLastD_mem {l:List Int} (h:l≠[]):l.getLastD 0∈l:=by
 rw [List.getLastD_eq_getLast?,List.getLast?_eq_some_getLast h];exact List.getLast_mem h
theorem flat_modify {l:List PatP} {i:Nat} {p:PatP} {f:PatP→PatP} {n:Int} (hp:l[i]?=some p) (hf:(f p).runs =p.runs++[n]):((l.modify i f).flatMap PatP.runs).Perm (l.flatMap PatP.runs++[n]):=by
 induction l generalizing i with
 |nil=>simp at hp
 |cons x l ih=>
  cases i with
  |zero=>
   simp at hp;subst hp;rw [List.modify_zero_cons,List.flatMap_cons,List.flatMap_cons,hf,List.append_assoc,List.append_assoc];exact List.Perm.append_left _ List.perm_append_comm
  |succ i=>
   rw [List.modify_succ_cons,List.flatMap_cons,List.flatMap_cons,List.append_assoc];exact List.Perm.append_left _ (ih (by simpa using hp))
theorem mem_modify {α:Type} {l:List α} {i:Nat} {p:α} {f:α→α} (hp:l[i]?=some p) {q:α} (h:q∈l.modify i f):q∈l∨q=f p:=by
 obtain⟨k,hk⟩:=List.getElem?_of_mem h;rw [List.getElem?_modify] at hk;by_cases e:i=k
 ·subst e;rw [hp] at hk;simp at hk;exact .inr hk.symm
 ·simp [e] at hk;exact .inl (List.mem_of_getElem? hk)
theorem OfI.step {rt n:Int} {l:List Int} {out:List PatP} (h:OfI L rt l out):OfI L rt (l++[n]) (ofStep L rt out n):=by
 unfold ofStep;split
 ·refine⟨fun p hp=>?_,fun p hp=>?_,?_⟩
  ·rcases List.mem_append.1 hp with hp|hp
   ·exact h.rt p hp
   ·simp only [List.mem_singleton] at hp;subst hp;exact⟨rfl,by simp⟩
  ·rcases List.mem_append.1 hp with hp|hp
   ·exact h.ah p hp
   ·simp only [List.mem_singleton] at hp;subst hp;exact List.pairwise_singleton _ _
  ·rw [List.flatMap_append];exact List.Perm.append_right _ h.pm
 ·rename_i i hi
  obtain⟨p,hp,hpa⟩: ∃ p,out[i]?=some p∧aheadB (runAt L (p.runs.getLastD 0)) (runAt L n)=true:=by
   obtain⟨h1,h2,_⟩:=List.findIdx?_eq_some_iff_getElem.1 hi;exact⟨out[i],List.getElem?_eq_getElem h1,h2⟩
  have hm:=List.mem_of_getElem? hp;refine⟨fun q hq=>?_,fun q hq=>?_,(flat_modify (n:=n) hp rfl).trans (List.Perm.append_right _ h.pm)⟩
  ·rcases mem_modify hp hq with hq|rfl
   ·exact h.rt q hq
   ·exact⟨(h.rt p hm).1,by simp⟩
  ·rcases mem_modify hp hq with hq|rfl
   ·exact h.ah q hq
   ·show(p.runs++[n]).Pairwise _;rw [List.pairwise_append];refine⟨h.ah p hm,List.pairwise_singleton _ _,fun a ha b hb=>?_⟩;simp only [List.mem_singleton] at hb;subst hb;have hne:=(h.rt p hm).2;have hla:p.runs.getLastD 0=p.runs.getLast hne:=by rw [List.getLastD_eq_getLast?,List.getLast?_eq_some_getLast hne];rfl
    rw [hla] at hpa;rcases List.mem_iff_getElem.1 ha with⟨k,hk,rfl⟩
    by_cases hkl:k=p.runs.length-1
    ·subst hkl;rw [←List.getLast_eq_getElem hne];exact hpa
    ·have:=List.pairwise_iff_getElem.1 (h.ah p hm) k (p.runs.length-1) hk (by omega) (by omega);rw [←List.getLast_eq_getElem hne] at this;exact aheadB_tr this hpa
theorem ofI (rt:Int) (l:List Int):OfI L rt l (ofL L rt l):=by
 have key: ∀ (k:Nat),k≤l.length→OfI L rt (l.take k) (ofL L rt (l.take k)):=by
  intro k
  induction k with
  |zero=>intro _;exact⟨fun p hp=>by simp [ofL] at hp,fun p hp=>by simp [ofL] at hp,.nil⟩
  |succ k ih=>
   intro hk;rw [List.take_succ_eq_append_getElem (by omega),ofL_snoc];exact(ih (by omega)).step
 have:=key l.length (Nat.le_refl _)
 rwa [List.take_length] at this
end
def rtOf (M:WorldP) (L:List RunP) (n:Int):Int:=((M.trips[(runAt L n).trip.toNat]?).map TripP.route).getD 0
def natI (k:Nat):List Int:=(List.range k).map Int.ofNat
def places (M:WorldP) (L:List RunP) (rt:Int):List Int:=(natI L.length).filter fun n=>decide (rtOf M L n=rt)
def makeAt (M:WorldP) (L:List RunP) (rt:Nat):List PatP:=ofL L rt (srtR L (places M L rt))
def makeP (M:WorldP) (L:List RunP):List PatP:=(List.range M.routes.length).flatMap (makeAt M L)
theorem natI_mem {k:Nat} {n:Int}:n∈natI k↔0≤n∧n<k:=by
 unfold natI;rw [List.mem_map];constructor
 ·rintro⟨a,ha,rfl⟩;have:=List.mem_range.1 ha;exact⟨Int.natCast_nonneg _,by show(a:Int)<k;omega⟩
 ·rintro⟨h1,h2⟩;exact⟨n.toNat,List.mem_range.2 (by omega),by show(n.toNat:Int)=n;omega⟩
theorem natI_nodup (k:Nat):(natI k).Nodup :=by
 unfold natI;rw [List.nodup_iff_pairwise_ne,List.pairwise_map];exact(List.nodup_iff_pairwise_ne.1 List.nodup_range).imp fun {a b} h e=>h (by exact Int.ofNat.inj e)
theorem flat_perm {α:Type} {f g:Nat→List α} {l:List Nat} (h: ∀ x∈l,(f x).Perm (g x)):(l.flatMap f).Perm (l.flatMap g):=by
 induction l with
 |nil=>exact .nil
 |cons x l ih=>
  rw [List.flatMap_cons,List.flatMap_cons];exact(h x (by simp)).append (ih fun y hy=>h y (by simp [hy]))
theorem parts_perm (f:Int→Int) (m:Nat) (l:List Int) (h: ∀ x∈l,0≤f x∧f x<m):((List.range m).flatMap fun(r:Nat)=>l.filter fun x=>decide (f x=(r:Int))).Perm l:=by
 induction l with
 |nil=>simp
 |cons x l ih=>
  obtain⟨h0,h1⟩:=h x (by simp);have ih:=ih fun y hy=>h y (by simp [hy]);refine List.Perm.trans ?_ (ih.cons x)
  have key: ∀ k,k≤m→((List.range k).flatMap fun(r:Nat)=>(x::l).filter fun x=>decide (f x=(r:Int))).Perm (if f x<k then x::(List.range k).flatMap fun(r:Nat)=>l.filter fun x=>decide (f x=(r:Int)) else(List.range k).flatMap fun(r:Nat)=>l.filter fun x=>decide (f x=(r:Int))):=by
   intro k
   induction k with
   |zero=>intro _;rw [if_neg (by omega)];exact .nil
   |succ k ik=>
    intro hk;rw [List.range_succ,List.flatMap_append,List.flatMap_append,List.flatMap_singleton,List.flatMap_singleton,List.filter_cons];by_cases hfk:f x=(k:Int)
    ·rw [if_pos (by simpa using hfk),if_pos (by omega)];have:=ik (by omega);rw [if_neg (by omega)] at this;refine(this.append_right _).trans ?_;exact List.perm_middle
    ·rw [if_neg (by simpa using hfk)];have:=ik (by omega);by_cases hlt:f x<(k:Int)
     ·rw [if_pos hlt] at this;rw [if_pos (by omega)];exact this.append_right _
     ·rw [if_neg hlt] at this;rw [if_neg (by omega)];exact this.append_right _
  have:=key m (Nat.le_refl _)
  rwa [if_pos h1] at this
structure FitL (M:WorldP) (L:List RunP):Prop where
 fit: ∀ r∈L,FitR M r
 rt: ∀ q∈M.trips,0≤q.route∧q.route<(M.routes.length:Int)
section
variable {M:WorldP} {L:List RunP}
theorem runAt_get {n:Int} (h:n∈natI L.length):L[n.toNat]?=some (runAt L n):=by
 obtain⟨h1,h2⟩:=natI_mem.1 h;unfold runAt;rw [List.getElem?_eq_getElem (by omega)];rfl
theorem runAt_nat {k:Nat} (h:k<L.length):L[k]?=some (runAt L k):=runAt_get (n:=(k:Int)) (natI_mem.2 ⟨by omega,by omega⟩)
theorem FitL.at_ (h:FitL M L) {n:Int} (hn:n∈natI L.length):FitR M (runAt L n):=h.fit _ (List.mem_of_getElem? (runAt_get hn))
theorem FitL.route (h:FitL M L) {n:Int} (hn:n∈natI L.length): ∃ q r,0≤(runAt L n).trip ∧M.trips[(runAt L n).trip.toNat]?=some q∧q.route=rtOf M L n∧0≤q.route∧q.route<M.routes.length∧M.routes[q.route.toNat]?=some r∧r.stops=tripStops M (runAt L n).trip :=by
 have hp:=(h.at_ hn).pos;obtain⟨s,hs⟩: ∃ s,tripStops M (runAt L n).trip =s:=⟨_,rfl⟩
 rw [hs] at hp ⊢;unfold tripStops at hs;split at hs
 ·subst hs;simp at hp
 ·split at hs
  ·subst hs;simp at hp
  ·rename_i q hq;obtain⟨h1,h2⟩:=h.rt q (List.mem_of_getElem? hq);split at hs
   ·subst hs;simp at hp
   ·rename_i r hr;exact⟨q,r,by omega,hq,by unfold rtOf;rw [hq];rfl,h1,h2,hr,hs⟩
theorem FitL.rtOf (h:FitL M L) {n:Int} (hn:n∈natI L.length):0≤rtOf M L n∧rtOf M L n<M.routes.length:=by
 obtain⟨q,r,_,_,e,h1,h2,_⟩:=h.route hn;rw [←e];exact⟨h1,h2⟩
theorem makeAt_I (rt:Nat):OfI L rt (srtR L (places M L rt)) (makeAt M L rt):=ofI _ _
theorem makeAt_perm (rt:Nat):((makeAt M L rt).flatMap PatP.runs).Perm (places M L rt):=(makeAt_I rt).pm.trans (srtR_perm _)
theorem makeP_perm (h:FitL M L):((makeP M L).flatMap PatP.runs).Perm (natI L.length):=by
 unfold makeP;rw [List.flatMap_assoc];exact(flat_perm fun x _=>makeAt_perm x).trans (parts_perm (rtOf M L) _ _ fun x hx=>h.rtOf hx)
theorem makeP_mem {p:PatP} (hp:p∈makeP M L): ∃ rt:Nat,rt<M.routes.length∧p∈makeAt M L rt∧p.rt=rt:=by
 unfold makeP at hp;obtain⟨rt,h1,h2⟩:=List.mem_flatMap.1 hp;exact⟨rt,List.mem_range.1 h1,h2,((makeAt_I rt).rt p h2).1⟩
theorem makeP_runs {p:PatP} (hp:p∈makeP M L):p.runs≠[]∧(p.runs.Pairwise fun a b=>aheadB (runAt L a) (runAt L b)=true)∧(∀ n∈p.runs,n∈natI L.length∧rtOf M L n=p.rt):=by
 obtain⟨rt,h1,h2,h3⟩:=makeP_mem hp;refine⟨((makeAt_I rt).rt p h2).2,(makeAt_I rt).ah p h2,fun n hn=>?_⟩;have:=(makeAt_perm rt).mem_iff.1 (List.mem_flatMap.2 ⟨p,h2,hn⟩);unfold places at this;obtain⟨h4,h5⟩:=List.mem_filter.1 this;exact⟨h4,by rw [h3];simpa using h5⟩
theorem flat_len {Q:List PatP} (h: ∀ p∈Q,p.runs≠[]):Q.length≤(Q.flatMap PatP.runs).length :=by
 induction Q with
 |nil=>simp
 |cons q Q ih=>
  rw [List.flatMap_cons,List.length_append,List.length_cons];have:=ih fun p hp=>h p (by simp [hp]);have:=List.length_pos_iff.2 (h q (by simp));omega
theorem makeP_len (h:FitL M L):(makeP M L).length ≤L.length:=by
 have:=flat_len fun p hp=>(makeP_runs (M:=M) (L:=L) hp).1;rw [(makeP_perm h).length_eq] at this;simpa [natI] using this
theorem pre_len (h:FitL M L) {j:Nat} (hj:j≤M.routes.length):((List.range j).flatMap (makeAt M L)).length ≤L.length:=by
 refine Nat.le_trans ?_ (makeP_len h);unfold makeP;rw [show M.routes.length=j+(M.routes.length-j) by omega,List.range_add,List.flatMap_append,List.length_append];omega
theorem pre_succ (j:Nat):(List.range (j+1)).flatMap (makeAt M L)=(List.range j).flatMap (makeAt M L)++makeAt M L j:=by
 rw [List.range_succ,List.flatMap_append,List.flatMap_singleton]
def inR (L:List RunP) (pos:Int) (n:Int):Bool:=decide (0≤n)&&(decide (n<L.length)&&(decide (0≤pos)&&decide (pos<(runAt L n).dep.length)))
def depAt (L:List RunP) (pos n:Int):Int:=((runAt L n).dep[pos.toNat]?).getD 0
def catchP (L:List RunP) (l:List Int) (pos t:Int):Nat:=if l.all (inR L pos) then l.findIdx (fun n=>decide (t≤depAt L pos n)) else l.length
theorem depAt_nat {pos:Nat} {n:Int} (h:pos<(runAt L n).dep.length):depAt L pos n=(runAt L n).dep[pos]:=by
 unfold depAt;rw [Int.toNat_natCast,List.getElem?_eq_getElem h];rfl
end
structure Told (L L':List RunP) (σ:Int→Int):Prop where
 len:L'.length=L.length
 at_: ∀ n∈natI L.length,σ n∈natI L.length∧runAt L' (σ n)=runAt L n
 pm:((natI L.length).map σ).Perm (natI L.length)
section
variable {M:WorldP} {L L':List RunP} {σ:Int→Int}
theorem places_in {rt:Int}: ∀ n∈places M L rt,n∈natI L.length:=fun n hn=>(List.mem_filter.1 hn).1
end
section
variable {L:List RunP} {P:List PatP} {rt n:Int}
def mayAt (L:List RunP) (P:List PatP) (n:Int) (i:Nat):Bool:=match P[i]? with
 |some p=>aheadB (runAt L (p.runs.getLastD 0)) (runAt L n)
 |none=>false
theorem mayAt_eq {i:Nat} {p:PatP} (h:P[i]?=some p):mayAt L P n i=aheadB (runAt L (p.runs.getLastD 0)) (runAt L n):=by unfold mayAt;rw [h]
theorem find_range {α:Type} (l:List α) (q:α→Bool) (p:Nat→Bool) (h: ∀ i x,l[i]?=some x→p i=q x):(idx p (List.range l.length)<0→l.findIdx? q=none)∧(0≤idx p (List.range l.length)→ ∃ j:Nat,j<l.length∧idx p (List.range l.length)=j∧l.findIdx? q=some j):=by
 unfold idx
 have hl:(List.range l.length).map p=l.map q:=by
  refine List.ext_getElem? fun i=>?_;rw [List.getElem?_map,List.getElem?_map];rcases Nat.lt_or_ge i l.length with hi|hi
  ·rw [List.getElem?_range hi,List.getElem?_eq_getElem hi];show some _=some _;rw [h i l[i] (List.getElem?_eq_getElem hi)]
  ·rw [List.getElem?_eq_none (by simpa using hi),List.getElem?_eq_none (by simpa using hi)];rfl
 have ha:(List.range l.length).any p=l.any q:=by
  have:=congrArg (fun m=>m.any id) hl;simpa [List.any_map] using this
 have hf:(List.range l.length).findIdx p=l.findIdx q:=by
  have:=congrArg (fun m=>m.findIdx id) hl;simpa [List.findIdx_map] using this
 rw [ha,hf];split
 ·rename_i hq;obtain⟨x,hx,hqx⟩:=List.any_eq_true.1 hq;have hlt:l.findIdx q<l.length:=List.findIdx_lt_length_of_exists ⟨x,hx,hqx⟩;refine⟨fun h=>by omega,fun _=>⟨_,hlt,rfl,?_⟩⟩;rw [List.findIdx?_eq_some_iff_findIdx_eq];exact⟨hlt,rfl⟩
 ·rename_i hq;refine⟨fun _=>?_,fun h=>by omega⟩;rw [List.findIdx?_eq_none_iff];intro x hx
  cases hqx:q x with
  |false=>rfl
  |true=>exact absurd (List.any_eq_true.2 ⟨x,hx,hqx⟩) hq
theorem ofStep_no (h:idx (mayAt L P n) (List.range P.length)<0):ofStep L rt P n=P++[⟨rt,[n]⟩]:=by
 unfold ofStep;rw [(find_range P _ (mayAt L P n) fun i x hx=>mayAt_eq hx).1 h]
theorem ofStep_yes (h:0≤idx (mayAt L P n) (List.range P.length)): ∃ j p,idx (mayAt L P n) (List.range P.length)=((j:Nat):Int)∧P[j]?=some p∧ofStep L rt P n=P.modify j fun p=>⟨p.rt,p.runs++[n]⟩:=by
 obtain⟨j,hj,he,hf⟩:=(find_range P _ (mayAt L P n) fun i x hx=>mayAt_eq hx).2 h;refine⟨j,_,he,List.getElem?_eq_getElem hj,?_⟩;unfold ofStep;rw [hf]
theorem modify_new:(P++[(⟨rt,[]⟩:PatP)]).modify P.length (fun p=>⟨p.rt,p.runs++[n]⟩)=P++[⟨rt,[n]⟩]:=by
 induction P with
 |nil=>rfl
 |cons p P ih=>rw [List.cons_append,List.length_cons,List.modify_succ_cons,ih];rfl
theorem ofL_facts {l:List Int} (hl: ∀ n∈l,n∈natI L.length):(∀ p∈ofL L rt l,p.runs≠[]∧p.runs.getLastD 0∈natI L.length∧p.runs.length≤l.length)∧(ofL L rt l).length ≤l.length:=by
 have hI:=ofI (L:=L) rt l;have hlen:=hI.pm.length_eq;refine⟨fun p hp=>⟨(hI.rt p hp).2,hl _ (hI.pm.mem_iff.1 (List.mem_flatMap.2 ⟨p,hp,getLastD_mem (hI.rt p hp).2⟩)),?_⟩,?_⟩
 ·rw [←hlen];obtain⟨s,t,hst⟩:=List.append_of_mem hp;rw [hst,List.flatMap_append,List.flatMap_cons,List.length_append,List.length_append];omega
 ·rw [←hlen]
  have: ∀ (Q:List PatP),(∀ p∈Q,p.runs≠[])→Q.length≤(Q.flatMap PatP.runs).length :=by
   intro Q
   induction Q with
   |nil=>intro _;simp
   |cons q Q ih=>
    intro h;rw [List.flatMap_cons,List.length_append,List.length_cons];have:=ih fun p hp=>h p (by simp [hp]);have:=List.length_pos_iff.2 (h q (by simp));omega
  exact this _ fun p hp=>(hI.rt p hp).2
end
