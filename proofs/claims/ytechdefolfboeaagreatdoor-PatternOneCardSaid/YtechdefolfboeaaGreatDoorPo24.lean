/- Merged. -/
import Derived.Test.YtechdefolfboeaaGreatDoorPo23
set_option linter.unusedVariables false
set_option linter.unusedSimpArgs false
namespace Go.Proofs.YtechdefolfboeaaGreatDoor
open Go.RowKit B K
structure ConnP where
 (dep arr fr to_ run pos:Int)
instance:Inhabited ConnP:=⟨⟨0,0,0,0,0,0⟩⟩
theorem ConnP.ext' {a b:ConnP} (h1:a.dep=b.dep) (h2:a.arr=b.arr) (h3:a.fr=b.fr) (h4:a.to_=b.to_) (h5:a.run=b.run) (h6:a.pos=b.pos):a=b:=by
 cases a;cases b;cases h1;cases h2;cases h3;cases h4;cases h5;cases h6;rfl
def connE (c:ConnP):List Value:=[.int .i64 c.dep,.int .i64 c.arr,.int .i64 c.fr,.int .i64 c.to_,.int .i64 c.run,.int .i64 c.pos]
theorem connE_len (c:ConnP):(connE c).length =6:=rfl
theorem connE_one (c:ConnP): ∀ u∈connE c,u.oneCell'=true:=fun u hu=>by simp [connE] at hu;rcases hu with rfl|rfl|rfl|rfl|rfl|rfl<;>rfl
namespace K
def cmpI (x y:Int):Int:=if x<y then-1 else if y<x then 1 else 0
def or2 (a b:Int):Int:=if a≠0 then a else b
theorem cmpI_lt {x y:Int}:cmpI x y<0↔x<y:=by unfold cmpI;split<;>(try split)<;>omega
theorem cmpI_zero {x y:Int}:cmpI x y=0↔x=y:=by unfold cmpI;split<;>(try split)<;>omega
theorem or2_lt {a b:Int}:or2 a b<0↔a<0∨a=0∧b<0:=by unfold or2;split<;>omega
theorem or2_zero (a:Int):or2 a 0=a:=by unfold or2;split<;>omega
end K
def ordC (a b:ConnP):Int:=or2 (cmpI a.dep b.dep) (or2 (cmpI a.arr b.arr) (or2 (cmpI a.run b.run) (cmpI a.pos b.pos)))
def ltC (a b:ConnP):Bool:=decide (ordC a b<0)
theorem ltC_iff {a b:ConnP}:ltC a b=true↔a.dep<b.dep∨a.dep=b.dep∧(a.arr<b.arr∨a.arr=b.arr∧(a.run<b.run∨a.run=b.run∧a.pos<b.pos)):=by
 unfold ltC ordC;rw [decide_eq_true_eq];simp only [or2_lt,cmpI_lt,cmpI_zero]
theorem ltC_irr (a:ConnP):ltC a a=false:=by
 rw [Bool.eq_false_iff];intro h;rw [ltC_iff] at h;omega
theorem ltC_tr {a b c:ConnP} (h1:ltC a b=true) (h2:ltC b c=true):ltC a c=true:=by
 rw [ltC_iff] at*;omega
theorem ltC_ntr {a b c:ConnP} (h1:ltC a b=false) (h2:ltC b c=false):ltC a c=false:=by
 rw [Bool.eq_false_iff,ne_eq,ltC_iff] at*;omega
theorem ltC_asy {a b:ConnP} (h:ltC a b=true):ltC b a=false:=by
 rw [Bool.eq_false_iff,ne_eq];intro h2;have:=ltC_tr h h2;rw [ltC_irr] at this;cases this
def Apart (a b:ConnP):Prop:=a.run≠b.run∨a.pos≠b.pos
theorem Apart.conn {a b:ConnP} (h:Apart a b):ltC a b=true∨ltC b a=true:=by
 unfold Apart at h;rw [ltC_iff,ltC_iff];omega
def srtC (l:List ConnP):List ConnP:=l.mergeSort fun x y=> !ltC y x
theorem srtC_perm (l:List ConnP):(srtC l).Perm l:=List.mergeSort_perm _ _
theorem srtC_sorted (l:List ConnP):(srtC l).Pairwise fun a b=>ltC b a=false:=by
 refine(List.pairwise_mergeSort (le:=fun x y=> !ltC y x) (fun a b c h1 h2=>?_) (fun a b=>?_) l).imp fun {a b} h=>by simpa using h
 ·simp only [Bool.not_eq_true'] at*;exact ltC_ntr h2 h1
 ·cases h1:ltC b a<;>cases h2:ltC a b<;>simp [h1,h2];rw [ltC_asy h1] at h2;cases h2
theorem srtC_unique {l S:List ConnP} (hl: ∀ a∈l, ∀ b∈l,ltC a b=false→ltC b a=false→a=b) (hp:S.Perm l) (hs:S.Pairwise fun a b=>ltC b a=false):S=srtC l:=
 List.Perm.eq_of_pairwise (le:=fun a b=>ltC b a=false) (fun a b ha hb h1 h2=>hl a (hp.mem_iff.1 ha) b ((srtC_perm l).mem_iff.1 hb) h2 h1) hs (srtC_sorted l) (hp.trans (srtC_perm l).symm)
def rideC (s arr dep:List Int) (n p:Nat):ConnP:=⟨(dep[p]?).getD 0,(arr[p+1]?).getD 0,(s[p]?).getD 0,(s[p+1]?).getD 0,n,p⟩
def ridesOf (s arr dep:List Int) (n:Nat):List ConnP:=(List.range (s.length-1)).map (rideC s arr dep n)
def ridesAt (M:WorldP) (L:List RunP) (n:Nat):List ConnP:=match L[n]? with
 |some r=>ridesOf (tripStops M r.trip) r.arr r.dep n
 |none=>[]
def ridesL (M:WorldP) (L:List RunP):List ConnP:=(List.range L.length).flatMap (ridesAt M L)
def fitsR (M:WorldP) (r:RunP):Bool:=fitsB M r.trip r.arr r.dep
def makeC (M:WorldP) (L:List RunP):List ConnP:=srtC (ridesL M L)
theorem ridesOf_mem {s arr dep:List Int} {n:Nat} {c:ConnP}:c∈ridesOf s arr dep n↔ ∃ p,p+1<s.length∧c=rideC s arr dep n p:=by
 unfold ridesOf;rw [List.mem_map];constructor
 ·rintro⟨p,hp,rfl⟩;exact⟨p,by have:=List.mem_range.1 hp;omega,rfl⟩
 ·rintro⟨p,hp,rfl⟩;exact⟨p,List.mem_range.2 (by omega),rfl⟩
theorem ridesL_mem {M:WorldP} {L:List RunP} {c:ConnP}:c∈ridesL M L↔ ∃ n r p,L[n]?=some r∧p+1<(tripStops M r.trip).length ∧c=rideC (tripStops M r.trip) r.arr r.dep n p:=by
 unfold ridesL;rw [List.mem_flatMap];constructor
 ·rintro⟨n,hn,hc⟩;unfold ridesAt at hc;split at hc
  ·rename_i r hr;obtain⟨p,hp,rfl⟩:=ridesOf_mem.1 hc;exact⟨n,r,p,hr,hp,rfl⟩
  ·cases hc
 ·rintro⟨n,r,p,hr,hp,rfl⟩;refine⟨n,List.mem_range.2 (List.getElem?_eq_some_iff.1 hr).1,?_⟩;unfold ridesAt;rw [hr];exact ridesOf_mem.2 ⟨p,hp,rfl⟩
theorem ridesL_apart {M:WorldP} {L:List RunP} {a b:ConnP} (ha:a∈ridesL M L) (hb:b∈ridesL M L) (h1:ltC a b=false) (h2:ltC b a=false):a=b:=by
 obtain⟨n,r,p,hr,hp,rfl⟩:=ridesL_mem.1 ha;obtain⟨n',r',p',hr',hp',rfl⟩:=ridesL_mem.1 hb
 have h: ¬ Apart (rideC (tripStops M r.trip) r.arr r.dep n p) (rideC (tripStops M r'.trip) r'.arr r'.dep n' p'):=fun h=>by
  rcases h.conn with h|h
  ·rw [h] at h1;cases h1
  ·rw [h] at h2;cases h2
 unfold Apart rideC at h;simp only [ne_eq,not_or,Decidable.not_not] at h;obtain⟨e1,e2⟩:=h;obtain rfl:n=n':=by omega
 obtain rfl:p=p':=by omega
 rw [hr] at hr';cases hr';rfl
theorem makeC_unique {M:WorldP} {L:List RunP} {S:List ConnP} (hp:S.Perm (ridesL M L)) (hs:S.Pairwise fun a b=>ltC b a=false):S=makeC M L:=
 srtC_unique (fun a ha b hb h1 h2=>ridesL_apart ha hb h1 h2) hp hs
theorem makeC_perm (M:WorldP) (L:List RunP):(makeC M L).Perm (ridesL M L):=srtC_perm _
structure FitR (M:WorldP) (r:RunP):Prop where
 pos:0<(tripStops M r.trip).length
 la:r.arr.length=(tripStops M r.trip).length
 ld:r.dep.length=(tripStops M r.trip).length
 e0:r.arr[0]?=r.dep[0]?
 e1:r.arr[(tripStops M r.trip).length -1]?=r.dep[(tripStops M r.trip).length -1]?
 tick: ∀ (i:Nat) a d,r.arr[i]?=some a→r.dep[i]?=some d→0≤a∧a≤d∧d≤M.hz
 rise: ∀ (i:Nat) a p,r.arr[i+1]?=some a→r.dep[i]?=some p→p<a
theorem fitR_of {M:WorldP} {r:RunP} (h:fitsR M r=true):FitR M r:=by
 unfold fitsR fitsB at h;simp only [Bool.and_eq_true,decide_eq_true_eq] at h;obtain⟨h0,h1,h2,h3,h4,h5⟩:=h;have hall: ∀ i,i<(tripStops M r.trip).length →legB M.hz r.arr r.dep i=true:=fun i hi=>List.all_eq_true.1 h5 i (List.mem_range.2 hi);refine⟨by omega,h1,h2,h3,h4,fun i a d ha hd=>?_,fun i a p ha hp=>?_⟩
 ·have hi:=(List.getElem?_eq_some_iff.1 ha).1;have:=hall i (by omega);unfold legB at this;rw [ha,hd] at this;simp only [Bool.and_eq_true,decide_eq_true_eq] at this;exact⟨(W.chk_zero this.1).1,this.2.2.1,this.2.1⟩
 ·have hi:=(List.getElem?_eq_some_iff.1 ha).1;have:=hall (i+1) (by omega);obtain⟨d,hd⟩: ∃ d,r.dep[i+1]?=some d:=⟨_,List.getElem?_eq_getElem (by omega)⟩
  unfold legB at this;rw [ha,hd,Nat.add_sub_cancel,hp] at this;simp only [Bool.and_eq_true,decide_eq_true_eq,Bool.or_eq_true] at this;rcases this.2.2.2 with h|h
  ·omega
  ·exact h
section
variable {M:WorldP} {L:List RunP} {r:RunP}
theorem FitR.ride (h:FitR M r) {n p:Nat} (hp:p+1<(tripStops M r.trip).length): ∃ d a f t,r.dep[p]?=some d∧r.arr[p+1]?=some a∧(tripStops M r.trip)[p]?=some f∧(tripStops M r.trip)[p+1]?=some t∧d<a∧rideC (tripStops M r.trip) r.arr r.dep n p=⟨d,a,f,t,n,p⟩:=by
 obtain⟨d,hd⟩: ∃ d,r.dep[p]?=some d:=⟨_,List.getElem?_eq_getElem (by rw [h.ld];omega)⟩
 obtain⟨a,ha⟩: ∃ a,r.arr[p+1]?=some a:=⟨_,List.getElem?_eq_getElem (by rw [h.la];omega)⟩
 obtain⟨f,hf⟩: ∃ f,(tripStops M r.trip)[p]?=some f:=⟨_,List.getElem?_eq_getElem (by omega)⟩
 obtain⟨t,ht⟩: ∃ t,(tripStops M r.trip)[p+1]?=some t:=⟨_,List.getElem?_eq_getElem (by omega)⟩
 exact⟨d,a,f,t,hd,ha,hf,ht,h.rise p a d ha hd,by unfold rideC;rw [hd,ha,hf,ht];rfl⟩
theorem FitR.next (h:FitR M r) {n p:Nat} (hp:p+2<(tripStops M r.trip).length):(rideC (tripStops M r.trip) r.arr r.dep n p).arr ≤(rideC (tripStops M r.trip) r.arr r.dep n (p+1)).dep :=by
 obtain⟨d,a,f,t,hd,ha,_,_,_,e⟩:=h.ride (n:=n) (p:=p) (by omega);obtain⟨d',a',f',t',hd',ha',_,_,_,e'⟩:=h.ride (n:=n) (p:=p+1) (by omega);rw [e,e'];exact(h.tick (p+1) a d' ha hd').2.1
theorem ridesOf_len (s arr dep:List Int) (n:Nat):(ridesOf s arr dep n).length =s.length-1:=by unfold ridesOf;simp
theorem ridesOf_at {s arr dep:List Int} {n p:Nat} (hp:p+1<s.length):(ridesOf s arr dep n)[p]?=some (rideC s arr dep n p):=by
 unfold ridesOf;rw [List.getElem?_map,List.getElem?_range (by omega)];rfl
theorem FitR.sorted (h:FitR M r) (n:Nat):(ridesOf (tripStops M r.trip) r.arr r.dep n).Pairwise fun a b=>ltC b a=false:=by
 have key: ∀ q,q+1<(tripStops M r.trip).length → ∀ p,p<q→(rideC (tripStops M r.trip) r.arr r.dep n p).dep <(rideC (tripStops M r.trip) r.arr r.dep n q).dep :=by
  intro q
  induction q with
  |zero=>intro _ p hp;omega
  |succ q ih=>
   intro hq p hp;have h1:=h.next (n:=n) (p:=q) (by omega)
   obtain⟨d,a,f,t,_,_,_,_,hlt,e⟩:=h.ride (n:=n) (p:=q) (by omega);rw [e] at h1;have h2:(rideC (tripStops M r.trip) r.arr r.dep n q).dep =d:=by rw [e]
   rcases Nat.lt_or_ge p q with h3|h3
   ·have:=ih (by omega) p h3;simp only at h1;omega
   ·obtain rfl:p=q:=by omega
    simp only at h1;omega
 unfold ridesOf;rw [List.pairwise_map];refine List.Pairwise.imp_of_mem (fun {a b} ha hb hab=>?_) (List.pairwise_lt_range (n:=_));have hb:=List.mem_range.1 hb;have:=key b (by omega) a hab;rw [Bool.eq_false_iff,ne_eq,ltC_iff];omega
end
end Go.Proofs.YtechdefolfboeaaGreatDoor
