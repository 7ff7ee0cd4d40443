/- Merged. -/
import Derived.Test.YtechdefolfboeaaGreatDoorPd23
set_option linter.unusedVariables false
set_option linter.unusedSimpArgs false
namespace Go.Proofs.YtechdefolfboeaaGreatDoor
open Go.RowKit B K
structure aC_ where
 (dep arr fr to_ run pos:Int)
instance:Inhabited aC_:=⟨⟨0,0,0,0,0,0⟩⟩
theorem aC_.ext' {a b:aC_} (h1:a.dep=b.dep) (h2:a.arr=b.arr) (h3:a.fr=b.fr) (h4:a.to_=b.to_) (h5:a.run=b.run) (h6:a.pos=b.pos):a=b:=by
 cases a;cases b;cases h1;cases h2;cases h3;cases h4;cases h5;cases h6;rfl
def bt_ (c:aC_):List Value:=[.int .i64 c.dep,.int .i64 c.arr,.int .i64 c.fr,.int .i64 c.to_,.int .i64 c.run,.int .i64 c.pos]
theorem cw_ (c:aC_):(bt_ c).length =6:=rfl
theorem fA_ (c:aC_): ∀ u∈bt_ c,u.oneCell'=true:=fun u f=>by simp [bt_] at f;rcases f with rfl|rfl|rfl|rfl|rfl|rfl<;>rfl
namespace K
def cmpI (x y:Int):Int:=if x<y then-1 else if y<x then 1 else 0
def or2 (a b:Int):Int:=if a≠0 then a else b
theorem kg_ {x y:Int}:cmpI x y<0↔x<y:=by unfold cmpI;split<;>(try split)<;>omega
theorem hO_ {x y:Int}:cmpI x y=0↔x=y:=by unfold cmpI;split<;>(try split)<;>omega
theorem mF_ {a b:Int}:or2 a b<0↔a<0∨a=0/\b<0:=by unfold or2;split<;>omega
theorem i4_ (a:Int):or2 a 0=a:=by unfold or2;split<;>omega
end K
def ordC (a b:aC_):Int:=or2 (cmpI a.dep b.dep) (or2 (cmpI a.arr b.arr) (or2 (cmpI a.run b.run) (cmpI a.pos b.pos)))
def ltC (a b:aC_):Bool:=decide (ordC a b<0)
theorem eW_ {a b:aC_}:ltC a b=true↔a.dep<b.dep∨a.dep=b.dep/\(a.arr<b.arr∨a.arr=b.arr/\(a.run<b.run∨a.run=b.run/\a.pos<b.pos)):=by
 unfold ltC ordC;rw [decide_eq_true_eq];simp only [mF_,kg_,hO_]
theorem kl_ (a:aC_):ltC a a=false:=by
 rw [Bool.eq_false_iff];intro h;rw [eW_] at h;omega
theorem mr_ {a b c:aC_} (h1:ltC a b=true) (h2:ltC b c=true):ltC a c=true:=by
 rw [eW_] at*;omega
theorem km_ {a b c:aC_} (h1:ltC a b=false) (h2:ltC b c=false):ltC a c=false:=by
 rw [Bool.eq_false_iff,ne_eq,eW_] at*;omega
theorem oR_ {a b:aC_} (h:ltC a b=true):ltC b a=false:=by
 rw [Bool.eq_false_iff,ne_eq];intro f;have:=mr_ h f;rw [kl_] at this;cases this
def gH_ (a b:aC_):Prop:=a.run≠b.run∨a.pos≠b.pos
theorem gH_.conn {a b:aC_} (h:gH_ a b):ltC a b=true∨ltC b a=true:=by
 unfold gH_ at h;rw [eW_,eW_];omega
def srtC (l:List aC_):List aC_:=l.mergeSort fun x y=> !ltC y x
theorem fU_ (l:List aC_):(srtC l).Perm l:=List.mergeSort_perm _ _
theorem j7_ (l:List aC_):(srtC l).Pairwise fun a b=>ltC b a=false:=by
 refine(List.pairwise_mergeSort (le:=fun x y=> !ltC y x) (fun a b c g f=>?_) (fun a b=>?_) l).imp fun {a b} h=>by simpa using h
 ·simp only [Bool.not_eq_true'] at*;exact km_ f g
 ·cases g:ltC b a<;>cases f:ltC a b<;>simp [g,f];rw [oR_ g] at f;cases f
theorem j8_ {l S:List aC_} (hl: ∀ a∈l, ∀ b∈l,ltC a b=false ->ltC b a=false ->a=b) (hp:S.Perm l) (hs:S.Pairwise fun a b=>ltC b a=false):S=srtC l:=
 List.Perm.eq_of_pairwise (le:=fun a b=>ltC b a=false) (fun a b j n f g=>hl a (hp.mem_iff.1 j) b ((fU_ l).mem_iff.1 n) g f) hs (j7_ l) (hp.trans (fU_ l).symm)
def d2_ (s arr dep:List Int) (n p:Nat):aC_:=⟨(dep[p]?).getD 0,(arr[p+1]?).getD 0,(s[p]?).getD 0,(s[p+1]?).getD 0,n,p⟩
def ck_ (s arr dep:List Int) (n:Nat):List aC_:=(List.range (s.length-1)).map (d2_ s arr dep n)
def dz_ (M:ab_) (L:List RunP) (n:Nat):List aC_:=match L[n]? with
 |some r=>ck_ (ak_ M r.trip) r.arr r.dep n
 |none=>[]
def cp_ (M:ab_) (L:List RunP):List aC_:=(List.range L.length).flatMap (dz_ M L)
def bH_ (M:ab_) (r:RunP):Bool:=aK_ M r.trip r.arr r.dep
def eF_ (M:ab_) (L:List RunP):List aC_:=srtC (cp_ M L)
theorem go_ {s arr dep:List Int} {n:Nat} {c:aC_}:c∈ck_ s arr dep n↔ ∃ p,p+1<s.length/\c=d2_ s arr dep n p:=by
 unfold ck_;rw [List.mem_map];constructor
 ·rintro⟨p,f,rfl⟩;exact⟨p,by have:=List.mem_range.1 f;omega,rfl⟩
 ·rintro⟨p,f,rfl⟩;exact⟨p,List.mem_range.2 (by omega),rfl⟩
theorem ha_ {M:ab_} {L:List RunP} {c:aC_}:c∈cp_ M L↔ ∃ n r p,L[n]?=some r/\p+1<(ak_ M r.trip).length /\c=d2_ (ak_ M r.trip) r.arr r.dep n p:=by
 unfold cp_;rw [List.mem_flatMap];constructor
 ·rintro⟨n,hn,f⟩;unfold dz_ at f;split at f
  ·rename_i r g;obtain⟨p,j,rfl⟩:=go_.1 f;exact⟨n,r,p,g,j,rfl⟩
  ·cases f
 ·rintro⟨n,r,p,g,j,rfl⟩;refine⟨n,List.mem_range.2 (List.getElem?_eq_some_iff.1 g).1,?_⟩;unfold dz_;rw [g];exact go_.2 ⟨p,j,rfl⟩
theorem jj_ {M:ab_} {L:List RunP} {a b:aC_} (ha:a∈cp_ M L) (hb:b∈cp_ M L) (h1:ltC a b=false) (h2:ltC b a=false):a=b:=by
 obtain⟨n,r,p,y,hp,rfl⟩:=ha_.1 ha;obtain⟨j,g,q,f,aA,rfl⟩:=ha_.1 hb
 have h: ¬ gH_ (d2_ (ak_ M r.trip) r.arr r.dep n p) (d2_ (ak_ M g.trip) g.arr g.dep j q):=fun h=>by
  rcases h.conn with h|h
  ·rw [h] at h1;cases h1
  ·rw [h] at h2;cases h2
 unfold gH_ d2_ at h;simp only [ne_eq,not_or,Decidable.not_not] at h;obtain⟨e1,e2⟩:=h;obtain rfl:n=j:=by omega
 obtain rfl:p=q:=by omega
 rw [y] at f;cases f;rfl
theorem iV_ {M:ab_} {L:List RunP} {S:List aC_} (hp:S.Perm (cp_ M L)) (hs:S.Pairwise fun a b=>ltC b a=false):S=eF_ M L:=
 j8_ (fun a j b n f g=>jj_ j n f g) hp hs
theorem kV_ (M:ab_) (L:List RunP):(eF_ M L).Perm (cp_ M L):=fU_ _
structure FitR (M:ab_) (r:RunP):Prop where
 pos:0<(ak_ M r.trip).length
 la:r.arr.length=(ak_ M r.trip).length
 ld:r.dep.length=(ak_ M r.trip).length
 e0:r.arr[0]?=r.dep[0]?
 e1:r.arr[(ak_ M r.trip).length -1]?=r.dep[(ak_ M r.trip).length -1]?
 tick: ∀ (i:Nat) a d,r.arr[i]?=some a ->r.dep[i]?=some d ->0<=a/\a<=d/\d<=M.hz
 rise: ∀ (i:Nat) a p,r.arr[i+1]?=some a ->r.dep[i]?=some p ->p<a
theorem kj_ {M:ab_} {r:RunP} (h:bH_ M r=true):FitR M r:=by
 unfold bH_ aK_ at h;simp only [Bool.and_eq_true,decide_eq_true_eq] at h;obtain⟨h0,q,y,z,D,F⟩:=h;have f: ∀ i,i<(ak_ M r.trip).length ->legB M.hz r.arr r.dep i=true:=fun i n=>List.all_eq_true.1 F i (List.mem_range.2 n);refine⟨by omega,q,y,z,D,fun i a d g j=>?_,fun i a p g G=>?_⟩
 ·have n:=(List.getElem?_eq_some_iff.1 g).1;have:=f i (by omega);unfold legB at this;rw [g,j] at this;simp only [Bool.and_eq_true,decide_eq_true_eq] at this;exact⟨(W.chk_zero this.1).1,this.2.2.1,this.2.1⟩
 ·have n:=(List.getElem?_eq_some_iff.1 g).1;have:=f (i+1) (by omega);obtain⟨d,j⟩: ∃ d,r.dep[i+1]?=some d:=⟨_,List.getElem?_eq_getElem (by omega)⟩
  unfold legB at this;rw [g,j,Nat.add_sub_cancel,G] at this;simp only [Bool.and_eq_true,decide_eq_true_eq,Bool.or_eq_true] at this;rcases this.2.2.2 with h|h
  ·omega
  ·exact h
section
variable {M:ab_} {L:List RunP} {r:RunP}
theorem gn_ (s arr dep:List Int) (n:Nat):(ck_ s arr dep n).length =s.length-1:=by unfold ck_;simp
theorem hb_ {s arr dep:List Int} {n p:Nat} (hp:p+1<s.length):(ck_ s arr dep n)[p]?=some (d2_ s arr dep n p):=by
 unfold ck_;rw [List.getElem?_map,List.getElem?_range (by omega)];rfl
end
