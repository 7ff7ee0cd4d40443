/- Merged. -/
import Derived.Test.YtechdefolfboeaaGreatDoorPo6
set_option linter.unusedVariables false
set_option linter.unusedSimpArgs false
namespace Go.Proofs.YtechdefolfboeaaGreatDoor
open Go.RowKit B
def letB (c:Int):Bool:=decide (97≤c)&&decide (c≤122)
def digB (c:Int):Bool:=decide (48≤c)&&decide (c≤57)
def moreB (c:Int):Bool:=letB c||(digB c||(decide (c=45)||decide (c=95)))
def wordB (s:Str):Bool:=decide (s.size≠0)&&(decide (s.size≤24)&&((match s.data.toList with|[]=>false|b::_=>letB (b.toNat:Int))&&s.data.toList.all fun b=>moreB (b.toNat:Int)))
theorem str_at (s:Str) (k:Nat) (h:k<s.size):s.data.toList[k]?=some s[k]:=by
 have:k<s.data.toList.length:=by simpa using h
 rw [List.getElem?_eq_getElem this];rfl
theorem wordB_go {s:Str} (h0:s.size≠0) (h1:s.size≤24):wordB s=(letB ((s[0]'(by omega)).toNat :Int)&&s.data.toList.all fun b=>moreB (b.toNat:Int)):=by
 have hat:=str_at s 0 (by omega);unfold wordB;rw [T_ h0,T_ h1]
 cases hl:s.data.toList with
 |nil=>rw [hl] at hat;cases hat
 |cons b t=>rw [hl] at hat;cases hat;rfl
def resv:List Str:=[⟨#[104,111,114,105,122,111,110]⟩,⟨#[115,116,111,112]⟩,⟨#[112,97,116,104]⟩,⟨#[100,111,111,114]⟩,⟨#[114,111,117,116,101]⟩,⟨#[116,114,105,112]⟩,⟨#[104,97,122,97,114,100]⟩,⟨#[102,114,111,109]⟩,⟨#[101,118,101,114,121]⟩,⟨#[111,112,101,110]⟩,⟨#[99,108,111,115,101,100]⟩,⟨#[111,102]⟩,⟨#[111,110]⟩,⟨#[117,110,116,105,108]⟩,⟨#[115,116,97,121]⟩]
def resB (s:Str):Bool:=resv.any fun x=>sq x s
def nameB (s:Str):Bool:=wordB s&& !resB s
def wayE (a b n:Int):Int:=if a<0∨b<0 then 5 else if a=b∨n<1 then 2 else 0
theorem wayE_iff {a b n:Int}:wayE a b n=0↔wayB a b n=true:=by
 unfold wayE wayB;simp only [Bool.and_eq_true,decide_eq_true_eq];split
 ·constructor
  ·intro h;omega
  ·intro h;omega
 ·split
  ·constructor
   ·intro h;omega
   ·intro h;omega
  ·constructor
   ·intro h;omega
   ·intro h;rfl
def timesE (f v n h:Int):Int:=(winsM f v n h).2
theorem timesE_iff {f v n h:Int}:timesE f v n h=0↔timesB f v n h=true:=by
 unfold timesE winsM timesB;simp only [Bool.and_eq_true,decide_eq_true_eq];split
 ·rename_i h1;constructor
  ·intro h;exact absurd h h1
  ·intro h;exact h.1
 ·rename_i h1;have h1:=Classical.not_not.1 h1;split
  ·rename_i h2;constructor
   ·intro h;exact absurd h h2
   ·intro h;exact h.2.1
  ·rename_i h2;have h2:=Classical.not_not.1 h2;split
   ·constructor
    ·intro h;cases h
    ·intro h;omega
   ·constructor
    ·intro h;exact⟨h1,h2,by omega⟩
    ·intro h;rfl
theorem legsB_iff: ∀ (l rs:List Int),rs.length+1=l.length→(legsB l rs=true↔ ∀ (j:Nat) a b r,l[j]?=some a→l[j+1]?=some b→rs[j]?=some r→a≠b∧1≤r)
 |[],rs,hl=>by simp at hl
 |[a],rs,hl=>by
  obtain rfl:rs=[]:=List.eq_nil_of_length_eq_zero (by simpa using hl);exact⟨fun _ j x y r h1 h2 h3=>(by simp at h3),fun _=>rfl⟩
 |a::b::l,[],hl=>by simp at hl
 |a::b::l,r::rs,hl=>by
  have ih:=legsB_iff (b::l) rs (by simp at hl ⊢;omega);unfold legsB;simp only [Bool.and_eq_true,decide_eq_true_eq,ih];constructor
  ·rintro⟨h1,h2,h3⟩ j x y q hx hy hq
   cases j with
   |zero=>simp at hx hy hq;subst hx hy hq;exact⟨h1,h2⟩
   |succ j=>exact h3 j x y q (by simpa using hx) (by simpa using hy) (by simpa using hq)
  ·intro h;have h0:=h 0 a b r rfl rfl rfl;exact⟨h0.1,h0.2,fun j x y q hx hy hq=>h (j+1) x y q (by simpa using hx) (by simpa using hy) (by simpa using hq)⟩
def RetE (we:World) (b:Bool) (e:Ending) (w':World):Prop:= ∃ c:Int,e= .returned (.int .i64 c)∧(c=0↔b=true)∧Below we.heap.size we w'
theorem RetE.no {we w':World} {b:Bool} {c:Int} (hc:c≠0) (hb:b=false) (h:Below we.heap.size we w'):RetE we b (.returned (.int .i64 c)) w':=⟨c,rfl,by simp [hc,hb],h⟩
theorem RetE.yes {we w':World} {b:Bool} (hb:b=true) (h:Below we.heap.size we w'):RetE we b (.returned (.int .i64 0)) w':=⟨0,rfl,by simp [hb],h⟩
theorem all_snoc {α:Type} {L:List α} {f:α→Bool} {i:Nat} {x:α} (h:(L.take i).all f=true) (hx:L[i]?=some x) (hf:f x=true):(L.take (i+1)).all f=true:=by
 rw [take_at hx,List.all_append,h];simp [hf]
theorem all_not {α:Type} {L:List α} {f:α→Bool} {i:Nat} {x:α} (hx:L[i]?=some x) (hf:f x=false):L.all f=false:=by
 rw [Bool.eq_false_iff];intro h;have:=List.all_eq_true.1 h x (List.mem_of_getElem? hx);rw [hf] at this;cases this
theorem all_done {α:Type} {L:List α} {f:α→Bool} {n:Nat} (h:(L.take n).all f=true) (hl:L.length=n):L.all f=true:=by rwa [List.take_of_length_le (by omega)] at h
structure FewS (X:SheetP):Prop where
 s0:X.stops.length≤100000
 sP:X.paths.length≤100000
 sD:X.doors.length≤100000
 sR:X.routes.length≤100000
 sT:X.trips.length≤100000
 sH:X.hazs.length≤100000
 sr: ∀ r∈X.routes,r.stops.length≤100000∧r.rides.length≤100000∧r.stays.length≤100000
theorem flat_le {α β:Type} (f:α→List β) (c:Nat): ∀ l:List α,(∀ x∈l,(f x).length ≤c)→(l.flatMap f).length ≤l.length*c
 |[],_=>by simp
 |x::r,h=>by
  rw [List.flatMap_cons,List.length_append,List.length_cons,Nat.succ_mul];have h1:=h x List.mem_cons_self;have h2:=flat_le f c r fun y hy=>h y (List.mem_cons_of_mem _ hy);omega
theorem namesL_le {X:SheetP} (h:FewS X):(namesL X).length ≤500000000000:=by
 unfold namesL;simp only [List.length_append,List.length_nil];have h0:=h.s0;have h1:=flat_le pN 3 X.paths fun x _=>Nat.le_refl _;have h2:=flat_le dN 3 X.doors fun x _=>Nat.le_refl _;have h3:=flat_le rN 100001 X.routes fun x hx=>by have:=(h.sr x hx).1;simp [rN];omega
 have h4:=flat_le tN 2 X.trips fun x _=>Nat.le_refl _;have h5:=flat_le hN 2 X.hazs fun x _=>Nat.le_refl _;have:=h.sP;have:=h.sD;have:=h.sR;have:=h.sT;have:=h.sH;omega
theorem numsL_le {X:SheetP} (h:FewS X):(numsL X).length ≤500000000000:=by
 unfold numsL;simp only [List.length_append,List.length_nil,List.length_cons];have h1:=flat_le pI 1 X.paths fun x _=>Nat.le_refl _;have h2:=flat_le dI 4 X.doors fun x _=>Nat.le_refl _;have h3:=flat_le rI 200000 X.routes fun x hx=>by have:=(h.sr x hx).2;simp [rI];omega
 have h4:=flat_le tI 3 X.trips fun x _=>Nat.le_refl _;have h5:=flat_le hI 3 X.hazs fun x _=>Nat.le_refl _;have:=h.sP;have:=h.sD;have:=h.sR;have:=h.sT;have:=h.sH;omega
theorem sheetB_len {nm:Str→Bool} {X:SheetP} (h:lensS X=false):sheetB nm X=false:=by unfold sheetB;rw [h];rfl
theorem sheetB_nam {nm:Str→Bool} {X:SheetP} (h:(namesL X).all nm=false):sheetB nm X=false:=by unfold sheetB;rw [h];simp
theorem sheetB_num {nm:Str→Bool} {X:SheetP} (h:(numsL X).all (fun x=>decide (W.chk x=0))=false):sheetB nm X=false:=by unfold sheetB;rw [h];simp
theorem sheetB_shp {nm:Str→Bool} {X:SheetP} (h:X.routes.all shapeB=false):sheetB nm X=false:=by unfold sheetB;rw [h];simp
