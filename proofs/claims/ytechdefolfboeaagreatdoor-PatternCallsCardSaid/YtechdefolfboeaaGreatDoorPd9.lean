/- Merged. -/
import Derived.Test.YtechdefolfboeaaGreatDoorPd6
set_option linter.unusedVariables false
set_option linter.unusedSimpArgs false
namespace Go.Proofs.YtechdefolfboeaaGreatDoor
open Go.RowKit B
def letB (c:Int):Bool:=decide (97<=c)&&decide (c<=122)
def digB (c:Int):Bool:=decide (48<=c)&&decide (c<=57)
def cy_ (c:Int):Bool:=letB c||(digB c||(decide (c=45)||decide (c=95)))
def dn_ (s:Str):Bool:=decide (s.size≠0)&&(decide (s.size<=24)&&((match s.data.toList with|[]=>false|b::_=>letB (b.toNat:Int))&&s.data.toList.all fun b=>cy_ (b.toNat:Int)))
theorem jq_ (s:Str) (k:Nat) (h:k<s.size):s.data.toList[k]?=some s[k]:=by
 have:k<s.data.toList.length:=by simpa using h
 rw [List.getElem?_eq_getElem this];rfl
theorem jt_ {s:Str} (h0:s.size≠0) (h1:s.size<=24):dn_ s=(letB ((s[0]'(by omega)).toNat :Int)&&s.data.toList.all fun b=>cy_ (b.toNat:Int)):=by
 have f:=jq_ s 0 (by omega);unfold dn_;rw [T_ h0,T_ h1]
 cases g:s.data.toList with
 |nil=>rw [g] at f;cases f
 |cons b t=>rw [g] at f;cases f;rfl
def resv:List Str:=[⟨#[104,111,114,105,122,111,110]⟩,⟨#[115,116,111,112]⟩,⟨#[112,97,116,104]⟩,⟨#[100,111,111,114]⟩,⟨#[114,111,117,116,101]⟩,⟨#[116,114,105,112]⟩,⟨#[104,97,122,97,114,100]⟩,⟨#[102,114,111,109]⟩,⟨#[101,118,101,114,121]⟩,⟨#[111,112,101,110]⟩,⟨#[99,108,111,115,101,100]⟩,⟨#[111,102]⟩,⟨#[111,110]⟩,⟨#[117,110,116,105,108]⟩,⟨#[115,116,97,121]⟩]
def resB (s:Str):Bool:=resv.any fun x=>sq x s
def aN_ (s:Str):Bool:=dn_ s&& !resB s
def wayE (a b n:Int):Int:=if a<0∨b<0 then 5 else if a=b∨n<1 then 2 else 0
theorem dZ_ {a b n:Int}:wayE a b n=0↔wayB a b n=true:=by
 unfold wayE wayB;simp only [Bool.and_eq_true,decide_eq_true_eq];split
 ·constructor
  ·intro h;omega
  ·intro h;omega
 ·split
  ·constructor
   ·intro h;omega
   ·intro h;omega
  ·constructor
   ·intro h;omega
   ·intro h;rfl
def cq_ (f v n h:Int):Int:=(cv_ f v n h).2
theorem dO_ {f v n h:Int}:cq_ f v n h=0↔bq_ f v n h=true:=by
 unfold cq_ cv_ bq_;simp only [Bool.and_eq_true,decide_eq_true_eq];split
 ·rename_i g;constructor
  ·intro h;exact absurd h g
  ·intro h;exact h.1
 ·rename_i g;have g:=Classical.not_not.1 g;split
  ·rename_i j;constructor
   ·intro h;exact absurd h j
   ·intro h;exact h.2.1
  ·rename_i j;have j:=Classical.not_not.1 j;split
   ·constructor
    ·intro h;cases h
    ·intro h;omega
   ·constructor
    ·intro h;exact⟨g,j,by omega⟩
    ·intro h;rfl
theorem dy_: ∀ (l rs:List Int),rs.length+1=l.length ->(cF_ l rs=true↔ ∀ (j:Nat) a b r,l[j]?=some a ->l[j+1]?=some b ->rs[j]?=some r ->a≠b/\1<=r)
 |[],rs,hl=>by simp at hl
 |[a],rs,hl=>by
  obtain rfl:rs=[]:=List.eq_nil_of_length_eq_zero (by simpa using hl);exact⟨fun _ j x y r D F p=>(by simp at p),fun _=>rfl⟩
 |a::b::l,[],hl=>by simp at hl
 |a::b::l,r::rs,hl=>by
  have G:=dy_ (b::l) rs (by simp at hl ⊢;omega);unfold cF_;simp only [Bool.and_eq_true,decide_eq_true_eq,G];constructor
  ·rintro⟨D,F,p⟩ j x y q g n f
   cases j with
   |zero=>simp at g n f;subst g n f;exact⟨D,F⟩
   |succ j=>exact p j x y q (by simpa using g) (by simpa using n) (by simpa using f)
  ·intro h;have z:=h 0 a b r rfl rfl rfl;exact⟨z.1,z.2,fun j x y q g n f=>h (j+1) x y q (by simpa using g) (by simpa using n) (by simpa using f)⟩
def RetE (we:World) (b:Bool) (e:Ending) (w':World):Prop:= ∃ c:Int,e= .returned (.int .i64 c)/\(c=0↔b=true)/\Below we.heap.size we w'
theorem RetE.no {we w':World} {b:Bool} {c:Int} (hc:c≠0) (hb:b=false) (h:Below we.heap.size we w'):RetE we b (.returned (.int .i64 c)) w':=⟨c,rfl,by simp [hc,hb],h⟩
theorem RetE.yes {we w':World} {b:Bool} (hb:b=true) (h:Below we.heap.size we w'):RetE we b (.returned (.int .i64 0)) w':=⟨0,rfl,by simp [hb],h⟩
theorem br_ {α:Type} {L:List α} {f:α ->Bool} {i:Nat} {x:α} (h:(L.take i).all f=true) (hx:L[i]?=some x) (hf:f x=true):(L.take (i+1)).all f=true:=by
 rw [an_ hx,List.all_append,h];simp [hf]
theorem bT_ {α:Type} {L:List α} {f:α ->Bool} {i:Nat} {x:α} (hx:L[i]?=some x) (hf:f x=false):L.all f=false:=by
 rw [Bool.eq_false_iff];intro h;have:=List.all_eq_true.1 h x (List.mem_of_getElem? hx);rw [hf] at this;cases this
theorem cT_ {α:Type} {L:List α} {f:α ->Bool} {n:Nat} (h:(L.take n).all f=true) (hl:L.length=n):L.all f=true:=by rwa [List.take_of_length_le (by omega)] at h
structure FewS (X:ay_):Prop where
 s0:X.stops.length<=100000
 sP:X.paths.length<=100000
 sD:X.doors.length<=100000
 sR:X.routes.length<=100000
 sT:X.trips.length<=100000
 sH:X.hazs.length<=100000
 sr: ∀ r∈X.routes,r.stops.length<=100000/\r.rides.length<=100000/\r.stays.length<=100000
theorem cJ_ {α β:Type} (f:α ->List β) (c:Nat): ∀ l:List α,(∀ x∈l,(f x).length <=c) ->(l.flatMap f).length <=l.length*c
 |[],_=>by simp
 |x::r,h=>by
  rw [List.flatMap_cons,List.length_append,List.length_cons,Nat.succ_mul];have h1:=h x List.mem_cons_self;have h2:=cJ_ f c r fun y g=>h y (List.mem_cons_of_mem _ g);omega
theorem fN_ {X:ay_} (h:FewS X):(aT_ X).length <=500000000000:=by
 unfold aT_;simp only [List.length_append,List.length_nil];have h0:=h.s0;have h1:=cJ_ pN 3 X.paths fun x _=>Nat.le_refl _;have h2:=cJ_ dN 3 X.doors fun x _=>Nat.le_refl _;have h3:=cJ_ rN 100001 X.routes fun x f=>by have:=(h.sr x f).1;simp [rN];omega
 have h4:=cJ_ tN 2 X.trips fun x _=>Nat.le_refl _;have h5:=cJ_ hN 2 X.hazs fun x _=>Nat.le_refl _;have:=h.sP;have:=h.sD;have:=h.sR;have:=h.sT;have:=h.sH;omega
theorem gz_ {X:ay_} (h:FewS X):(aU_ X).length <=500000000000:=by
 unfold aU_;simp only [List.length_append,List.length_nil,List.length_cons];have h1:=cJ_ pI 1 X.paths fun x _=>Nat.le_refl _;have h2:=cJ_ dI 4 X.doors fun x _=>Nat.le_refl _;have h3:=cJ_ rI 200000 X.routes fun x f=>by have:=(h.sr x f).2;simp [rI];omega
 have h4:=cJ_ tI 3 X.trips fun x _=>Nat.le_refl _;have h5:=cJ_ hI 3 X.hazs fun x _=>Nat.le_refl _;have:=h.sP;have:=h.sD;have:=h.sR;have:=h.sT;have:=h.sH;omega
theorem bB_ {nm:Str ->Bool} {X:ay_} (h:cG_ X=false):bb_ nm X=false:=by unfold bb_;rw [h];rfl
theorem hl_ {nm:Str ->Bool} {X:ay_} (h:(aT_ X).all nm=false):bb_ nm X=false:=by unfold bb_;rw [h];simp
theorem hm_ {nm:Str ->Bool} {X:ay_} (h:(aU_ X).all (fun x=>decide (W.chk x=0))=false):bb_ nm X=false:=by unfold bb_;rw [h];simp
theorem dN_ {nm:Str ->Bool} {X:ay_} (h:X.routes.all cX_=false):bb_ nm X=false:=by unfold bb_;rw [h];simp
