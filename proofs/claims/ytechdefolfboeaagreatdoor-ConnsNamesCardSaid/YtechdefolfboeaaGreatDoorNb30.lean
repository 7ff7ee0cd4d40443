/- Texts of one chain, merged. -/
import Derived.Test.YtechdefolfboeaaGreatDoorNb4
namespace Go.Proofs.YtechdefolfboeaaGreatDoor
namespace B
open Go.RowKit
set_option linter.unusedVariables false
section
variable {P:Program} {Q:Exit→Act→World→Prop}
theorem op_list {ops:Array Oper} {i:Nat} {o:Oper} {K:Act→World→Prop} {a:Act} {w:World} (ho:ops[i]?=some o) (h:wpList P ops (Exit.then K Q) [o] a w):wpOp P ops Q i K a w:=by
 unfold wpOp
 rw [ho]
 simp only [wpList] at h
 show if Region.wanted o (yielded ops a.tmps)=true then _ else _
 split
 ·rename_i hw
  simp only [hw,if_true] at h
  refine h.imp (fun h=>?_) (fun h=>⟨h.1,?_⟩)
  ·unfold Oper.wp at*
   generalize (execOp a.eval o).run P w=r at*
   cases r with
   |ok n w'=>
    cases n<;>simp only [Oper.upon] at h ⊢ <;>exact h
   |halt x w'=>cases x<;>simp only [Oper.upon] at h ⊢ <;>exact h
  ·obtain⟨a,w,h⟩:=h.2;exact⟨a,w,h⟩
 ·rename_i hw
  simp only [hw] at h
  exact h
theorem any_one {ops:Array Oper} {f i:Nat} {o:Oper} {listed:Array Bool} {a:Act} {w:World} (hr:Region.ready .any ops listed=[i]) (ho:ops[i]?=some o)
 (h:wpList P ops (Exit.then (fun a' w'=>wpAny P .any ops Q f (listed.setIfInBounds i true) a' w') Q) [o] a w):wpAny P .any ops Q (f+1) listed a w:=
 ⟨fun h0=>(by rw [hr] at h0;cases h0),fun k hk=>by
   rw [hr,List.mem_singleton] at hk
   subst hk
   exact op_list ho h⟩
theorem any_two {ops:Array Oper} {f i j:Nat} {o o':Oper} {listed:Array Bool} {a:Act} {w:World} (hr:Region.ready .any ops listed=[i,j]) (ho:ops[i]?=some o) (ho':ops[j]?=some o')
 (h:wpList P ops (Exit.then (fun a' w'=>wpAny P .any ops Q f (listed.setIfInBounds i true) a' w') Q) [o] a w) (h':wpList P ops (Exit.then (fun a' w'=>wpAny P .any ops Q f (listed.setIfInBounds j true) a' w') Q) [o'] a w):wpAny P .any ops Q (f+1) listed a w:=
 ⟨fun h0=>(by rw [hr] at h0;cases h0),fun k hk=>by
   rw [hr,List.mem_cons,List.mem_singleton] at hk
   rcases hk with rfl|rfl
   ·exact op_list ho h
   ·exact op_list ho' h'⟩
theorem any_end {ops:Array Oper} {listed:Array Bool} {a:Act} {w:World} (hr:Region.ready .any ops listed=[]) (h:Q .normal a w):wpAny P .any ops Q 0 listed a w:=⟨hr,h⟩
end
end B
end Go.Proofs.YtechdefolfboeaaGreatDoor
