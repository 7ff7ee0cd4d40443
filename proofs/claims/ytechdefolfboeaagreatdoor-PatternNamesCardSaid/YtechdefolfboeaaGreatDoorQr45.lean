/- Texts of one chain, merged. -/
import Derived.Test.YtechdefolfboeaaGreatDoorQr38
namespace Go.Proofs.YtechdefolfboeaaGreatDoor
open Go.RowKit B K
set_option linter.unusedVariables false
set_option linter.unusedSimpArgs false
set_option maxRecDepth 100000
set_option maxHeartbeats 2000000
theorem kSameI_any (A:Option Addr) (n c:Nat) (l:List Int) (A':Option Addr) (n' c':Nat) (l':List Int) (w:World) (hr:Rd w 1 (numE .i64) A n l) (hr':Rd w 1 (numE .i64) A' n' l') (hn:n≤1099511627776) (hn':n'≤1099511627776):
 Calls Tryz.prog 46 #[.slice A n c,.slice A' n' c'] w fun e w'=>e= .returned (.bool (decide (l=l')))∧Below w.heap.size w w':=by
 go_enter Tryz.func46,Tryz.ntmps46
 by_cases hnn:n=n'
 ·subst hnn
  go_wp2
  go_loopw [5] (fun i wr=> ∃ (k:Nat),k≤n∧i= .int .i64 k∧Below w.heap.size w wr∧Hid (l.take k=l'.take k)) (fun i _=>n-(intOf i).toNat)
  case atStart=>exact⟨0,Nat.zero_le _,rfl,Below.refl _ _,rfl⟩
  case round=>
   obtain⟨k,hk,rfl,hb,heq⟩:=hrel
   by_cases hlt:k<n
   ·obtain⟨b,o,x1,rfl,hbs,hl,hc⟩:=(hr.below hb).get hlt
    obtain⟨b',o',y1,rfl,hbs',hl',hc'⟩:=(hr'.below hb).get hlt
    have g0:=hc 0 _ rfl
    have f0:=hc' 0 _ rfl
    simp only [Nat.add_zero,Nat.mul_one] at g0 f0
    have hl:=Lib.hid hl
    have hl':=Lib.hid hl'
    rename_i hx1 hx2;clear hx1 hx2 hc hc'
    have hlt2:(k:Int)<(n:Int):=by omega
    by_cases e1:x1=y1
    ·subst e1
     go_wp2
     go_quiet (fail)
     go_wp2
     go_roundw
     case rel=>exact⟨k+1,by omega,by go_num,below_drewN' hb _,by show _=_;rw [take_at hl.out,take_at hl'.out,heq.out]⟩
     case measure=>simp [intOf];omega
    ·have hn:(x1==y1)=false:=by simp [e1]
     have hll:Hid (l≠l'):=by
      intro e
      have:=hl.out;rw [e,hl'.out] at this
      exact e1 (Option.some.inj this).symm
     clear e1
     go_wp2
     go_quiet (fail)
     go_wp2
     go_returns
     exact⟨ret_bool (by symm;rw [decide_eq_false_iff_not];exact hll.out),below_drewN' hb _⟩
   ·go_wp2
    go_returns
    exact⟨ret_bool (by symm;rw [decide_eq_true_eq];have:=heq.out;rwa [List.take_of_length_le (by rw [hr.len];omega),List.take_of_length_le (by rw [hr'.len];omega)] at this),hb⟩
 ·have hne:((n:Int) !=(n':Int))=true:=by simp;omega
  go_wp2
  go_returns
  exact⟨ret_bool (by symm;rw [decide_eq_false_iff_not];intro e;exact hnn (by rw [←hr.len,←hr'.len,e])),Below.refl _ _⟩
end Go.Proofs.YtechdefolfboeaaGreatDoor
