/- Texts of one chain, merged. -/
import Derived.Deep.QuietTactic
import Derived.Test.YtechdefolfboeaaGreatDoorNb44
namespace Go.Proofs.YtechdefolfboeaaGreatDoor
open Go.RowKit B K
set_option linter.unusedVariables false
set_option linter.unusedSimpArgs false
set_option maxRecDepth 100000
set_option maxHeartbeats 2000000
instance:DecidableEq ConnP:=fun a b=>
 if h:a.dep=b.dep∧a.arr=b.arr∧a.fr=b.fr∧a.to_=b.to_∧a.run=b.run∧a.pos=b.pos then isTrue (ConnP.ext' h.1 h.2.1 h.2.2.1 h.2.2.2.1 h.2.2.2.2.1 h.2.2.2.2.2)
 else isFalse fun e=>h (by subst e;exact⟨rfl,rfl,rfl,rfl,rfl,rfl⟩)
theorem below_drewN' {N:Nat} {w w':World} (h:Below N w w') (n:Nat):Below N w (w'.drewN n):=⟨h.os,h.tape,h.output,h.size,h.block⟩
theorem eqC_any (A:Option Addr) (n c:Nat) (l:List ConnP) (A':Option Addr) (n' c':Nat) (l':List ConnP) (w:World) (hr:Rd w 6 connE A n l) (hr':Rd w 6 connE A' n' l') (hn:n≤1099511627776) (hn':n'≤1099511627776):
 Calls Tryz.prog 68 #[.slice A n c,.slice A' n' c'] w fun e w'=>e= .returned (.bool (decide (l=l')))∧Below w.heap.size w w':=by
 go_enter Tryz.func68,Tryz.ntmps68
 by_cases hnn:n=n'
 ·subst hnn
  go_wp2
  go_loopw [13] (fun i wr=> ∃ (k:Nat),k≤n∧i= .int .i64 k∧Below w.heap.size w wr∧Hid (l.take k=l'.take k)) (fun i _=>n-(intOf i).toNat)
  case atStart=>exact⟨0,Nat.zero_le _,rfl,Below.refl _ _,rfl⟩
  case round=>
   obtain⟨k,hk,rfl,hb,heq⟩:=hrel
   by_cases hlt:k<n
   ·obtain⟨b,o,⟨x1,x2,x3,x4,x5,x6⟩,rfl,hbs,hl,hc⟩:=(hr.below hb).get hlt
    obtain⟨b',o',⟨y1,y2,y3,y4,y5,y6⟩,rfl,hbs',hl',hc'⟩:=(hr'.below hb).get hlt
    have g0:=hc 0 _ rfl
    have f0:=hc' 0 _ rfl
    have g1:=hc 1 _ rfl
    have f1:=hc' 1 _ rfl
    have g2:=hc 2 _ rfl
    have f2:=hc' 2 _ rfl
    have g3:=hc 3 _ rfl
    have f3:=hc' 3 _ rfl
    have g4:=hc 4 _ rfl
    have f4:=hc' 4 _ rfl
    have g5:=hc 5 _ rfl
    have f5:=hc' 5 _ rfl
    simp only [Nat.add_zero] at g0 f0
    have hl:=Lib.hid hl
    have hl':=Lib.hid hl'
    rename_i hx1 hx2;clear hx1 hx2 hc hc'
    have hlt2:(k:Int)<(n:Int):=by omega
    by_cases e1:x1=y1
    ·subst e1
     by_cases e2:x2=y2
     ·subst e2
      by_cases e3:x3=y3
      ·subst e3
       by_cases e4:x4=y4
       ·subst e4
        by_cases e5:x5=y5
        ·subst e5
         by_cases e6:x6=y6
         ·subst e6
          go_wp2
          go_quiet (fail)
          go_wp2
          go_roundw
          case rel=>exact⟨k+1,by omega,by go_num,below_drewN' hb _,by show _=_;rw [take_at hl.out,take_at hl'.out,heq.out]⟩
          case measure=>simp [intOf];omega
         ·have hn:(x6==y6)=false:=by simp [e6]
          have hll:Hid (l≠l'):=by
           intro e
           have:=hl.out;rw [e,hl'.out] at this
           have:=congrArg ConnP.pos (Option.some.inj this)
           exact e6 this.symm
          clear e6
          go_wp2
          go_quiet (fail)
          go_wp2
          go_returns
          exact⟨ret_bool (by symm;rw [decide_eq_false_iff_not];exact hll.out),below_drewN' hb _⟩
        ·have hn:(x5==y5)=false:=by simp [e5]
         have hll:Hid (l≠l'):=by
          intro e
          have:=hl.out;rw [e,hl'.out] at this
          have:=congrArg ConnP.run (Option.some.inj this)
          exact e5 this.symm
         clear e5
         go_wp2
         go_quiet (fail)
         go_wp2
         go_returns
         exact⟨ret_bool (by symm;rw [decide_eq_false_iff_not];exact hll.out),below_drewN' hb _⟩
       ·have hn:(x4==y4)=false:=by simp [e4]
        have hll:Hid (l≠l'):=by
         intro e
         have:=hl.out;rw [e,hl'.out] at this
         have:=congrArg ConnP.to_ (Option.some.inj this)
         exact e4 this.symm
        clear e4
        go_wp2
        go_quiet (fail)
        go_wp2
        go_returns
        exact⟨ret_bool (by symm;rw [decide_eq_false_iff_not];exact hll.out),below_drewN' hb _⟩
      ·have hn:(x3==y3)=false:=by simp [e3]
       have hll:Hid (l≠l'):=by
        intro e
        have:=hl.out;rw [e,hl'.out] at this
        have:=congrArg ConnP.fr (Option.some.inj this)
        exact e3 this.symm
       clear e3
       go_wp2
       go_quiet (fail)
       go_wp2
       go_returns
       exact⟨ret_bool (by symm;rw [decide_eq_false_iff_not];exact hll.out),below_drewN' hb _⟩
     ·have hn:(x2==y2)=false:=by simp [e2]
      have hll:Hid (l≠l'):=by
       intro e
       have:=hl.out;rw [e,hl'.out] at this
       have:=congrArg ConnP.arr (Option.some.inj this)
       exact e2 this.symm
      clear e2
      go_wp2
      go_quiet (fail)
      go_wp2
      go_returns
      exact⟨ret_bool (by symm;rw [decide_eq_false_iff_not];exact hll.out),below_drewN' hb _⟩
    ·have hn:(x1==y1)=false:=by simp [e1]
     have hll:Hid (l≠l'):=by
      intro e
      have:=hl.out;rw [e,hl'.out] at this
      have:=congrArg ConnP.dep (Option.some.inj this)
      exact e1 this.symm
     clear e1
     go_wp2
     go_quiet (fail)
     go_wp2
     go_returns
     exact⟨ret_bool (by symm;rw [decide_eq_false_iff_not];exact hll.out),below_drewN' hb _⟩
   ·go_wp2
    go_returns
    exact⟨ret_bool (by symm;rw [decide_eq_true_eq];have:=heq.out;rwa [List.take_of_length_le (by rw [hr.len];omega),List.take_of_length_le (by rw [hr'.len];omega)] at this),hb⟩
 ·have hne:((n:Int) !=(n':Int))=true:=by simp;omega
  go_wp2
  go_returns
  exact⟨ret_bool (by symm;rw [decide_eq_false_iff_not];intro e;exact hnn (by rw [←hr.len,←hr'.len,e])),Below.refl _ _⟩
theorem kSameC_any (A:Option Addr) (n c:Nat) (l:List ConnP) (A':Option Addr) (n' c':Nat) (l':List ConnP) (w:World) (hr:Rd w 6 connE A n l) (hr':Rd w 6 connE A' n' l') (hn:n≤1099511627776) (hn':n'≤1099511627776):
 Calls Tryz.prog 30 #[.slice A n c,.slice A' n' c'] w fun e w'=>e= .returned (.bool (decide (l=l')))∧Below w.heap.size w w':=by
 go_enter Tryz.func30,Tryz.ntmps30
 by_cases hnn:n=n'
 ·subst hnn
  go_wp2
  go_loopw [5] (fun i wr=> ∃ (k:Nat),k≤n∧i= .int .i64 k∧Below w.heap.size w wr∧Hid (l.take k=l'.take k)) (fun i _=>n-(intOf i).toNat)
  case atStart=>exact⟨0,Nat.zero_le _,rfl,Below.refl _ _,rfl⟩
  case round=>
   obtain⟨k,hk,rfl,hb,heq⟩:=hrel
   by_cases hlt:k<n
   ·obtain⟨b,o,⟨x1,x2,x3,x4,x5,x6⟩,rfl,hbs,hl,hc⟩:=(hr.below hb).get hlt
    obtain⟨b',o',⟨y1,y2,y3,y4,y5,y6⟩,rfl,hbs',hl',hc'⟩:=(hr'.below hb).get hlt
    have g0:=hc 0 _ rfl
    have f0:=hc' 0 _ rfl
    have g1:=hc 1 _ rfl
    have f1:=hc' 1 _ rfl
    have g2:=hc 2 _ rfl
    have f2:=hc' 2 _ rfl
    have g3:=hc 3 _ rfl
    have f3:=hc' 3 _ rfl
    have g4:=hc 4 _ rfl
    have f4:=hc' 4 _ rfl
    have g5:=hc 5 _ rfl
    have f5:=hc' 5 _ rfl
    simp only [Nat.add_zero] at g0 f0
    have hl:=Lib.hid hl
    have hl':=Lib.hid hl'
    rename_i hx1 hx2;clear hx1 hx2 hc hc'
    have hlt2:(k:Int)<(n:Int):=by omega
    by_cases e1:x1=y1
    ·subst e1
     by_cases e2:x2=y2
     ·subst e2
      by_cases e3:x3=y3
      ·subst e3
       by_cases e4:x4=y4
       ·subst e4
        by_cases e5:x5=y5
        ·subst e5
         by_cases e6:x6=y6
         ·subst e6
          go_wp2
          go_quiet (fail)
          go_wp2
          go_roundw
          case rel=>exact⟨k+1,by omega,by go_num,below_drewN' hb _,by show _=_;rw [take_at hl.out,take_at hl'.out,heq.out]⟩
          case measure=>simp [intOf];omega
         ·have hn:(x6==y6)=false:=by simp [e6]
          have hll:Hid (l≠l'):=by
           intro e
           have:=hl.out;rw [e,hl'.out] at this
           have:=congrArg ConnP.pos (Option.some.inj this)
           exact e6 this.symm
          clear e6
          go_wp2
          go_quiet (fail)
          go_wp2
          go_returns
          exact⟨ret_bool (by symm;rw [decide_eq_false_iff_not];exact hll.out),below_drewN' hb _⟩
        ·have hn:(x5==y5)=false:=by simp [e5]
         have hll:Hid (l≠l'):=by
          intro e
          have:=hl.out;rw [e,hl'.out] at this
          have:=congrArg ConnP.run (Option.some.inj this)
          exact e5 this.symm
         clear e5
         go_wp2
         go_quiet (fail)
         go_wp2
         go_returns
         exact⟨ret_bool (by symm;rw [decide_eq_false_iff_not];exact hll.out),below_drewN' hb _⟩
       ·have hn:(x4==y4)=false:=by simp [e4]
        have hll:Hid (l≠l'):=by
         intro e
         have:=hl.out;rw [e,hl'.out] at this
         have:=congrArg ConnP.to_ (Option.some.inj this)
         exact e4 this.symm
        clear e4
        go_wp2
        go_quiet (fail)
        go_wp2
        go_returns
        exact⟨ret_bool (by symm;rw [decide_eq_false_iff_not];exact hll.out),below_drewN' hb _⟩
      ·have hn:(x3==y3)=false:=by simp [e3]
       have hll:Hid (l≠l'):=by
        intro e
        have:=hl.out;rw [e,hl'.out] at this
        have:=congrArg ConnP.fr (Option.some.inj this)
        exact e3 this.symm
       clear e3
       go_wp2
       go_quiet (fail)
       go_wp2
       go_returns
       exact⟨ret_bool (by symm;rw [decide_eq_false_iff_not];exact hll.out),below_drewN' hb _⟩
     ·have hn:(x2==y2)=false:=by simp [e2]
      have hll:Hid (l≠l'):=by
       intro e
       have:=hl.out;rw [e,hl'.out] at this
       have:=congrArg ConnP.arr (Option.some.inj this)
       exact e2 this.symm
      clear e2
      go_wp2
      go_quiet (fail)
      go_wp2
      go_returns
      exact⟨ret_bool (by symm;rw [decide_eq_false_iff_not];exact hll.out),below_drewN' hb _⟩
    ·have hn:(x1==y1)=false:=by simp [e1]
     have hll:Hid (l≠l'):=by
      intro e
      have:=hl.out;rw [e,hl'.out] at this
      have:=congrArg ConnP.dep (Option.some.inj this)
      exact e1 this.symm
     clear e1
     go_wp2
     go_quiet (fail)
     go_wp2
     go_returns
     exact⟨ret_bool (by symm;rw [decide_eq_false_iff_not];exact hll.out),below_drewN' hb _⟩
   ·go_wp2
    go_returns
    exact⟨ret_bool (by symm;rw [decide_eq_true_eq];have:=heq.out;rwa [List.take_of_length_le (by rw [hr.len];omega),List.take_of_length_le (by rw [hr'.len];omega)] at this),hb⟩
 ·have hne:((n:Int) !=(n':Int))=true:=by simp;omega
  go_wp2
  go_returns
  exact⟨ret_bool (by symm;rw [decide_eq_false_iff_not];intro e;exact hnn (by rw [←hr.len,←hr'.len,e])),Below.refl _ _⟩
theorem csame_any (A:Option Addr) (n c:Nat) (l:List ConnP) (A':Option Addr) (n' c':Nat) (l':List ConnP) (w:World) (hr:Rd w 6 connE A n l) (hr':Rd w 6 connE A' n' l') (hn:n≤1099511627776) (hn':n'≤1099511627776):
 Calls Tryz.prog 26 #[.slice A n c,.slice A' n' c'] w fun e w'=>e= .returned (.bool (decide (l=l')))∧Below w.heap.size w w':=by
 have h:=Lib.hid (eqC_any A n c l A' n' c' l' w hr hr' hn hn')
 clear hr hr'
 go_enter Tryz.func26,Tryz.ntmps26
 go_wp2_with fail
 refine h.out.mono ?_;rintro e w2 ⟨rfl,hb⟩
 have hbH:=Lib.hid hb
 clear hb
 go_wp2_with fail
 go_returns
 exact⟨rfl,hbH.out⟩
end Go.Proofs.YtechdefolfboeaaGreatDoor
