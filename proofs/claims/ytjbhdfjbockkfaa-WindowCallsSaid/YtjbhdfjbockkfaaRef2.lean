/-
  Walks: the document's answer: Good, asked.
-/
import Derived.Test.YtjbhdfjbockkfaaRef1
import Derived.Deep.DeepCutAuto
namespace Go.Proofs.Ytjbhdfjbockkfaa
open Go.RowKit B
set_option linter.unusedVariables false
set_option linter.unusedSimpArgs false
set_option maxHeartbeats 1000000
theorem rgood_any (A : Option Addr) (n c : Nat) (l : W.Row) (w : World) (hr : Rd w 2 pairE A n l) (hn : n ≤ 9223372036854775807) :
    Calls Try.prog 22 #[.slice A n c] w fun e w' => e = .returned (.bool (W.good l)) ∧ Below w.heap.size w w' := by
  go_enter Try.func22, Try.ntmps22
  go_wp2
  go_loopw [3] (fun i wr => ∃ (k : Nat) (x : Int), k ≤ n ∧ i = .int .i64 k ∧ Below w.heap.size w wr ∧ Rd wr 2 pairE A n l ∧ Hid (W.good l = W.goodF x (l.drop k)) ∧ Hid ((k = 0 ∧ x = -1) ∨ (0 ≤ x ∧ ∃ j y, k = j + 1 ∧ l[j]? = some (y, x)))) (fun i _ => n - (intOf i).toNat)
  case atStart => exact ⟨0, -1, Nat.zero_le _, rfl, Below.refl _ _, hr, rfl, .inl ⟨rfl, rfl⟩⟩
  case round =>
    clear hr
    obtain ⟨k, x, hk, rfl, hb, hr, hg, hp⟩ := hrel
    by_cases hlt : k < n
    · obtain ⟨b, o, p, q, rfl, hbs, hl, h1, h2⟩ := hr.pair hlt
      have hl' := Lib.hid hl
      have hd := Lib.hid (drop_at hl); clear hl
      by_cases c1 : p < 0
      · have hx : Hid (W.goodF x (l.drop k) = false) := by
          show _ = _
          rw [hd.out]
          refine W.goodF_no ?_
          rcases hp.out with ⟨_, rfl⟩ | ⟨h, _⟩ <;> omega
        go_upto_region 4 with fail
        go_quiet (fail)
        go_wp2
        go_returns
        exact ⟨ret_bool (by rw [hg.out, hx.out]), ⟨hb.os, hb.tape, hb.output, hb.size, hb.block⟩⟩
      · have c1' : decide (p < 0) = false := decide_eq_false c1
        by_cases c2 : q ≤ p
        · have hx : Hid (W.goodF x (l.drop k) = false) := by
            show _ = _
            rw [hd.out]
            exact W.goodF_no (by omega)
          go_upto_region 4 with fail
          go_quiet (fail)
          go_wp2
          go_returns
          exact ⟨ret_bool (by rw [hg.out, hx.out]), ⟨hb.os, hb.tape, hb.output, hb.size, hb.block⟩⟩
        · have c2' : decide (q ≤ p) = false := decide_eq_false c2
          by_cases c3 : 2199023255552 < q
          · have hx : Hid (W.goodF x (l.drop k) = false) := by
              show _ = _
              rw [hd.out]
              exact W.goodF_no (by omega)
            go_upto_region 4 with fail
            go_quiet (fail)
            go_wp2
            go_returns
            exact ⟨ret_bool (by rw [hg.out, hx.out]), ⟨hb.os, hb.tape, hb.output, hb.size, hb.block⟩⟩
          · have c3' : decide (2199023255552 < q) = false := decide_eq_false c3
            rcases hp.out with ⟨hk0, hx0⟩ | ⟨hx0, j, y, rfl, hj⟩
            · have hx : Hid (W.goodF x (l.drop k) = W.goodF q (l.drop (k + 1))) := by
                show _ = _
                rw [hd.out]
                exact W.goodF_yes (by omega) (by omega) (by omega)
              have hk1 : decide ((0 : Int) < (k : Int)) = false := decide_eq_false (by omega)
              have hk2 : decide (0 < k) = false := decide_eq_false (by omega)
              clear hp hx0 hk0
              go_upto_region 4 with fail
              go_quiet (fail)
              go_wp2
              go_roundw
              case rel => exact ⟨k + 1, q, by omega, by go_num, ⟨hb.os, hb.tape, hb.output, hb.size, hb.block⟩, hr.below ⟨rfl, rfl, rfl, Nat.le_refl _, fun _ _ => rfl⟩, by show _ = _; rw [hg.out, hx.out], .inr ⟨by omega, k, p, rfl, hl'.out⟩⟩
              case measure => simp [intOf]; omega
            · obtain ⟨b', o', p', q', hbb, _, hj', e1, e2⟩ := hr.pair (k := j) (by omega)
              cases hbb
              rw [hj] at hj'
              cases hj'
              clear hj hp e1
              by_cases c4 : p ≤ x
              · have hx : Hid (W.goodF x (l.drop (j + 1)) = false) := by
                  show _ = _
                  rw [hd.out]
                  exact W.goodF_no (by omega)
                go_upto_region 4 with fail
                go_quiet (fail)
                go_wp2
                go_returns
                exact ⟨ret_bool (by rw [hg.out, hx.out]), ⟨hb.os, hb.tape, hb.output, hb.size, hb.block⟩⟩
              · have hx : Hid (W.goodF x (l.drop (j + 1)) = W.goodF q (l.drop (j + 1 + 1))) := by
                  show _ = _
                  rw [hd.out]
                  exact W.goodF_yes (by omega) (by omega) (by omega)
                go_upto_region 4 with fail
                go_quiet (fail)
                go_wp2
                go_roundw
                case rel => exact ⟨j + 1 + 1, q, by omega, by go_num, ⟨hb.os, hb.tape, hb.output, hb.size, hb.block⟩, hr.below ⟨rfl, rfl, rfl, Nat.le_refl _, fun _ _ => rfl⟩, by show _ = _; rw [hg.out, hx.out], .inr ⟨by omega, j + 1, p, rfl, hl'.out⟩⟩
                case measure => simp [intOf]; omega
    · go_wp2
      go_returns
      refine ⟨ret_bool ?_, hb⟩
      rw [hg.out, List.drop_eq_nil_of_le (by rw [hr.len]; omega)]; rfl
theorem rasked_any (A : Option Addr) (n c : Nat) (l : W.Row) (x : Int) (w : World) (hr : Rd w 2 pairE A n l) (hn : n ≤ 9223372036854775807) :
    Calls Try.prog 44 #[.slice A n c, .int .i64 x] w fun e w' => e = .returned (.bool (W.asked l x)) ∧ Below w.heap.size w w' := by
  go_enter Try.func44, Try.ntmps44
  go_wp2_with fail
  refine (rgood_any A n c l _ hr hn).mono ?_; rintro e w1 ⟨rfl, hb⟩
  cases hg : W.good l
  · go_wp2_with fail
    go_returns
    exact ⟨ret_bool (by simp [W.asked, hg]), hb⟩
  · go_wp2_with fail
    refine (rchk_any x _).mono ?_; rintro e w2 ⟨rfl, rfl⟩
    go_wp2_with fail
    go_returns
    exact ⟨ret_bool (by unfold W.asked; rw [hg]; rcases W.chk_cases x with h | h <;> simp [h]), hb⟩
end Go.Proofs.Ytjbhdfjbockkfaa
