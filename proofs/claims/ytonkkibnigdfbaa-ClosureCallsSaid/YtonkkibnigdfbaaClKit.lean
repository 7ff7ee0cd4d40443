/-
  Walks: timetablekit.Light and Lists of rows of near stops.
-/
import Derived.Test.YtonkkibnigdfbaaClLives
namespace Go.Proofs.Ytonkkibnigdfbaa
open Go.RowKit Go.Shelf B K
set_option linter.unusedVariables false
set_option linter.unusedSimpArgs false
set_option maxHeartbeats 2000000
theorem lightN_any {C : List W.Row} {A : Option Addr} {n : Nat} (c : Nat) (w : World) (hr : RRows w C A n) :
    Calls Try.prog 47 #[.slice A n c, .int .i64 40, .int .i64 40] w fun e w' => ∃ b : Bool, e = .returned (.bool b) ∧ (b = true → n ≤ 40 ∧ ∀ l ∈ C, l.length ≤ 40) ∧ Below w.heap.size w w' := by
  by_cases h40 : 40 < n
  · have d1 : decide ((40 : Int) < (n : Int)) = true := decide_eq_true (by omega)
    have d1' : decide (40 < n) = true := decide_eq_true h40
    go_enter Try.func47, Try.ntmps47
    go_wp2
    go_returns
    exact ⟨false, rfl, (fun h => by cases h), Below.refl _ _⟩
  · have d1 : decide ((40 : Int) < (n : Int)) = false := decide_eq_false (by omega)
    have d1' : decide (40 < n) = false := decide_eq_false h40
    go_enter Try.func47, Try.ntmps47
    go_wp2_with fail
    go_loopw [7] (fun i wr => ∃ (k : Nat), k ≤ n ∧ i = .int .i64 k ∧ Below w.heap.size w wr ∧ Hid (∀ l ∈ C.take k, l.length ≤ 40)) (fun i _ => n - (intOf i).toNat)
    case atStart => exact ⟨0, Nat.zero_le _, rfl, Below.refl _ _, fun y hy => by simp at hy⟩
    case round =>
      obtain ⟨k, hk, rfl, hb, hno⟩ := hrel
      by_cases hlt : k < n
      · obtain ⟨b, o, sA, sn, sc, l, rfl, hbs, hx, c0, rs, _⟩ := (hr.below hb).row hlt
        have hll := rs.len
        have hx := Lib.hid hx
        rename_i hx0; clear hx0
        have hltI : (k : Int) < (n : Int) := by omega
        by_cases h2 : 40 < sn
        · have d2 : decide ((40 : Int) < (sn : Int)) = true := decide_eq_true (by omega)
          have d2' : decide (40 < sn) = true := decide_eq_true h2
          clear rs hll
          go_wp2_with fail
          go_returns
          exact ⟨false, rfl, (fun h => by cases h), hb⟩
        · have d2 : decide ((40 : Int) < (sn : Int)) = false := decide_eq_false (by omega)
          have d2' : decide (40 < sn) = false := decide_eq_false h2
          have hno' : Hid (∀ y ∈ C.take (k + 1), y.length ≤ 40) := by
            intro y hy
            rw [take_at hx.out, List.mem_append] at hy
            rcases hy with hy | hy
            · exact hno.out y hy
            · simp at hy; subst hy; omega
          clear rs hll
          go_wp2_with fail
          go_roundw
          case rel => exact ⟨k + 1, by omega, by go_num, hb, hno'⟩
          case measure => simp [intOf]; omega
      · have hall : Hid (∀ l ∈ C, l.length ≤ 40) := fun l hl => hno.out l (by rwa [List.take_of_length_le (by rw [hr.nn]; omega)])
        go_wp2
        go_returns
        exact ⟨true, rfl, fun _ => ⟨by omega, hall.out⟩, hb⟩
theorem listsN_any {C C' : List W.Row} {A A' : Option Addr} {n n' : Nat} (c c' : Nat) (w : World) (hr : RRows w C A n) (hr' : RRows w C' A' n') (hn : n ≤ 1099511627776) (hl1 : ∀ l ∈ C, l.length ≤ 1099511627776) (hl2 : ∀ l ∈ C', l.length ≤ 1099511627776) :
    Calls Try.prog 48 #[.slice A n c, .slice A' n' c'] w fun e w' => e = .returned (.bool (decide (C = C'))) ∧ Below w.heap.size w w' := by
  by_cases hnn : n = n'
  · subst hnn
    have d0 : ((n : Int) != (n : Int)) = false := by simp
    go_enter Try.func48, Try.ntmps48
    go_wp2_with fail
    go_loopw [5] (fun i wr => ∃ (k : Nat), k ≤ n ∧ i = .int .i64 k ∧ Below w.heap.size w wr ∧ Hid (C.take k = C'.take k)) (fun i _ => n - (intOf i).toNat)
    case atStart => exact ⟨0, Nat.zero_le _, rfl, Below.refl _ _, rfl⟩
    case round =>
      obtain ⟨k, hk, rfl, hb, heq⟩ := hrel
      by_cases hlt : k < n
      · obtain ⟨b, o, sA, sn, sc, l, rfl, hbs, hx, c0, rs, _⟩ := (hr.below hb).row hlt
        obtain ⟨b', o', sA', sn', sc', l', rfl, hbs', hx', c0', rs', _⟩ := (hr'.below hb).row hlt
        have m1 := hl1 l (List.mem_of_getElem? hx)
        have m2 := hl2 l' (List.mem_of_getElem? hx')
        rw [rs.len] at m1
        rw [rs'.len] at m2
        have hS : Hid (∀ U, Below wr.heap.size wr U → Calls Try.prog 67 #[.slice sA sn sc, .slice sA' sn' sc'] U fun e w' => e = .returned (.bool (decide (l = l'))) ∧ Below U.heap.size U w') := fun U hU =>
          sameN_any sA sn sc l sA' sn' sc' l' U (rs.below hU) (rs'.below hU) m1 m2
        have hx := Lib.hid hx
        have hx' := Lib.hid hx'
        have hltI : (k : Int) < (n : Int) := by omega
        rename_i hx1 hx2; clear hx1 hx2 rs rs' m1 m2
        by_cases hll : l = l'
        · rw [decide_eq_true hll] at hS
          have hnx : Hid (C.take (k + 1) = C'.take (k + 1)) := by show _ = _; rw [take_at hx.out, take_at hx'.out, heq.out, hll]
          clear hll
          go_upto_region 6 with fail
          refine wp_region_below wr.heap.size (by kernel_rfl) (by kernel_rfl) ?_
          intro Cl hCl
          repeat (go_big_quiet_step (first
            | ((intro _; with_reducible rfl))
            | (intro hc; have m0 := (hc.cell (p := ⟨b, _, none⟩) hbs).trans c0; have m1 := (hc.cell (p := ⟨b', _, none⟩) hbs').trans c0'; simp only [m0, m1, Result.andThen]; exact ⟨trivial, rfl⟩)
            | (intro hc; with_reducible refine (hS.out _ hc).mono ?_; rintro e w'' ⟨rfl, hb⟩; exact ⟨rfl, hc.trans (hb.mono hc.size)⟩)))
          refine wpQuiet_nil ?_
          intro w2 hb2
          clear hCl
          go_wp2_with fail
          go_roundw
          case rel => exact ⟨k + 1, by omega, by go_num, hb.trans (hb2.mono hb.size), hnx⟩
          case measure => simp [intOf]; omega
        · rw [decide_eq_false hll] at hS
          have hne : Hid (C ≠ C') := fun e => hll (by have h1 := hx.out; rw [e, hx'.out] at h1; exact (Option.some.inj h1).symm)
          clear hll
          go_upto_region 6 with fail
          refine wp_region_below wr.heap.size (by kernel_rfl) (by kernel_rfl) ?_
          intro Cl hCl
          repeat (go_big_quiet_step (first
            | ((intro _; with_reducible rfl))
            | (intro hc; have m0 := (hc.cell (p := ⟨b, _, none⟩) hbs).trans c0; have m1 := (hc.cell (p := ⟨b', _, none⟩) hbs').trans c0'; simp only [m0, m1, Result.andThen]; exact ⟨trivial, rfl⟩)
            | (intro hc; with_reducible refine (hS.out _ hc).mono ?_; rintro e w'' ⟨rfl, hb⟩; exact ⟨rfl, hc.trans (hb.mono hc.size)⟩)))
          refine wpQuiet_nil ?_
          intro w2 hb2
          clear hCl
          go_wp2_with fail
          go_returns
          exact ⟨ret_bool (decide_eq_false hne.out).symm, hb.trans (hb2.mono hb.size)⟩
      · have he : Hid (C = C') := by
          have h1 := heq.out
          rwa [List.take_of_length_le (by rw [hr.nn]; omega), List.take_of_length_le (by rw [hr'.nn]; omega)] at h1
        go_wp2_with fail
        go_returns
        exact ⟨ret_bool (decide_eq_true he.out).symm, hb⟩
  · have d0 : ((n : Int) != (n' : Int)) = true := by simp; omega
    have hne : Hid (C ≠ C') := fun e => hnn (by rw [← hr.nn, ← hr'.nn, e])
    go_enter Try.func48, Try.ntmps48
    go_wp2_with fail
    go_returns
    exact ⟨ret_bool (decide_eq_false hne.out).symm, Below.refl _ _⟩
end Go.Proofs.Ytonkkibnigdfbaa
