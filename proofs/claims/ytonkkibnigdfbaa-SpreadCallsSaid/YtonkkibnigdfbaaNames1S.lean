/-
  Walks: Same at vias; the functions of the chapter at its own net.
-/
import Derived.Test.YtonkkibnigdfbaaTrailS
import Derived.Test.YtonkkibnigdfbaaStillS
import Derived.BigQuiet
namespace Go.Proofs.Ytonkkibnigdfbaa
open Go.RowKit Go.Shelf B K
set_option linter.unusedVariables false
set_option linter.unusedSimpArgs false
set_option maxHeartbeats 2000000
theorem sameV_any (A : Option Addr) (n c : Nat) (l : List It) (A' : Option Addr) (n' c' : Nat) (l' : List It) (w : World) (hr : Rd w 2 pairE A n l) (hr' : Rd w 2 pairE A' n' l') (hn : n ≤ 1099511627776) (hn' : n' ≤ 1099511627776) :
    Calls Try.prog 34 #[.slice A n c, .slice A' n' c'] w fun e w' => e = .returned (.bool (decide (l = l'))) ∧ Below w.heap.size w w' := by
  go_enter Try.func34, Try.ntmps34
  by_cases hnn : n = n'
  · subst hnn
    go_wp2
    go_loopw [5] (fun i wr => ∃ (k : Nat), k ≤ n ∧ i = .int .i64 k ∧ Below w.heap.size w wr ∧ Hid (l.take k = l'.take k)) (fun i _ => n - (intOf i).toNat)
    case atStart => exact ⟨0, Nat.zero_le _, rfl, Below.refl _ _, rfl⟩
    case round =>
      obtain ⟨k, hk, rfl, hb, heq⟩ := hrel
      by_cases hlt : k < n
      · obtain ⟨b, o, x1, x2, rfl, hbs, hl, h1, h2⟩ := (hr.below hb).pair hlt
        obtain ⟨b', o', y1, y2, rfl, hbs', hl', g1, g2⟩ := (hr'.below hb).pair hlt
        have hl := Lib.hid hl
        have hl' := Lib.hid hl'
        rename_i hx1 hx2; clear hx1 hx2
        have hlt2 : (k : Int) < (n : Int) := by omega
        by_cases e1 : x1 = y1
        · subst e1
          by_cases e2 : x2 = y2
          · subst e2
            go_wp2
            go_quiet (fail)
            go_wp2
            go_roundw
            case rel => exact ⟨k + 1, by omega, by go_num, below_drewN hb _, by show _ = _; rw [take_at hl.out, take_at hl'.out, heq.out]⟩
            case measure => simp [intOf]; omega
          · have hn : (x2 == y2) = false := by simp [e2]
            have hne : Hid (((x1, x2) : It) ≠ ((x1, y2) : It)) := by show _ ≠ _; simp [e2]
            clear e2
            have hll : Hid (l ≠ l') := by
              intro e
              apply hne.out
              have := hl.out; rw [e, hl'.out] at this
              exact (Option.some.inj this).symm
            clear hne
            go_wp2
            go_quiet (fail)
            go_wp2
            go_returns
            exact ⟨ret_bool (by symm; rw [decide_eq_false_iff_not]; exact hll.out), below_drewN hb _⟩
        · have hn : (x1 == y1) = false := by simp [e1]
          have hne : Hid (((x1, x2) : It) ≠ ((y1, y2) : It)) := by show _ ≠ _; simp [e1]
          clear e1
          have hll : Hid (l ≠ l') := by
            intro e
            apply hne.out
            have := hl.out; rw [e, hl'.out] at this
            exact (Option.some.inj this).symm
          clear hne
          go_wp2
          go_quiet (fail)
          go_wp2
          go_returns
          exact ⟨ret_bool (by symm; rw [decide_eq_false_iff_not]; exact hll.out), below_drewN hb _⟩
      · go_wp2
        go_returns
        exact ⟨ret_bool (by symm; rw [decide_eq_true_eq]; have := heq.out; rwa [List.take_of_length_le (by rw [hr.len]; omega), List.take_of_length_le (by rw [hr'.len]; omega)] at this), hb⟩
  · have hne : ((n : Int) != (n' : Int)) = true := by simp; omega
    go_wp2
    go_returns
    exact ⟨ret_bool (by symm; rw [decide_eq_false_iff_not]; intro e; apply hnn; rw [← hr.len, ← hr'.len, e]), Below.refl _ _⟩
section
variable {A B Ar : Option Addr} {c d ca na : Nat} {arr D : List Int} {V : List (Int × Int)} {w : World}
theorem xFrom_bad {s t e : Int} (hr : RNet w exN A 3 B 3) (he : fckN exN s t = e) (hne : e ≠ 0) :
    Calls Try.prog 22 #[.agg #[.int .i64 40, .slice A 3 c, .slice B 3 d], .int .i64 s, .int .i64 t] w fun e' w' => e' = .returned (.tuple #[.slice none 0 0, .int .i64 e]) ∧ Below w.heap.size w w' := by
  subst he
  exact sfrom_bad (c := c) (d := d) exN_small hr hne
theorem xAll (hr : RNet w exN A 3 B 3) (hra : Rd w 1 (numE .i64) Ar 3 arr) (hk : sckN exN arr = 0) (hS : sprB exN arr D = true) (hV : viasL exN arr D = V) :
    Calls Try.prog 25 #[.agg #[.int .i64 40, .slice A 3 c, .slice B 3 d], .slice Ar 3 ca] w fun e w' => ∃ A' c' Av cv, e = .returned (.tuple #[.slice A' 3 c', .slice Av 3 cv, .int .i64 0]) ∧ Rd w' 1 (numE .i64) A' 3 D ∧ Rd w' 2 pairE Av 3 V ∧ Below w.heap.size w w' := by
  refine (all_ok (c := c) (d := d) (ca := ca) exN_small hr hra exN_ok (sck_iff.1 hk).2).mono ?_
  rintro e w' ⟨A', c', D', Av, cv, he, h1, h2, _, _, h3, _, _, hb⟩
  obtain rfl : D' = D := h1.uniq (Spr.of_B exN_ok hS)
  rw [hV] at h3
  exact ⟨A', c', Av, cv, he, h2.rd, h3, hb⟩
theorem xTrail_err {tg e : Int} (hr : RNet w exN A 3 B 3) (hra : Rd w 1 (numE .i64) Ar 3 arr) (hk : sckN exN arr = 0) (hS : sprB exN arr D = true) (he : tckN exN arr D tg = e) (hne : e ≠ 0) :
    Calls Try.prog 32 #[.agg #[.int .i64 40, .slice A 3 c, .slice B 3 d], .slice Ar 3 ca, .int .i64 tg] w fun e' w' => e' = .returned (.tuple #[.slice none 0 0, .int .i64 e]) ∧ Below w.heap.size w w' := by
  refine (trail_ok (c := c) (d := d) (ca := ca) (tg := tg) exN_small hr hra exN_ok (sck_iff.1 hk).2).mono ?_
  rintro e' w' ⟨D', h1, hb, h2⟩
  obtain rfl : D' = D := h1.uniq (Spr.of_B exN_ok hS)
  subst he
  rcases h2 with ⟨_, h3⟩ | ⟨h3, _⟩
  · exact ⟨h3, hb⟩
  · exact absurd h3 hne
theorem xTrail {s : Nat} {L : List (Int × Int)} (hr : RNet w exN A 3 B 3) (hra : Rd w 1 (numE .i64) Ar 3 arr) (hk : sckN exN arr = 0) (hS : sprB exN arr D = true) (he : tckN exN arr D s = 0) (hT : Tr exN (viasL exN arr D) s L.reverse) :
    Calls Try.prog 32 #[.agg #[.int .i64 40, .slice A 3 c, .slice B 3 d], .slice Ar 3 ca, .int .i64 (s : Int)] w fun e' w' => ∃ A' c', e' = .returned (.tuple #[.slice A' L.length c', .int .i64 0]) ∧ Rd w' 2 pairE A' L.length L ∧ Below w.heap.size w w' := by
  refine (trail_ok (c := c) (d := d) (ca := ca) (tg := s) exN_small hr hra exN_ok (sck_iff.1 hk).2).mono ?_
  rintro e' w' ⟨D', h1, hb, h2⟩
  obtain rfl : D' = D := h1.uniq (Spr.of_B exN_ok hS)
  rcases h2 with ⟨h3, _⟩ | ⟨_, A', c', L', h3, h4, h5, _⟩
  · exact absurd he h3
  · have h6 := h4.uniq hT
    have h7 : L' = L := by simpa using congrArg List.reverse h6
    subst h7
    exact ⟨A', c', h3, h5, hb⟩
theorem xStill {b : Bool} (hr : RNet w exN A 3 B 3) (hra : Rd w 1 (numE .i64) Ar 3 arr) (hk : sckN exN arr = 0) (hS : sprB exN arr D = true) (hb : decide (D = arr) = b) :
    Calls Try.prog 29 #[.agg #[.int .i64 40, .slice A 3 c, .slice B 3 d], .slice Ar 3 ca] w fun e w' => e = .returned (.bool b) ∧ Below w.heap.size w w' := by
  refine (sstill_ok (c := c) (d := d) (ca := ca) exN_small hr hra exN_ok (sck_iff.1 hk).2).mono ?_
  rintro e w' ⟨D', he, h1, hb'⟩
  obtain rfl : D' = D := h1.uniq (Spr.of_B exN_ok hS)
  exact ⟨by rw [he, hb], hb'⟩
theorem xCheck {e : Int} (hr : RNet w exN A 3 B 3) (hra : Rd w 1 (numE .i64) Ar na arr) (hna : na ≤ 1099511627776) (he : sckN exN arr = e) :
    Calls Try.prog 24 #[.agg #[.int .i64 40, .slice A 3 c, .slice B 3 d], .slice Ar na ca] w fun e' w' => e' = .returned (.int .i64 e) ∧ Below w.heap.size w w' := by
  subst he
  exact scheck_any (c := c) (d := d) (ca := ca) exN_small w hr hra hna
end
/-- a row of ticks written out -/
theorem lit3 (w : World) (a b c : Int) : Rd (w.alloc (.cells #[.int .i64 a, .int .i64 b, .int .i64 c] 2)) 1 (numE .i64) (some ⟨w.heap.size, 0, none⟩) 3 [a, b, c] := Rd.lit w 1 (numE .i64) nume_len 2 [a, b, c]
theorem lit1 (w : World) (a : Int) : Rd (w.alloc (.cells #[.int .i64 a] 2)) 1 (numE .i64) (some ⟨w.heap.size, 0, none⟩) 1 [a] := Rd.lit w 1 (numE .i64) nume_len 2 [a]
theorem up1 (w : World) (o : Obj) : Below w.heap.size w (w.alloc o) := (Below.refl _ w).alloc (Nat.le_refl _) _
end Go.Proofs.Ytonkkibnigdfbaa
