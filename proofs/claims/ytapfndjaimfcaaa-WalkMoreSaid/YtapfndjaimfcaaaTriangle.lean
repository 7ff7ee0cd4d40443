/-
  Plain: by a third stop nothing is nearer; walk: timetablelaw13.WalkTriangle.
-/
import Derived.Test.YtapfndjaimfcaaaWkD
namespace Go.Proofs.Ytapfndjaimfcaaa
open Go.RowKit Go.Shelf B K
set_option linter.unusedVariables false
set_option linter.unusedSimpArgs false
set_option maxHeartbeats 4000000
theorem IsDist.tri {n : Nat} {l : List Ed} {a b : Nat} {da db : List Int} (hl : EdsOk n l) (ha : IsDist n l a da) (hb : IsDist n l b db) {u : Int} (hu : da[b]? = some u) : ∀ (k : Nat) (c : Nat) (v x : Int), v.toNat ≤ k → db[c]? = some v → v ≤ 1099511627776 → u + v ≤ 1099511627776 → da[c]? = some x → x ≤ u + v
  | k, c, v, x, hk, hv, hvt, hs, hx => by
    have hru := ha.rng b u hu
    have hrv := hb.rng c v hv
    by_cases hc : c = b
    · subst hc
      rw [hb.s0] at hv
      rw [hu] at hx
      cases hv; cases hx; omega
    · obtain ⟨e, he, e2, p, v', e1, hp, hsum⟩ := hb.sup c v hc hv hvt
      obtain ⟨_, _, _, _, _, hlo, _⟩ := hl e he
      have hv0 := hb.rng p v' hp
      have hpn : p < da.length := by
        have := (List.getElem?_eq_some_iff.1 hp).1
        rw [ha.len, ← hb.len]; exact this
      obtain ⟨y, hy⟩ : ∃ y, da[p]? = some y := ⟨da[p], List.getElem?_eq_getElem _⟩
      have ih := IsDist.tri hl ha hb hu (k - 1) p v' y (by omega) hp (by omega) (by omega) hy
      have := ha.rel e he p c y x e1 e2 hy hx (by omega)
      omega
termination_by k => k
decreasing_by omega
theorem B.Rd.row {w : World} {N n k : Nat} {A : Option Addr} {L : List Nat} (h : Rd w 1 (rowE N) A n L) (hk : k < n) : ∃ b o fb, A = some ⟨b, o, none⟩ ∧ b < w.heap.size ∧ L[k]? = some fb ∧ w.cell? ⟨b, o + k, none⟩ = some (.slice (some ⟨fb, 0, none⟩) N N) := by
  obtain ⟨b, o, rfl, hb, hc⟩ := h.cells (by omega)
  have hl : k < L.length := by rw [h.len]; exact hk
  have hx : L[k]? = some L[k] := List.getElem?_eq_getElem hl
  have := hc k _ hx 0 _ rfl
  rw [Nat.mul_one, Nat.add_zero] at this
  exact ⟨b, o, L[k], rfl, hb, hx, this⟩
set_option maxRecDepth 100000 in
theorem lawTri_any (n : Int) (A : Option Addr) (m c : Nat) (l : List Ed) (w : World) (hr : Rd w 3 tripE A m l) :
    Calls Try.prog 8 #[.int .i64 n, .slice A m c] w fun e w' => e = .returned (.bool true) ∧ Below w.heap.size w w' := by
  go_enter Try.func8, Try.ntmps8
  go_wp2_with fail
  refine (lives13_any _).mono ?_; rintro e w1 ⟨rfl, hb1⟩
  have r1 := Lib.hid (hr.below hb1)
  have hb1h := Lib.hid hb1
  clear hr hb1
  by_cases h1 : 60 < m
  · have hd1 : decide ((60 : Int) < (m : Int)) = true := decide_eq_true (by omega)
    go_wp2_with fail
    go_returns
    exact ⟨rfl, hb1h.out⟩
  · have hd1 : decide ((60 : Int) < (m : Int)) = false := decide_eq_false (by omega)
    by_cases h2 : n < 1
    · have hd2 : decide (n < 1) = true := decide_eq_true h2
      go_wp2_with fail
      go_returns
      exact ⟨rfl, hb1h.out⟩
    · have hd2 : decide (n < 1) = false := decide_eq_false h2
      by_cases h3 : 30 < n
      · have hd3 : decide (30 < n) = true := decide_eq_true h3
        go_wp2_with fail
        go_returns
        exact ⟨rfl, hb1h.out⟩
      · have hd3 : decide (30 < n) = false := decide_eq_false h3
        obtain ⟨N, rfl⟩ : ∃ N : Nat, n = N := ⟨n.toNat, by omega⟩
        have hC := Lib.hid (chk_any N A m c l w1 r1.out (by omega))
        by_cases hc : chkE (N : Int) l = 0
        · rw [hc] at hC
          have hch := Lib.hid hc
          clear hc
          go_wp2_with (go_at_call 15; refine hC.out.mono ?_; rintro e w2 ⟨rfl, hb2⟩)
          have r2 := r1.out.below hb2
          have hbw2 := hb1h.out.trans (hb2.mono hb1h.out.size)
          have hA := Lib.hid (All_ok (c := c) N r2 (by omega) hch.out)
          have r2h := Lib.hid r2
          have hbw2h := Lib.hid hbw2
          clear r2 hbw2 hb2 hC
          go_wp2_with fail
          refine hA.out.mono ?_; rintro e w3 ⟨A', c', L, rfl, rL, hR, hb3⟩
          obtain ⟨ab, ao, fa0, rfl, hab, hL0, _⟩ := rL.row (k := 0) (by omega)
          have r3 := Lib.hid (r2h.out.below hb3)
          have hbw3 := Lib.hid (hbw2h.out.trans (hb3.mono hbw2h.out.size))
          have rLh := Lib.hid rL
          have hRh := Lib.hid hR
          clear rL hR hb3 r2h hbw2h hA hL0
          have hE := eds_ok hch.out
          have hEh := Lib.hid hE
          clear hE
          go_wp2_with fail
          go_loopw [7] (fun i wr => ∃ (k : Nat), k ≤ N ∧ i = .int .i64 k ∧ Below w3.heap.size w3 wr) (fun i _ => N - (intOf i).toNat)
          case atStart => exact ⟨0, Nat.zero_le _, rfl, Below.refl _ _⟩
          case round =>
            obtain ⟨ka, hka, rfl, hba⟩ := hrel
            by_cases hla : ka < N
            · have hF := Lib.hid (From_ok (c := c) N ka (r3.out.below hba) (by omega) hch.out hla)
              obtain ⟨b', o', fa, e', _, hLa, cA⟩ := rLh.out.row hla
              cases e'
              obtain ⟨_, da, hfa, hDa⟩ := hRh.out ka fa hLa
              have hfal := (Array.getElem?_eq_some_iff.1 hfa).1
              have hbah := Lib.hid hba
              have hDah := Lib.hid hDa
              have hfah := Lib.hid hfa
              clear hba hLa hDa hfa
              go_wp2_with fail
              refine hF.out.mono ?_; rintro e w5 ⟨fd, d', rfl, hD', hfd, hf', hb5⟩
              obtain rfl := hDah.out.uniq hEh.out hD'
              have hb35 := hbah.out.trans (hb5.mono hbah.out.size)
              have hf5 := (hb35.block fa hfal).trans hfah.out
              have hS := Lib.hid (sameL_any (some ⟨fd, 0, none⟩) N N da (some ⟨fa, 0, none⟩) N N da w5 (rd_ints hf' hDah.out.len) (rd_ints hf5 hDah.out.len) (by omega) (by omega))
              rw [decide_eq_true rfl] at hS
              have cA5 := (hb35.cell (p := ⟨ab, ao + ka, none⟩) hab).trans cA
              have hb35h := Lib.hid hb35
              clear hF hD' hfd hf' hb5 hf5 hb35 hbah
              have hla2 : (ka : Int) < (N : Int) := by omega
              go_wp2_with fail
              refine hS.out.mono ?_; rintro e w6 ⟨rfl, hb6⟩
              have hb36 := hb35h.out.trans (hb6.mono hb35h.out.size)
              have cA6 := (hb36.cell (p := ⟨ab, ao + ka, none⟩) hab).trans cA
              have c06 : w6.cell? ⟨fa, ka, none⟩ = some (.int .i64 0) := by rw [cell_of_row _ _ _ _ _ _ ((hb36.block fa hfal).trans hfah.out)]; simp [hDah.out.s0]
              have hb36h := Lib.hid hb36
              clear hS cA5 hb6 hb36 hb35h
              go_wp2_with fail
              clear cA6 c06
              go_loopw [10] (fun i wr => ∃ (k : Nat), k ≤ N ∧ i = .int .i64 k ∧ Below w3.heap.size w3 wr) (fun i _ => N - (intOf i).toNat)
              case atStart => exact ⟨0, Nat.zero_le _, rfl, hb36h.out⟩
              case round =>
                clear hb36h
                obtain ⟨kb, hkb, rfl, hbb⟩ := hrel
                by_cases hlb : kb < N
                · obtain ⟨b', o', fb, e', _, hLb, cB⟩ := rLh.out.row hlb
                  cases e'
                  obtain ⟨_, db, hfb, hDb⟩ := hRh.out kb fb hLb
                  have hfbl := (Array.getElem?_eq_some_iff.1 hfb).1
                  obtain ⟨u, hu⟩ : ∃ u, da[kb]? = some u := ⟨da[kb]'(by rw [hDah.out.len]; exact hlb), List.getElem?_eq_getElem _⟩
                  have hru := hDah.out.rng kb u hu
                  have cu : w3.cell? ⟨fa, kb, none⟩ = some (.int .i64 u) := by rw [cell_of_row _ _ _ _ _ _ hfah.out]; simp [hu]
                  have hDbh := Lib.hid hDb
                  have hfbh := Lib.hid hfb
                  have huh := Lib.hid hu
                  have hbbh := Lib.hid hbb
                  clear hDb hfb hu hbb hLb
                  have hlb2 : (kb : Int) < (N : Int) := by omega
                  go_wp2_with fail
                  go_loopw [11] (fun i wr => ∃ (k : Nat), k ≤ N ∧ i = .int .i64 k ∧ Below w3.heap.size w3 wr) (fun i _ => N - (intOf i).toNat)
                  case atStart => exact ⟨0, Nat.zero_le _, rfl, hbbh.out⟩
                  case round =>
                    clear hbbh
                    obtain ⟨kc, hkc, rfl, hbc⟩ := hrel
                    have hbch := Lib.hid hbc
                    have mA := (hbc.cell (p := ⟨ab, ao + ka, none⟩) hab).trans cA
                    have mB := (hbc.cell (p := ⟨ab, ao + kb, none⟩) hab).trans cB
                    have mu := (hbc.cell (p := ⟨fa, kb, none⟩) hfal).trans cu
                    have zab := Nat.lt_of_lt_of_le hab hbc.size
                    have zfa := Nat.lt_of_lt_of_le hfal hbc.size
                    have zfb := Nat.lt_of_lt_of_le hfbl hbc.size
                    by_cases hlc : kc < N
                    · have hdc : decide ((kc : Int) < (N : Int)) = true := decide_eq_true (by omega)
                      have hlc2 : (kc : Int) < (N : Int) := by omega
                      by_cases hui : u < 4611686018427387904
                      · have hdu : decide (u < 4611686018427387904) = true := decide_eq_true hui
                        obtain ⟨v, hv⟩ : ∃ v, db[kc]? = some v := ⟨db[kc]'(by rw [hDbh.out.len]; exact hlc), List.getElem?_eq_getElem _⟩
                        obtain ⟨x, hx⟩ : ∃ x, da[kc]? = some x := ⟨da[kc]'(by rw [hDah.out.len]; exact hlc), List.getElem?_eq_getElem _⟩
                        have hrv := hDbh.out.rng kc v hv
                        have mv : wr.cell? ⟨fb, kc, none⟩ = some (.int .i64 v) := by rw [cell_of_row _ _ _ _ _ _ ((hbc.block fb hfbl).trans hfbh.out)]; simp [hv]
                        have mx : wr.cell? ⟨fa, kc, none⟩ = some (.int .i64 x) := by rw [cell_of_row _ _ _ _ _ _ ((hbc.block fa hfal).trans hfah.out)]; simp [hx]
                        have htri : Hid (v < 4611686018427387904 → u + v ≤ 1099511627776 → x ≤ u + v) := fun h1 h2 => hDah.out.tri hEh.out hDbh.out huh.out _ kc v x (Nat.le_refl _) hv (by omega) h2 hx
                        clear hbc hv hx
                        by_cases hvi : v < 4611686018427387904
                        · have hdv : decide (v < 4611686018427387904) = true := decide_eq_true hvi
                          have hwr : IntKind.i64.wrap (u + v) = u + v := by rw [IntKind.wrap_i64]; omega
                          by_cases hst : u + v ≤ 1099511627776
                          · have hds : decide (u + v ≤ 1099511627776) = true := decide_eq_true hst
                            have hdx : decide (u + v < x) = false := decide_eq_false (by have := htri.out hvi hst; omega)
                            go_wp2_with fail
                            go_upto_region 20 with fail
                            refine wp_region_below wr.heap.size (by kernel_rfl) (by kernel_rfl) ?_
                            intro C hC
                            repeat (go_big_quiet_step (first
                              | ((intro _; with_reducible rfl))
                              | (intro hc; have m0 := (hc.cell (p := ⟨ab, _, none⟩) zab).trans mA; have m1 := (hc.cell (p := ⟨ab, _, none⟩) zab).trans mB; have m2 := (hc.cell (p := ⟨fa, _, none⟩) zfa).trans mu; have m3 := (hc.cell (p := ⟨fb, _, none⟩) zfb).trans mv; have m4 := (hc.cell (p := ⟨fa, _, none⟩) zfa).trans mx; simp only [m0, m1, m2, m3, m4, Result.andThen]; exact ⟨trivial, rfl⟩)))
                            refine wpQuiet_nil ?_
                            intro w9 hb9
                            clear hC
                            have hfin : Hid (Below w3.heap.size w3 w9) := hbch.out.trans (hb9.mono hbch.out.size)
                            clear hb9
                            go_wp2_with fail
                            go_roundw
                            case rel => exact ⟨kc + 1, by omega, by go_num, hfin.out⟩
                            case measure => simp [intOf]; omega
                          · have hds : decide (u + v ≤ 1099511627776) = false := decide_eq_false hst
                            go_wp2_with fail
                            go_upto_region 20 with fail
                            refine wp_region_below wr.heap.size (by kernel_rfl) (by kernel_rfl) ?_
                            intro C hC
                            repeat (go_big_quiet_step (first
                              | ((intro _; with_reducible rfl))
                              | (intro hc; have m0 := (hc.cell (p := ⟨ab, _, none⟩) zab).trans mA; have m1 := (hc.cell (p := ⟨ab, _, none⟩) zab).trans mB; have m2 := (hc.cell (p := ⟨fa, _, none⟩) zfa).trans mu; have m3 := (hc.cell (p := ⟨fb, _, none⟩) zfb).trans mv; have m4 := (hc.cell (p := ⟨fa, _, none⟩) zfa).trans mx; simp only [m0, m1, m2, m3, m4, Result.andThen]; exact ⟨trivial, rfl⟩)))
                            refine wpQuiet_nil ?_
                            intro w9 hb9
                            clear hC
                            have hfin : Hid (Below w3.heap.size w3 w9) := hbch.out.trans (hb9.mono hbch.out.size)
                            clear hb9
                            go_wp2_with fail
                            go_roundw
                            case rel => exact ⟨kc + 1, by omega, by go_num, hfin.out⟩
                            case measure => simp [intOf]; omega
                        · have hdv : decide (v < 4611686018427387904) = false := decide_eq_false hvi
                          go_wp2_with fail
                          go_upto_region 20 with fail
                          refine wp_region_below wr.heap.size (by kernel_rfl) (by kernel_rfl) ?_
                          intro C hC
                          repeat (go_big_quiet_step (first
                            | ((intro _; with_reducible rfl))
                            | (intro hc; have m0 := (hc.cell (p := ⟨ab, _, none⟩) zab).trans mA; have m1 := (hc.cell (p := ⟨ab, _, none⟩) zab).trans mB; have m2 := (hc.cell (p := ⟨fa, _, none⟩) zfa).trans mu; have m3 := (hc.cell (p := ⟨fb, _, none⟩) zfb).trans mv; have m4 := (hc.cell (p := ⟨fa, _, none⟩) zfa).trans mx; simp only [m0, m1, m2, m3, m4, Result.andThen]; exact ⟨trivial, rfl⟩)))
                          refine wpQuiet_nil ?_
                          intro w9 hb9
                          clear hC
                          have hfin : Hid (Below w3.heap.size w3 w9) := hbch.out.trans (hb9.mono hbch.out.size)
                          clear hb9
                          go_wp2_with fail
                          go_roundw
                          case rel => exact ⟨kc + 1, by omega, by go_num, hfin.out⟩
                          case measure => simp [intOf]; omega
                      · have hdu : decide (u < 4611686018427387904) = false := decide_eq_false hui
                        clear hbc
                        go_wp2_with fail
                        go_roundw
                        case rel => exact ⟨kb + 1, by omega, by go_num, hbch.out⟩
                        case measure => simp [intOf]; omega
                    · have hdc : decide ((kc : Int) < (N : Int)) = false := decide_eq_false (by omega)
                      clear hbc
                      go_wp2_with fail
                      go_roundw
                      case rel => exact ⟨kb + 1, by omega, by go_num, hbch.out⟩
                      case measure => simp [intOf]; omega
                · have hbbh := Lib.hid hbb
                  clear hbb
                  go_wp2_with fail
                  go_roundw
                  case rel => exact ⟨ka + 1, by omega, by go_num, hbbh.out⟩
                  case measure => simp [intOf]; omega
            · have hbah := Lib.hid hba
              clear hba
              go_wp2_with fail
              go_returns
              exact ⟨rfl, hbw3.out.trans (hbah.out.mono hbw3.out.size)⟩
        · obtain ⟨q, hq⟩ : ∃ q, chkE (N : Int) l = q := ⟨_, rfl⟩
          rw [hq] at hC hc
          have hd : (q != 0) = true := by simpa using hc
          clear hq
          go_wp2_with (go_at_call 15; refine hC.out.mono ?_; rintro e w2 ⟨rfl, hb2⟩)
          go_returns
          exact ⟨rfl, hb1h.out.trans (hb2.mono hb1h.out.size)⟩
end Go.Proofs.Ytapfndjaimfcaaa
