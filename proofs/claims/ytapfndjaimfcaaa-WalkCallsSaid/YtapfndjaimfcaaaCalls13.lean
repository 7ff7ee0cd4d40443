/-
  Walk: the walk's and the reference's From, Way, All tell the same; timetablelaw13.WalkCalls.
-/
import Derived.Test.YtapfndjaimfcaaaRefWay13
import Derived.Test.YtapfndjaimfcaaaLists13
namespace Go.Proofs.Ytapfndjaimfcaaa
open Go.RowKit Go.Shelf B K
set_option linter.unusedVariables false
set_option linter.unusedSimpArgs false
set_option maxHeartbeats 4000000
def FromR (n s : Int) (l : List Ed) (xs : List Int) (err : Int) : Prop :=
  (chkE n l ≠ 0 ∧ xs = [] ∧ err = chkE n l) ∨ (chkE n l = 0 ∧ (s < 0 ∨ n ≤ s) ∧ xs = [] ∧ err = 2) ∨ (chkE n l = 0 ∧ ∃ N S : Nat, n = N ∧ s = S ∧ S < N ∧ IsDist N l S xs ∧ err = 0)
def AllR (n : Int) (l : List Ed) (k : Nat) (D : Nat → List Int) (err : Int) : Prop :=
  (chkE n l ≠ 0 ∧ k = 0 ∧ err = chkE n l) ∨ (chkE n l = 0 ∧ n = k ∧ (∀ i, i < k → IsDist k l i (D i)) ∧ err = 0)
def WayRR (n s t : Int) (l : List Ed) (ks : List Int) (err : Int) : Prop :=
  (chkE n l ≠ 0 ∧ ks = [] ∧ err = chkE n l) ∨ (chkE n l = 0 ∧ (s < 0 ∨ n ≤ s) ∧ ks = [] ∧ err = 2) ∨
  (chkE n l = 0 ∧ ∃ (N S : Nat) (D : List Int), n = N ∧ s = S ∧ S < N ∧ IsDist N l S D ∧ (((t < 0 ∨ n ≤ t) ∧ ks = [] ∧ err = 2) ∨ ∃ T : Nat, t = T ∧ T < N ∧ ((D[T]? = some 4611686018427387904 ∧ ks = [] ∧ err = 5) ∨ (D[T]? ≠ some 4611686018427387904 ∧ ∃ OL, WayTo l D S T OL ∧ ks = OL.reverse ∧ err = 0))))
theorem rd_none (w : World) {α : Type} (size : Nat) (enc : α → List Value) : Rd w size enc none 0 [] := ⟨rfl, fun h => absurd h (by omega)⟩
section
variable {A : Option Addr} {m c : Nat} {l : List Ed} {w : World}
theorem From_any (n s : Int) (hr : Rd w 3 tripE A m l) (hm : m ≤ 1099511627776) : Calls Try.prog 17 #[.int .i64 n, .slice A m c, .int .i64 s] w fun e w' => ∃ A' k c' xs err, e = .returned (.tuple #[.slice A' k c', .int .i64 err]) ∧ FromR n s l xs err ∧ Rd w' 1 (numE .i64) A' k xs ∧ k ≤ 1099511627776 ∧ Below w.heap.size w w' := by
  by_cases hc : chkE n l = 0
  · by_cases hs : s < 0 ∨ n ≤ s
    · refine (From_arg (c := c) n s hr hm hc hs).mono ?_
      rintro e w' ⟨rfl, hb⟩
      exact ⟨none, 0, 0, [], 2, rfl, .inr (.inl ⟨hc, hs, rfl, rfl⟩), rd_none _ _ _, by decide, hb⟩
    · obtain ⟨_, _, hn⟩ := chk_len hc
      obtain ⟨N, rfl⟩ : ∃ N : Nat, n = N := ⟨n.toNat, by omega⟩
      obtain ⟨S, rfl⟩ : ∃ S : Nat, s = S := ⟨s.toNat, by omega⟩
      refine (From_ok (c := c) N S hr hm hc (by omega)).mono ?_
      rintro e w' ⟨fb, d, rfl, hD, _, hf, hb⟩
      exact ⟨some ⟨fb, 0, none⟩, N, N, d, 0, rfl, .inr (.inr ⟨hc, N, S, rfl, rfl, by omega, hD, rfl⟩), rd_ints hf hD.len, by omega, hb⟩
  · refine (From_bad (c := c) n s hr hm hc).mono ?_
    rintro e w' ⟨rfl, hb⟩
    exact ⟨none, 0, 0, [], _, rfl, .inl ⟨hc, rfl, rfl⟩, rd_none _ _ _, by decide, hb⟩
theorem rFrom_same (n s : Int) {xs : List Int} {err : Int} (hr : Rd w 3 tripE A m l) (hm : m ≤ 1099511627776) (hF : FromR n s l xs err) : Calls Try.prog 24 #[.int .i64 n, .slice A m c, .int .i64 s] w fun e w' => ∃ A' k c', e = .returned (.tuple #[.slice A' k c', .int .i64 err]) ∧ Rd w' 1 (numE .i64) A' k xs ∧ k ≤ 1099511627776 ∧ Below w.heap.size w w' := by
  rcases hF with ⟨hc, rfl, rfl⟩ | ⟨hc, hs, rfl, rfl⟩ | ⟨hc, N, S, rfl, rfl, hS, hD, rfl⟩
  · refine (rFrom_bad (c := c) n s hr hm hc).mono ?_
    rintro e w' ⟨rfl, hb⟩
    exact ⟨none, 0, 0, rfl, rd_none _ _ _, by decide, hb⟩
  · refine (rFrom_arg (c := c) n s hr hm hc hs).mono ?_
    rintro e w' ⟨rfl, hb⟩
    exact ⟨none, 0, 0, rfl, rd_none _ _ _, by decide, hb⟩
  · obtain ⟨_, _, hn⟩ := chk_len hc
    refine (rFrom_ok (c := c) N S xs hr hm hc hS hD).mono ?_
    rintro e w' ⟨fb, rfl, _, hf, hb⟩
    exact ⟨some ⟨fb, 0, none⟩, N, N, rfl, rd_ints hf hD.len, by omega, hb⟩
theorem All_any (n : Int) (hr : Rd w 3 tripE A m l) (hm : m ≤ 1099511627776) : Calls Try.prog 22 #[.int .i64 n, .slice A m c] w fun e w' => ∃ A' k c' L D err, e = .returned (.tuple #[.slice A' k c', .int .i64 err]) ∧ AllR n l k D err ∧ Rd w' 1 (rowE k) A' k L ∧ RowsD w' k D L ∧ k ≤ 1099511627776 ∧ Below w.heap.size w w' := by
  by_cases hc : chkE n l = 0
  · obtain ⟨_, _, hn⟩ := chk_len hc
    obtain ⟨N, rfl⟩ : ∃ N : Nat, n = N := ⟨n.toNat, by omega⟩
    refine (All_ok (c := c) N hr hm hc).mono ?_
    rintro e w' ⟨A', c', L, rfl, hR, hL, hb⟩
    obtain ⟨D, hD1, hD2⟩ := hL.rows hR.len
    exact ⟨A', N, c', L, D, 0, rfl, .inr ⟨hc, rfl, hD2, rfl⟩, hR, hD1, by omega, hb⟩
  · refine (All_bad (c := c) n hr hm hc).mono ?_
    rintro e w' ⟨rfl, hb⟩
    exact ⟨none, 0, 0, [], fun _ => [], _, rfl, .inl ⟨hc, rfl, rfl⟩, rd_none _ _ _, fun i fb h => by simp at h, by decide, hb⟩
theorem rAll_same (n : Int) {k : Nat} {D : Nat → List Int} {err : Int} (hr : Rd w 3 tripE A m l) (hm : m ≤ 1099511627776) (hA : AllR n l k D err) : Calls Try.prog 26 #[.int .i64 n, .slice A m c] w fun e w' => ∃ A' c' L, e = .returned (.tuple #[.slice A' k c', .int .i64 err]) ∧ Rd w' 1 (rowE k) A' k L ∧ RowsD w' k D L ∧ Below w.heap.size w w' := by
  rcases hA with ⟨hc, rfl, rfl⟩ | ⟨hc, rfl, hD, rfl⟩
  · refine (rAll_bad (c := c) n hr hm hc).mono ?_
    rintro e w' ⟨rfl, hb⟩
    exact ⟨none, 0, [], rfl, rd_none _ _ _, fun i fb h => by simp at h, hb⟩
  · have hE := eds_ok hc
    refine (rAll_ok (c := c) k D hr hm hc hD).mono ?_
    rintro e w' ⟨A', c', L, rfl, hR, hL, hb⟩
    obtain ⟨D', hD1, hD2⟩ := hL.rows hR.len
    refine ⟨A', c', L, rfl, hR, fun i fb hx => ?_, hb⟩
    have hi : i < k := by rw [← hR.len]; exact (List.getElem?_eq_some_iff.1 hx).1
    rw [(hD i hi).uniq hE (hD2 i hi)]
    exact hD1 i fb hx
theorem Way_any (n s t : Int) {xs0 : List Int} {err0 : Int} (hF : FromR n s l xs0 err0) (hr : Rd w 3 tripE A m l) (hm : m ≤ 1099511627776) : Calls Try.prog 18 #[.int .i64 n, .slice A m c, .int .i64 s, .int .i64 t] w fun e w' => ∃ A' k c' ks err, e = .returned (.tuple #[.slice A' k c', .int .i64 err]) ∧ WayRR n s t l ks err ∧ Rd w' 1 (numE .i64) A' k ks ∧ k ≤ 1099511627776 ∧ Below w.heap.size w w' := by
  by_cases hc : chkE n l = 0
  · by_cases hs : s < 0 ∨ n ≤ s
    · refine (Way_args (c := c) n s t hr hm hc hs).mono ?_
      rintro e w' ⟨rfl, hb⟩
      exact ⟨none, 0, 0, [], 2, rfl, .inr (.inl ⟨hc, hs, rfl, rfl⟩), rd_none _ _ _, by decide, hb⟩
    · obtain ⟨_, _, hn⟩ := chk_len hc
      obtain ⟨N, rfl⟩ : ∃ N : Nat, n = N := ⟨n.toNat, by omega⟩
      obtain ⟨S, rfl⟩ : ∃ S : Nat, s = S := ⟨s.toNat, by omega⟩
      by_cases ht : t < 0 ∨ (N : Int) ≤ t
      · refine (Way_argt (c := c) N S t hr hm hc (by omega) ht).mono ?_
        rintro e w' ⟨rfl, hb⟩
        rcases hF with ⟨h1, _⟩ | ⟨_, h1, _⟩ | ⟨_, N', S', h1, h2, h3, hD, _⟩
        · exact absurd hc h1
        · exact absurd h1 hs
        · obtain rfl : N = N' := by omega
          obtain rfl : S = S' := by omega
          exact ⟨none, 0, 0, [], 2, rfl, .inr (.inr ⟨hc, N, S, xs0, rfl, rfl, h3, hD, .inl ⟨ht, rfl, rfl⟩⟩), rd_none _ _ _, by decide, hb⟩
      · obtain ⟨T, rfl⟩ : ∃ T : Nat, t = T := ⟨t.toNat, by omega⟩
        refine (Way_ok (c := c) N S T hr hm hc (by omega) (by omega)).mono ?_
        rintro e w' ⟨D, hD, hb, hW⟩
        rcases hW with ⟨hi, rfl⟩ | ⟨hi, A', c', OL, hO, rfl, hl, hR⟩
        · exact ⟨none, 0, 0, [], 5, rfl, .inr (.inr ⟨hc, N, S, D, rfl, rfl, by omega, hD, .inr ⟨T, rfl, by omega, .inl ⟨hi, rfl, rfl⟩⟩⟩), rd_none _ _ _, by decide, hb⟩
        · exact ⟨A', OL.length, c', OL.reverse, 0, rfl, .inr (.inr ⟨hc, N, S, D, rfl, rfl, by omega, hD, .inr ⟨T, rfl, by omega, .inr ⟨hi, OL, hO, rfl, rfl⟩⟩⟩), hR, hl, hb⟩
  · refine (Way_bad (c := c) n s t hr hm hc).mono ?_
    rintro e w' ⟨rfl, hb⟩
    exact ⟨none, 0, 0, [], _, rfl, .inl ⟨hc, rfl, rfl⟩, rd_none _ _ _, by decide, hb⟩
theorem rWay_same (n s t : Int) {ks : List Int} {err : Int} (hr : Rd w 3 tripE A m l) (hm : m ≤ 1099511627776) (hW : WayRR n s t l ks err) : Calls Try.prog 25 #[.int .i64 n, .slice A m c, .int .i64 s, .int .i64 t] w fun e w' => ∃ A' k c', e = .returned (.tuple #[.slice A' k c', .int .i64 err]) ∧ Rd w' 1 (numE .i64) A' k ks ∧ k ≤ 1099511627776 ∧ Below w.heap.size w w' := by
  rcases hW with ⟨hc, rfl, rfl⟩ | ⟨hc, hs, rfl, rfl⟩ | ⟨hc, N, S, D, rfl, rfl, hS, hD, ⟨ht, rfl, rfl⟩ | ⟨T, rfl, hT, hW⟩⟩
  · refine (rWay_bad (c := c) n s t hr hm hc).mono ?_
    rintro e w' ⟨rfl, hb⟩
    exact ⟨none, 0, 0, rfl, rd_none _ _ _, by decide, hb⟩
  · refine (rWay_args (c := c) n s t hr hm hc hs).mono ?_
    rintro e w' ⟨rfl, hb⟩
    exact ⟨none, 0, 0, rfl, rd_none _ _ _, by decide, hb⟩
  · refine (rWay_argt (c := c) N S t D hr hm hc hS ht hD).mono ?_
    rintro e w' ⟨rfl, hb⟩
    exact ⟨none, 0, 0, rfl, rd_none _ _ _, by decide, hb⟩
  · refine (rWay_ok (c := c) N S T D hr hm hc hS hT hD).mono ?_
    rintro e w' ⟨hb, hW2⟩
    rcases hW with ⟨hi, rfl, rfl⟩ | ⟨hi, OL, hO, rfl, rfl⟩
    · rcases hW2 with ⟨_, rfl⟩ | ⟨hne, _⟩
      · exact ⟨none, 0, 0, rfl, rd_none _ _ _, by decide, hb⟩
      · exact absurd hi hne
    · rcases hW2 with ⟨he, _⟩ | ⟨_, A', c', OL', hO', rfl, hl, hR⟩
      · exact absurd he hi
      · obtain rfl := hO.uniq hO'
        exact ⟨A', _, c', rfl, hR, hl, hb⟩
end
set_option maxRecDepth 100000 in
theorem lawCalls_any (n : Int) (A : Option Addr) (m c : Nat) (l : List Ed) (sx tx : Int) (w : World) (hr : Rd w 3 tripE A m l) :
    Calls Try.prog 6 #[.int .i64 n, .slice A m c, .int .i64 sx, .int .i64 tx] w fun e w' => e = .returned (.bool true) ∧ Below w.heap.size w w' := by
  go_enter Try.func6, Try.ntmps6
  go_wp2_with fail
  refine (lives13_any _).mono ?_; rintro e w1 ⟨rfl, hb1⟩
  have r1 := Lib.hid (hr.below hb1)
  have hb1h := Lib.hid hb1
  clear hr hb1
  by_cases h1 : 60 < m
  · have hd1 : decide ((60 : Int) < (m : Int)) = true := decide_eq_true (by omega)
    go_wp2_with fail
    go_returns
    exact ⟨rfl, hb1h.out⟩
  have hd1 : decide ((60 : Int) < (m : Int)) = false := decide_eq_false (by omega)
  by_cases h2 : 60 < n ∧ n ≤ 256
  · have hd2 : decide (60 < n) = true := decide_eq_true h2.1
    have hd3 : decide (n ≤ 256) = true := decide_eq_true h2.2
    go_wp2_with fail
    go_returns
    exact ⟨rfl, hb1h.out⟩
  have hm : m ≤ 1099511627776 := by omega
  have hO := Lib.hid (ownE_any A m c l w1 r1.out hm)
  have key : Hid (∀ Q, (decide (60 < n) = false → Q) → (decide (60 < n) = true → decide (n ≤ 256) = false → Q) → Q) := fun Q a b => by
    by_cases h : 60 < n
    · exact b (decide_eq_true h) (decide_eq_false (by omega))
    · exact a (decide_eq_false h)
  clear h2
  refine key.out _ (fun d2 => ?_) (fun d2 d3 => ?_)
  all_goals
    clear key
    go_wp2_with fail
    refine hO.out.mono ?_; rintro e w2 ⟨v, rfl, own, hb2⟩
    obtain ⟨A2, c2, rfl, rO, _, _⟩ := Rd.of_own (enc := tripE) tripE_len r1.out.len own
    have hF := Lib.hid (From_any (c := c2) n sx rO hm)
    have r2 := Lib.hid (r1.out.below hb2)
    have hbw2 := Lib.hid (hb1h.out.trans (hb2.mono hb1h.out.size))
    clear own rO hb2 hO
    go_wp2_with fail
    refine hF.out.mono ?_; rintro e w3 ⟨Aa, ka, ca, xs, err, rfl, hFR, hra, hka, hb3⟩
    have hra3 := Lib.hid hra
    have hFRh := Lib.hid hFR
    have r3 := Lib.hid (r2.out.below hb3)
    have hbw3 := Lib.hid (hbw2.out.trans (hb3.mono hbw2.out.size))
    have hG := Lib.hid (rFrom_same (c := c) n sx r3.out hm hFR)
    clear hF hra hFR hb3 r2 hbw2
    go_wp2_with fail
    refine hG.out.mono ?_; rintro e w4 ⟨Ab, kb, cb, rfl, hrb, hkb, hb4⟩
    have hra4 := Lib.hid (hra3.out.below hb4)
    have hrb4 := Lib.hid hrb
    have r4 := Lib.hid (r3.out.below hb4)
    have hbw4 := Lib.hid (hbw3.out.trans (hb4.mono hbw3.out.size))
    have hW := Lib.hid (Way_any (c := c) n sx tx hFRh.out r4.out hm)
    clear hG hrb hra3 hb4 r3 hbw3
    go_wp2_with fail
    refine hW.out.mono ?_; rintro e w5 ⟨Ac, kc, cc, ks, err2, rfl, hWR, hrc, hkc, hb5⟩
    have hra5 := Lib.hid (hra4.out.below hb5)
    have hrb5 := Lib.hid (hrb4.out.below hb5)
    have hrc5 := Lib.hid hrc
    have r5 := Lib.hid (r4.out.below hb5)
    have hbw5 := Lib.hid (hbw4.out.trans (hb5.mono hbw4.out.size))
    have hV := Lib.hid (rWay_same (c := c) n sx tx r5.out hm hWR)
    clear hW hWR hrc hra4 hrb4 hb5 r4 hbw4 hFRh
    go_wp2_with fail
    refine hV.out.mono ?_; rintro e w6 ⟨Ad, kd, cd, rfl, hrd, hkd, hb6⟩
    have hra6 := Lib.hid (hra5.out.below hb6)
    have hrb6 := Lib.hid (hrb5.out.below hb6)
    have hrc6 := Lib.hid (hrc5.out.below hb6)
    have hrd6 := Lib.hid hrd
    have r6 := Lib.hid (r5.out.below hb6)
    have hbw6 := Lib.hid (hbw5.out.trans (hb6.mono hbw5.out.size))
    have hX := Lib.hid (All_any (c := c) n r6.out hm)
    clear hV hrd hra5 hrb5 hrc5 hb6 r5 hbw5
    go_wp2_with fail
    refine hX.out.mono ?_; rintro e w7 ⟨Ae, ke, ce, Le, De, err3, rfl, hAR, hre, hDe, hke, hb7⟩
    have hra7 := Lib.hid (hra6.out.below hb7)
    have hrb7 := Lib.hid (hrb6.out.below hb7)
    have hrc7 := Lib.hid (hrc6.out.below hb7)
    have hrd7 := Lib.hid (hrd6.out.below hb7)
    have hre7 := Lib.hid hre
    have hDe7 := Lib.hid hDe
    have r7 := Lib.hid (r6.out.below hb7)
    have hbw7 := Lib.hid (hbw6.out.trans (hb7.mono hbw6.out.size))
    have hY := Lib.hid (rAll_same (c := c) n r7.out hm hAR)
    clear hX hAR hre hDe hra6 hrb6 hrc6 hrd6 hb7 r6 hbw6
    go_wp2_with fail
    refine hY.out.mono ?_; rintro e w8 ⟨Af, cf, Lf, rfl, hrf, hDf, hb8⟩
    have hra8 := Lib.hid (hra7.out.below hb8)
    have hrb8 := Lib.hid (hrb7.out.below hb8)
    have hrc8 := Lib.hid (hrc7.out.below hb8)
    have hrd8 := Lib.hid (hrd7.out.below hb8)
    have hre8 := Lib.hid (hre7.out.below hb8)
    have hDe8 := Lib.hid (hDe7.out.below hb8)
    have hrf8 := Lib.hid hrf
    have hDf8 := Lib.hid hDf
    have r8 := Lib.hid (r7.out.below hb8)
    have hbw8 := Lib.hid (hbw7.out.trans (hb8.mono hbw7.out.size))
    clear hY hrf hDf hra7 hrb7 hrc7 hrd7 hre7 hDe7 hb8 r7 hbw7
    have hS1 := Lib.hid (sameL_any Aa ka ca xs Ab kb cb xs w8 hra8.out hrb8.out hka hkb)
    rw [decide_eq_true rfl] at hS1
    have e1 : (err == err) = true := by simp
    have e2 : (err2 == err2) = true := by simp
    have e3 : (err3 == err3) = true := by simp
    go_wp2_with fail
    refine hS1.out.mono ?_; rintro e w9 ⟨rfl, hb9⟩
    have hS2 := Lib.hid (sameN_any Ac kc cc ks Ad kd cd ks w9 (hrc8.out.below hb9) (hrd8.out.below hb9) hkc hkd)
    rw [decide_eq_true rfl] at hS2
    go_wp2_with fail
    refine hS2.out.mono ?_; rintro e w10 ⟨rfl, hb10⟩
    have hb910 := hb9.trans (hb10.mono hb9.size)
    have hL := Lib.hid (lists_any Ae Af ke ce cf Le Lf De w10 (hre8.out.below hb910) (hrf8.out.below hb910) (hDe8.out.below hb910) (hDf8.out.below hb910) hke)
    go_wp2_with fail
    refine hL.out.mono ?_; rintro e w11 ⟨rfl, hb11⟩
    have hb911 := hb910.trans (hb11.mono hb910.size)
    have hK := Lib.hid (chk_any n A m c l w11 (r8.out.below hb911) hm)
    have hbw11 := Lib.hid (hbw8.out.trans (hb911.mono hbw8.out.size))
    have r11 := Lib.hid (r8.out.below hb911)
    clear hb9 hb10 hb910 hb11 hb911
    obtain ⟨q, hq⟩ : ∃ q, chkE n l = q := ⟨_, rfl⟩
    rw [hq] at hK
    have hqh := Lib.hid hq
    clear hq
    have e4 : (q == q) = true := by simp
    go_wp2_with fail
    refine hK.out.mono ?_; rintro e w12 ⟨rfl, hb12⟩
    have hJ := Lib.hid (rchk_any n A m c l w12 (r11.out.below hb12) hm)
    rw [hqh.out] at hJ
    have hbw12 := Lib.hid (hbw11.out.trans (hb12.mono hbw11.out.size))
    clear hb12
    go_wp2_with fail
    refine hJ.out.mono ?_; rintro e w13 ⟨rfl, hb13⟩
    go_wp2_with fail
    go_returns
    exact ⟨rfl, hbw12.out.trans (hb13.mono hbw12.out.size)⟩
end Go.Proofs.Ytapfndjaimfcaaa
