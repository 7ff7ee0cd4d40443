/-
  Walk: the reference's Way (gen9.py).
-/
import Derived.Test.YtapfndjaimfcaaaRefTop13
namespace Go.Proofs.Ytapfndjaimfcaaa
open Go.RowKit Go.Shelf B K
set_option linter.unusedVariables false
set_option linter.unusedSimpArgs false
set_option maxHeartbeats 4000000
theorem idx_before {α : Type} {p : α → Bool} {l : List α} {k j : Nat} {x : α} (h : idx p l = (k : Int)) (hj : j < k) (hx : l[j]? = some x) : p x = false := by
  unfold idx at h
  split at h
  · have hlt : j < l.findIdx p := by omega
    have h1 := List.not_of_lt_findIdx hlt
    obtain ⟨hl, rfl⟩ := List.getElem?_eq_some_iff.1 hx
    simpa using h1
  · omega
theorem own_lit1 (w : World) (base : Nat) (k : Int) (hb : base ≤ w.heap.size) : (w.alloc (.cells #[.int .i64 k] 3)).ownsRow base 3 1 (.slice (some ⟨w.heap.size, 0, none⟩) 1 1) [k].length ([k].flatMap (numE .i64)) := by
  refine ⟨by simp [numE], .inr ⟨w.heap.size, 1, #[.int .i64 k], rfl, hb, heap_alloc_new w _, Nat.le_refl _, by decide, by simp, by simp [numE]⟩⟩
section
variable {A : Option Addr} {m c : Nat} {l : List Ed} {w : World}
theorem rWay_bad (n s t : Int) (hr : Rd w 3 tripE A m l) (hm : m ≤ 1099511627776) (hc : chkE n l ≠ 0) :
    Calls Try.prog 25 #[.int .i64 n, .slice A m c, .int .i64 s, .int .i64 t] w fun e w' => e = .returned (.tuple #[.slice none 0 0, .int .i64 (chkE n l)]) ∧ Below w.heap.size w w' := by
  have hC := Lib.hid (rFrom_bad (c := c) n s hr hm hc)
  obtain ⟨q, hq⟩ : ∃ q, chkE n l = q := ⟨_, rfl⟩
  rw [hq] at hC hc ⊢
  have hd : (q != 0) = true := by simpa using hc
  clear hr hq
  go_enter Try.func25, Try.ntmps25
  go_wp2_with fail
  refine hC.out.mono ?_; rintro e w1 ⟨rfl, hb⟩
  go_wp2_with fail
  go_returns
  exact ⟨rfl, hb⟩
theorem rWay_args (n s t : Int) (hr : Rd w 3 tripE A m l) (hm : m ≤ 1099511627776) (hc : chkE n l = 0) (hs : s < 0 ∨ n ≤ s) :
    Calls Try.prog 25 #[.int .i64 n, .slice A m c, .int .i64 s, .int .i64 t] w fun e w' => e = .returned (.tuple #[.slice none 0 0, .int .i64 2]) ∧ Below w.heap.size w w' := by
  have hC := Lib.hid (rFrom_arg (c := c) n s hr hm hc hs)
  clear hr hc hs
  go_enter Try.func25, Try.ntmps25
  go_wp2_with fail
  refine hC.out.mono ?_; rintro e w1 ⟨rfl, hb⟩
  go_wp2_with fail
  go_returns
  exact ⟨rfl, hb⟩
theorem rWay_argt (n s : Nat) (t : Int) (D : List Int) (hr : Rd w 3 tripE A m l) (hm : m ≤ 1099511627776) (hc : chkE n l = 0) (hs : s < n) (ht : t < 0 ∨ (n : Int) ≤ t) (hD : IsDist n l s D) :
    Calls Try.prog 25 #[.int .i64 n, .slice A m c, .int .i64 s, .int .i64 t] w fun e w' => e = .returned (.tuple #[.slice none 0 0, .int .i64 2]) ∧ Below w.heap.size w w' := by
  have hC := Lib.hid (rFrom_ok (c := c) n s D hr hm hc hs hD)
  clear hr hc hs hD
  by_cases h0 : t < 0
  · have hd0 : decide (t < 0) = true := decide_eq_true h0
    go_enter Try.func25, Try.ntmps25
    go_wp2_with fail
    refine hC.out.mono ?_; rintro e w1 ⟨fb, rfl, _, _, hb⟩
    go_wp2_with fail
    go_returns
    exact ⟨rfl, hb⟩
  · have hd0 : decide (t < 0) = false := decide_eq_false h0
    have hd1 : decide ((n : Int) ≤ t) = true := decide_eq_true (by omega)
    go_enter Try.func25, Try.ntmps25
    go_wp2_with fail
    refine hC.out.mono ?_; rintro e w1 ⟨fb, rfl, _, _, hb⟩
    go_wp2_with fail
    go_returns
    exact ⟨rfl, hb⟩
set_option maxRecDepth 100000 in
theorem rWay_ok (n s t : Nat) (D : List Int) (hr : Rd w 3 tripE A m l) (hm : m ≤ 1099511627776) (hc : chkE n l = 0) (hs : s < n) (ht : t < n) (hD : IsDist n l s D) :
    Calls Try.prog 25 #[.int .i64 n, .slice A m c, .int .i64 s, .int .i64 t] w fun e w' => WayR l D s t w w' e := by
  have hC := Lib.hid (rFrom_ok (c := c) n s D hr hm hc hs hD)
  have hE := Lib.hid (eds_ok hc)
  have hml := Lib.hid hr.len
  have hrh := Lib.hid hr
  have hDh := Lib.hid hD
  obtain ⟨vt, hvt⟩ := hD.get ht
  have hrng := hD.rng t vt hvt
  have hvth := Lib.hid hvt
  have hd0 : decide ((t : Int) < 0) = false := decide_eq_false (by omega)
  have hd1 : decide ((n : Int) ≤ (t : Int)) = false := decide_eq_false (by omega)
  have ht4 : (t : Int) < (n : Int) := by omega
  have hnt : ¬ n ≤ t := by omega
  clear hr hc hD hvt
  go_enter Try.func25, Try.ntmps25
  go_wp2_with fail
  refine hC.out.mono ?_; rintro e w1 ⟨fb, rfl, _, hf, hb⟩
  have mt : w1.cell? ⟨fb, t, none⟩ = some (.int .i64 vt) := ivs_cell hf hvth.out
  have hfl := (Array.getElem?_eq_some_iff.1 hf).1
  have hfh := Lib.hid hf
  have hbh := Lib.hid hb
  clear hC hf hb
  by_cases hinf : vt = 4611686018427387904
  · have hq : (vt == 4611686018427387904) = true := by simpa using hinf
    go_wp2_with fail
    go_returns
    exact ⟨hbh.out, .inl ⟨by rw [hvth.out, hinf], rfl⟩⟩
  have hq : (vt == 4611686018427387904) = false := by simpa using hinf
  have hvr : 0 ≤ vt ∧ vt ≤ 1099511627776 := by omega
  have hOh : Hid (D[t]? ≠ some 4611686018427387904) := fun h => hinf (by rw [hvth.out] at h; exact Option.some.inj h)
  have hinv : Hid (∃ (OL : List Int) (t1 : Nat) (v1 : Int), w1.ownsRow w1.heap.size 3 1 (.slice none 0 0) OL.length (OL.reverse.flatMap (numE .i64)) ∧ t = t1 ∧ t1 < n ∧ D[t1]? = some v1 ∧ 0 ≤ v1 ∧ v1 ≤ 1099511627776 ∧ vt.toNat = v1.toNat ∧ OL.length + v1.toNat ≤ 1099511627776 ∧ (∀ ks, WayTo l D s t1 ks → WayTo l D s t (OL ++ ks)) ∧ Below w1.heap.size w1 w1) :=
    ⟨[], t, vt, World.ownsRow_nil _ _ _ _, rfl, ht, hvth.out, hvr.1, hvr.2, rfl, by simp; omega, fun ks h => h, Below.refl _ _⟩
  clear hinf hrng
  go_wp2_with fail
  clear mt hq hvr
  go_loopg [3, 12] vt.toNat (fun g tv v wr => ∃ (OL : List Int) (t1 : Nat) (v1 : Int), wr.ownsRow w1.heap.size 3 1 v OL.length (OL.reverse.flatMap (numE .i64)) ∧ tv = .int .i64 t1 ∧ t1 < n ∧ D[t1]? = some v1 ∧ 0 ≤ v1 ∧ v1 ≤ 1099511627776 ∧ g = v1.toNat ∧ OL.length + v1.toNat ≤ 1099511627776 ∧ (∀ ks, WayTo l D s t1 ks → WayTo l D s t (OL ++ ks)) ∧ Below w1.heap.size w1 wr)
  case atStart =>
    obtain ⟨OL, t1, v1, h1, rfl, h2⟩ := hinv.out
    exact ⟨OL, t, v1, h1, rfl, h2⟩
  case round =>
    clear hinv
    obtain ⟨OL, t1, v1, own, rfl, ht1, hv1, hv10, hv1t, rfl, hlen, hway, hbr⟩ := hrel
    have hOr : OL.reverse.length = OL.length := List.length_reverse
    obtain ⟨AO, cO, rfl, r1, r2, r3⟩ := Rd.of_own (enc := numE .i64) numE_len hOr own
    by_cases hts : t1 = s
    · subst hts
      have hne : ((t1 : Int) != (t1 : Int)) = false := by simp
      have hw := hway [] .nil
      rw [List.append_nil] at hw
      have hwh := Lib.hid hw
      have hbrh := Lib.hid hbr
      have r1h := Lib.hid r1
      have hbl : OL.length ≤ 1099511627776 := by omega
      clear hw hway hbr own r1 hlen hv1
      go_wp2_with fail
      go_returns
      exact ⟨hbh.out.trans (hbrh.out.mono hbh.out.size), .inr ⟨hOh.out, AO, cO, OL, hwh.out, rfl, hbl, r1h.out⟩⟩
    · have hne : ((t1 : Int) != (s : Int)) = true := by simp; omega
      obtain ⟨k, t2, e, v2, hidx, hx, he1, he2, hv2, hsum, hv20, hv2lt⟩ := hDh.out.back hE.out hv1 hv1t hts
      have hkm : k < m := by rw [← hml.out]; exact (List.getElem?_eq_some_iff.1 hx).1
      have hsp := idx_spec hidx hx
      have hxh := Lib.hid hx
      have hidxh := Lib.hid hidx
      have hsph := Lib.hid hsp
      have hwayh := Lib.hid hway
      have hownh := Lib.hid own
      have hlenh := Lib.hid hlen
      have hbrh := Lib.hid hbr
      have r1h := Lib.hid r1
      have hv1h := Lib.hid hv1
      have hv2h := Lib.hid hv2
      have htn : (t1 : Int) < (n : Int) := by omega
      clear hx hidx hsp hway own hlen hbr r1 hv1 hv2 he2
      obtain ⟨wl, hwl⟩ : ∃ q, wr = q := ⟨_, rfl⟩
      rw [hwl] at hownh hbrh r1h ⊢
      clear hwl
      go_wp2_with fail
      go_loopw [13] (fun i wq => ∃ (j : Nat), j ≤ k ∧ i = .int .i64 j ∧ Hid (Below wl.heap.size wl wq)) (fun i _ => k - (intOf i).toNat)
      case atStart => exact ⟨0, Nat.zero_le _, rfl, Below.refl _ _⟩
      case round =>
        obtain ⟨j, hjk, rfl, hbq⟩ := hrel
        have hbwr := hbrh.out.trans (hbq.out.mono hbrh.out.size)
        have hb0 := hbh.out.trans (hbwr.mono hbh.out.size)
        have hjm : j < m := by omega
        obtain ⟨b, o, x1, x2, x3, rfl, hbs, hxj, p1', p2', p3'⟩ := hrh.out.trip hjm
        have hbE := hE.out _ (List.mem_of_getElem? hxj)
        simp only at hbE
        obtain ⟨i1, rfl⟩ : ∃ i1 : Nat, x1 = i1 := ⟨x1.toNat, by omega⟩
        obtain ⟨u, hu⟩ := hDh.out.get (i := i1) (by omega)
        have hru := hDh.out.rng i1 u hu
        have hfr := (hbwr.block fb hfl).trans hfh.out
        have mu : wr.cell? ⟨fb, i1, none⟩ = some (.int .i64 u) := ivs_cell hfr hu
        have mt : wr.cell? ⟨fb, t1, none⟩ = some (.int .i64 v1) := ivs_cell hfr hv1h.out
        have zfb := (Array.getElem?_eq_some_iff.1 hfr).1
        have p1 := (hb0.cell (p := ⟨b, o + j * 3, none⟩) hbs).trans p1'
        have p2 := (hb0.cell (p := ⟨b, o + j * 3 + 1, none⟩) hbs).trans p2'
        have p3 := (hb0.cell (p := ⟨b, o + j * 3 + 2, none⟩) hbs).trans p3'
        have zb := Nat.lt_of_lt_of_le hbs hb0.size
        have hjm2 : (j : Int) < (m : Int) := by omega
        have hi1 : (i1 : Int) < (n : Int) := hbE.2.1
        have hst : stepP D t1 ((i1 : Int), x2, x3) = (decide (x2 = (t1 : Int)) && (decide (u ≠ 4611686018427387904) && decide (u + x3 = v1))) := by
          unfold stepP
          simp only [Int.toNat_natCast, hu, hv1h.out, Option.getD_some]
        have hno : Hid (stepP D t1 ((i1 : Int), x2, x3) = false → j < k) := fun h => by
          rcases Nat.lt_or_ge j k with h1 | h1
          · exact h1
          · exfalso
            obtain rfl : j = k := by omega
            rw [hxh.out] at hxj
            cases hxj
            rw [hsph.out] at h
            cases h
        have hyes : Hid (stepP D t1 ((i1 : Int), x2, x3) = true → j = k) := fun h => by
          rcases Nat.lt_or_ge j k with h1 | h1
          · exfalso
            rw [idx_before hidxh.out h1 hxj] at h
            cases h
          · omega
        have hb0h := Lib.hid hb0
        rw [hst] at hno hyes
        have hlo := hbE.2.2.2.2.2
        have hxjh := Lib.hid hxj
        clear hxj hu hfr hst hbwr hb0 hbE p1' p2' p3'
        by_cases c1 : x2 = (t1 : Int)
        rotate_left
        · have e1 : (x2 != (t1 : Int)) = true := by simpa using c1
          have hjk2 := hno.out (by rw [decide_eq_false c1]; rfl)
          clear hno hyes c1 hru
          go_wp2_with fail
          go_upto_region 11 with fail
          refine wp_region_below wr.heap.size (by kernel_rfl) (by kernel_rfl) ?_
          intro C hC
          repeat (go_big_quiet_step (first
            | ((intro _; with_reducible rfl))
            | (intro hc; have m0 := (hc.cell (p := ⟨b, o + j * 3, none⟩) zb).trans p1; have m1 := (hc.cell (p := ⟨b, o + j * 3 + 1, none⟩) zb).trans p2; have m2 := (hc.cell (p := ⟨b, o + j * 3 + 2, none⟩) zb).trans p3; have m3 := (hc.cell (p := ⟨fb, i1, none⟩) zfb).trans mu; have m4 := (hc.cell (p := ⟨fb, t1, none⟩) zfb).trans mt; simp only [m0, m1, m2, m3, m4, Result.andThen]; exact ⟨trivial, rfl⟩)))
          refine wpQuiet_nil ?_
          intro w9 hb9
          clear hC
          have hfin := Lib.hid (hbq.out.trans (hb9.mono hbq.out.size))
          clear hb9
          go_wp2_with fail
          go_roundw
          case rel => exact ⟨j + 1, by omega, by go_num, hfin.out⟩
          case measure => simp [intOf]; omega
        · have e1 : (x2 != (t1 : Int)) = false := by simpa using c1
          rw [decide_eq_true c1] at hno hyes
          by_cases c2 : u = 4611686018427387904
          · have e2 : (u == 4611686018427387904) = true := by simpa using c2
            have hjk2 := hno.out (by rw [decide_eq_false (fun h => h c2)]; rfl)
            clear hno hyes c1 c2 hru
            go_wp2_with fail
            go_upto_region 11 with fail
            refine wp_region_below wr.heap.size (by kernel_rfl) (by kernel_rfl) ?_
            intro C hC
            repeat (go_big_quiet_step (first
              | ((intro _; with_reducible rfl))
              | (intro hc; have m0 := (hc.cell (p := ⟨b, o + j * 3, none⟩) zb).trans p1; have m1 := (hc.cell (p := ⟨b, o + j * 3 + 1, none⟩) zb).trans p2; have m2 := (hc.cell (p := ⟨b, o + j * 3 + 2, none⟩) zb).trans p3; have m3 := (hc.cell (p := ⟨fb, i1, none⟩) zfb).trans mu; have m4 := (hc.cell (p := ⟨fb, t1, none⟩) zfb).trans mt; simp only [m0, m1, m2, m3, m4, Result.andThen]; exact ⟨trivial, rfl⟩)))
            refine wpQuiet_nil ?_
            intro w9 hb9
            clear hC
            have hfin := Lib.hid (hbq.out.trans (hb9.mono hbq.out.size))
            clear hb9
            go_wp2_with fail
            go_roundw
            case rel => exact ⟨j + 1, by omega, by go_num, hfin.out⟩
            case measure => simp [intOf]; omega
          · have e2 : (u == 4611686018427387904) = false := by simpa using c2
            have hwr : IntKind.i64.wrap (u + x3) = u + x3 := by rw [IntKind.wrap_i64]; omega
            rw [decide_eq_true c2] at hno hyes
            by_cases c3 : u + x3 = v1
            rotate_left
            · have e3 : (u + x3 != v1) = true := by simpa using c3
              have hjk2 := hno.out (by rw [decide_eq_false c3]; rfl)
              clear hno hyes c1 c2 c3 hru
              go_wp2_with fail
              go_upto_region 11 with fail
              refine wp_region_below wr.heap.size (by kernel_rfl) (by kernel_rfl) ?_
              intro C hC
              repeat (go_big_quiet_step (first
                | ((intro _; with_reducible rfl))
                | (intro hc; have m0 := (hc.cell (p := ⟨b, o + j * 3, none⟩) zb).trans p1; have m1 := (hc.cell (p := ⟨b, o + j * 3 + 1, none⟩) zb).trans p2; have m2 := (hc.cell (p := ⟨b, o + j * 3 + 2, none⟩) zb).trans p3; have m3 := (hc.cell (p := ⟨fb, i1, none⟩) zfb).trans mu; have m4 := (hc.cell (p := ⟨fb, t1, none⟩) zfb).trans mt; simp only [m0, m1, m2, m3, m4, Result.andThen]; exact ⟨trivial, rfl⟩)))
              refine wpQuiet_nil ?_
              intro w9 hb9
              clear hC
              have hfin := Lib.hid (hbq.out.trans (hb9.mono hbq.out.size))
              clear hb9
              go_wp2_with fail
              go_roundw
              case rel => exact ⟨j + 1, by omega, by go_num, hfin.out⟩
              case measure => simp [intOf]; omega
            · have e3 : (u + x3 != v1) = false := by simpa using c3
              obtain rfl := hyes.out (by rw [decide_eq_true c3]; rfl)
              clear hno hyes c1 c2 c3 hru
              go_wp2_with fail
              go_upto_region 11 with fail
              refine wp_region_below wr.heap.size (by kernel_rfl) (by kernel_rfl) ?_
              intro C hC
              repeat (go_big_quiet_step (first
                | ((intro _; with_reducible rfl))
                | (intro hc; have m0 := (hc.cell (p := ⟨b, o + j * 3, none⟩) zb).trans p1; have m1 := (hc.cell (p := ⟨b, o + j * 3 + 1, none⟩) zb).trans p2; have m2 := (hc.cell (p := ⟨b, o + j * 3 + 2, none⟩) zb).trans p3; have m3 := (hc.cell (p := ⟨fb, i1, none⟩) zfb).trans mu; have m4 := (hc.cell (p := ⟨fb, t1, none⟩) zfb).trans mt; simp only [m0, m1, m2, m3, m4, Result.andThen]; exact ⟨trivial, rfl⟩)))
              refine wpQuiet_nil ?_
              intro w9 hb9
              clear hC
              have hbw9 := Lib.hid (hbrh.out.trans ((hbq.out.trans (hb9.mono hbq.out.size)).mono hbrh.out.size))
              have r9 := Lib.hid (r1h.out.below (hbq.out.trans (hb9.mono hbq.out.size)))
              have q1 := (hb9.cell (p := ⟨b, o + j * 3, none⟩) zb).trans p1
              have zb9 := Nat.lt_of_lt_of_le zb hb9.size
              clear hb9 mu mt p1 p2 p3
              have ha := (Below.refl _ w9).alloc (Nat.le_refl w9.heap.size) (.cells #[.int .i64 (j : Int)] 3)
              obtain ⟨v', w10, hrun, own1, hgr, hnew⟩ := own_append (enc := numE .i64) Try.underlying33 infoInt rfl (by decide) numE_len numE_one cO (own_lit1 w9 w1.heap.size (j : Int) hbw9.out.size) (r9.out.below ha) (by have := hlenh.out; simp; omega) (by decide) (by have := hbw9.out.size; have := ha.size; omega)
              have hb10 : Below w1.heap.size w1 w10 := (hbw9.out.trans (ha.mono hbw9.out.size)).grown hgr (by have := hbw9.out.size; have := ha.size; omega) (fun k hk => by simp [Value.ownBlock] at hk; have := hbw9.out.size; omega)
              have q10 : w10.cell? ⟨b, o + j * 3, none⟩ = some (.int .i64 i1) := by
                refine (World.cell?_of_block (hgr.block b (Nat.lt_of_lt_of_le zb9 ha.size) ?_)).trans ((ha.cell (p := ⟨b, o + j * 3, none⟩) zb9).trans q1)
                simp [Value.ownBlock]; omega
              obtain rfl : i1 = t2 := by
                have h1 := hxh.out
                rw [hxjh.out] at h1
                cases h1
                simp only at he1
                omega
              have eL : [(j : Int)].length + OL.length = (OL ++ [(j : Int)]).length := by simp; omega
              have eR : [(j : Int)] ++ OL.reverse = (OL ++ [(j : Int)]).reverse := by simp
              rw [eL, eR] at own1
              have hfin : Hid (w10.ownsRow w1.heap.size 3 1 v' (OL ++ [(j : Int)]).length ((OL ++ [(j : Int)]).reverse.flatMap (numE .i64)) ∧ (OL ++ [(j : Int)]).length + v2.toNat ≤ 1099511627776 ∧ (∀ ks, WayTo l D s i1 ks → WayTo l D s t ((OL ++ [(j : Int)]) ++ ks)) ∧ Below w1.heap.size w1 w10) := by
                refine ⟨own1, by have := hlenh.out; simp; omega, fun ks h => ?_, hb10⟩
                rw [List.append_assoc]
                exact hwayh.out _ (.cons hts hidxh.out hxh.out he1 h)
              obtain ⟨A7, c7, rfl, _, _, _⟩ := Rd.of_own (enc := numE .i64) numE_len (by simp) own1
              have zb10 : b < w10.heap.size := Nat.lt_of_lt_of_le (Nat.lt_of_lt_of_le zb9 ha.size) hgr.size
              have hgoal : Hid (i1 < n ∧ D[i1]? = some v2 ∧ 0 ≤ v2 ∧ v2 ≤ 1099511627776 ∧ v2.toNat < v1.toNat) := ⟨by omega, hv2h.out, hv20, by omega, by omega⟩
              clear own1 hgr hnew ha hb10 eL eR q1
              go_wp2_with (at_builtin; refine wpList_append_run ?a1 (.tmp 81) (.tmp 82) 33 ?a2 ?a3 ?a4 hrun ?_)
              case a1 => rfl
              case a2 => rfl
              try (case a3 => rfl)
              try (case a4 => rfl)
              go_roundg v2.toNat
              case measure => exact hgoal.out.2.2.2.2
              case rel => exact ⟨OL ++ [(j : Int)], i1, v2, (by have h := hfin.out.1; rw [show (Value.slice A7 (OL ++ [(j : Int)]).length c7) = .slice A7 (OL.length + 1) c7 from by rw [List.length_append]; rfl] at h; exact h), rfl, hgoal.out.1, hgoal.out.2.1, hgoal.out.2.2.1, hgoal.out.2.2.2.1, rfl, hfin.out.2.1, hfin.out.2.2.1, hfin.out.2.2.2⟩
end
end Go.Proofs.Ytapfndjaimfcaaa
