/-
  Walks: closure.Len, closure.Within, the document's Len and Within (clo/gen4.py).
-/
import Derived.Test.YtonkkibnigdfbaaMapP
import Derived.Test.YtonkkibnigdfbaaNearV
import Derived.Test.YtonkkibnigdfbaaClPl
namespace Go.Proofs.Ytonkkibnigdfbaa
open Go.RowKit Go.Shelf B K
set_option linter.unusedVariables false
set_option linter.unusedSimpArgs false
set_option maxHeartbeats 2000000
def fP (r : W.Row) (b : Int) : Option Int := (r.find? fun x => decide (x.2 = b)).map Prod.fst
def lenR (r : W.Row) (b : Int) : Int := (fP r b).getD W.inf
def lenC (C : List W.Row) (a b : Int) : Int := if 0 ≤ a ∧ a < C.length then lenR ((C[a.toNat]?).getD []) b else W.inf
def withinR (r : W.Row) (most : Int) : List Int := (r.filter fun x => decide (x.1 ≤ most)).map Prod.snd
def withinC (C : List W.Row) (a most : Int) : List Int := if 0 ≤ a ∧ a < C.length then withinR ((C[a.toNat]?).getD []) most else []
theorem fP_nil (b : Int) : fP [] b = none := rfl
theorem fP_snoc (r : W.Row) (x : It) (b : Int) : fP (r ++ [x]) b = if (fP r b).isSome then fP r b else if x.2 = b then some x.1 else none := by
  unfold fP
  rw [List.find?_append]
  cases h : r.find? (fun x => decide (x.2 = b)) with
  | some y => simp
  | none =>
    by_cases hb : x.2 = b
    · simp [hb]
    · simp [hb]
theorem fP_none {r : W.Row} {b : Int} (h : ∀ y ∈ r, decide (y.2 = b) = false) : fP r b = none := by
  unfold fP
  rw [List.find?_eq_none.2 (fun x hx => by rw [h x hx]; simp)]; rfl
theorem fP_at {r : W.Row} {k : Nat} {x : It} {b : Int} (hx : r[k]? = some x) (hno : ∀ y ∈ r.take k, decide (y.2 = b) = false) (hb : x.2 = b) : fP r b = some x.1 := by
  have : r = r.take k ++ x :: r.drop (k + 1) := by rw [← drop_at hx, List.take_append_drop]
  unfold fP
  rw [this, List.find?_append, List.find?_eq_none.2 (fun x hx => by rw [hno x hx]; simp)]
  simp [hb]
theorem lenC_out {C : List W.Row} {a b : Int} (h : ¬ (0 ≤ a ∧ a < C.length)) : lenC C a b = W.inf := if_neg h
theorem lenC_in {C : List W.Row} {k : Nat} {b : Int} {l : W.Row} (h : C[k]? = some l) : lenC C (k : Int) b = lenR l b := by
  have hlt := (List.getElem?_eq_some_iff.1 h).1
  unfold lenC
  rw [if_pos ⟨by omega, by omega⟩, show ((k : Int)).toNat = k from rfl, h]; rfl
theorem withinC_out {C : List W.Row} {a b : Int} (h : ¬ (0 ≤ a ∧ a < C.length)) : withinC C a b = [] := if_neg h
theorem withinC_in {C : List W.Row} {k : Nat} {b : Int} {l : W.Row} (h : C[k]? = some l) : withinC C (k : Int) b = withinR l b := by
  have hlt := (List.getElem?_eq_some_iff.1 h).1
  unfold withinC
  rw [if_pos ⟨by omega, by omega⟩, show ((k : Int)).toNat = k from rfl, h]; rfl
theorem withinR_yes {r : W.Row} {k : Nat} {x : It} {most : Int} (hx : r[k]? = some x) (h : x.1 ≤ most) : withinR (r.take (k + 1)) most = withinR (r.take k) most ++ [x.2] := by
  unfold withinR; rw [take_at hx, List.filter_append, List.map_append]; simp [h]
theorem withinR_no {r : W.Row} {k : Nat} {x : It} {most : Int} (hx : r[k]? = some x) (h : ¬ x.1 ≤ most) : withinR (r.take (k + 1)) most = withinR (r.take k) most := by
  unfold withinR; rw [take_at hx, List.filter_append, List.map_append]; simp [h]
theorem withinR_len (r : W.Row) (most : Int) : (withinR r most).length ≤ r.length := by unfold withinR; rw [List.length_map]; exact List.length_filter_le _ _
/-- rows that may be: not too long, numbers that are numbers -/
def RowsWf (C : List W.Row) : Prop := C.length ≤ 1000000 ∧ ∀ l ∈ C, l.length ≤ 1000000 ∧ ∀ x ∈ l, (Lit.int .i64 x.1).wf = true ∧ (Lit.int .i64 x.2).wf = true
def RetW (L : List Int) (w : World) (e : Ending) (w' : World) : Prop := ∃ A c, e = .returned (.slice A L.length c) ∧ Rd w' 1 (numE .i64) A L.length L ∧ L.length ≤ c ∧ c ≤ 9223372036854775807 ∧ Below w.heap.size w w'
theorem rLen_any {C : List W.Row} {A : Option Addr} {n : Nat} (c : Nat) (a b : Int) (w : World) (hr : RRows w C A n) (hw : RowsWf C) :
    Calls Try.prog 23 #[.slice A n c, .int .i64 a, .int .i64 b] w fun e w' => e = .returned (.int .i64 (lenC C a b)) ∧ Below w.heap.size w w' := by
  by_cases q1 : a < 0
  · rw [lenC_out (by omega)]
    have e1 : decide (a < 0) = true := decide_eq_true q1
    go_enter Try.func23, Try.ntmps23
    go_wp2_with fail
    go_returns
    exact ⟨rfl, Below.refl _ _⟩
  have e1 : decide (a < 0) = false := decide_eq_false q1
  by_cases q2 : (n : Int) ≤ a
  · rw [lenC_out (by rw [hr.nn]; omega)]
    have e2 : decide ((n : Int) ≤ a) = true := decide_eq_true q2
    go_enter Try.func23, Try.ntmps23
    go_wp2_with fail
    go_returns
    exact ⟨rfl, Below.refl _ _⟩
  have e2 : decide ((n : Int) ≤ a) = false := decide_eq_false q2
  obtain ⟨p, rfl⟩ : ∃ p : Nat, a = p := ⟨a.toNat, by omega⟩
  have hpn : p < n := by omega
  have hpI : (p : Int) < (n : Int) := by omega
  have e2' : decide (n ≤ p) = false := decide_eq_false (by omega)
  obtain ⟨bC, oC, sA, sn, sc, l, rfl, hbC, hCp, f0, rs, _⟩ := hr.row hpn
  have hlw := hw.2 l (List.mem_of_getElem? hCp)
  have hsn := rs.len
  have hsn1 : sn ≤ 1000000 := by omega
  rw [lenC_in hCp]
  have hrs := Lib.hid rs
  have hlH := Lib.hid hsn
  clear rs hsn hr hCp
  go_enter Try.func23, Try.ntmps23
  go_wp2_with fail
  go_loopw [7] (fun i wr => ∃ (k : Nat), k ≤ sn ∧ i = .int .i64 k ∧ Hid (∀ y ∈ l.take k, decide (y.2 = b) = false) ∧ wr = w) (fun i _ => sn - (intOf i).toNat)
  case atStart => exact ⟨0, Nat.zero_le _, rfl, fun y hy => by simp at hy, rfl⟩
  case round =>
    obtain ⟨k, hk, rfl, hno, rfl⟩ := hrel
    by_cases hlt : k < sn
    · obtain ⟨bs, os, x, y, rfl, hbs, hxk, g0, g1⟩ := hrs.out.pair hlt
      have hkI : (k : Int) < (sn : Int) := by omega
      by_cases hyb : y = b
      · have e3 : (y == b) = true := by simp [hyb]
        have hv : Hid (lenR l b = x) := by show _ = _; unfold lenR; rw [fP_at hxk hno.out hyb]; rfl
        clear hxk hno
        subst hyb
        go_wp2_with fail
        go_returns
        exact ⟨ret_int hv.out.symm, Below.refl _ _⟩
      · have e3 : (y == b) = false := by simp [hyb]
        have hno2 : Hid (∀ y ∈ l.take (k + 1), decide (y.2 = b) = false) := take_no (p := fun y : It => decide (y.2 = b)) hxk hno.out (decide_eq_false hyb)
        clear hxk hno hyb
        go_wp2_with fail
        go_roundw
        case rel => exact ⟨k + 1, by omega, by go_num, hno2, by first | rfl | trivial⟩
        case measure => simp [intOf]; omega
    · have hv : Hid (lenR l b = W.inf) := by
        show _ = _
        unfold lenR
        rw [fP_none (fun y hy => hno.out y (by rwa [List.take_of_length_le (by rw [hlH.out]; omega)]))]; rfl
      clear hno
      go_wp2_with fail
      go_returns
      exact ⟨ret_int hv.out.symm, Below.refl _ _⟩
theorem rWithin_any {C : List W.Row} {A : Option Addr} {n : Nat} (c : Nat) (a most : Int) (w : World) (hr : RRows w C A n) (hw : RowsWf C) :
    Calls Try.prog 49 #[.slice A n c, .int .i64 a, .int .i64 most] w (RetW (withinC C a most) w) := by
  by_cases q1 : a < 0
  · rw [withinC_out (by omega)]
    have e1 : decide (a < 0) = true := decide_eq_true q1
    go_enter Try.func49, Try.ntmps49
    go_wp2_with fail
    go_returns
    exact ⟨none, 0, rfl, Rd.nil, by simp, by simp, Below.refl _ _⟩
  have e1 : decide (a < 0) = false := decide_eq_false q1
  by_cases q2 : (n : Int) ≤ a
  · rw [withinC_out (by rw [hr.nn]; omega)]
    have e2 : decide ((n : Int) ≤ a) = true := decide_eq_true q2
    go_enter Try.func49, Try.ntmps49
    go_wp2_with fail
    go_returns
    exact ⟨none, 0, rfl, Rd.nil, by simp, by simp, Below.refl _ _⟩
  have e2 : decide ((n : Int) ≤ a) = false := decide_eq_false q2
  obtain ⟨p, rfl⟩ : ∃ p : Nat, a = p := ⟨a.toNat, by omega⟩
  have hpn : p < n := by omega
  have hpI : (p : Int) < (n : Int) := by omega
  have e2' : decide (n ≤ p) = false := decide_eq_false (by omega)
  obtain ⟨bC, oC, sA, sn, sc, l, rfl, hbC, hCp, f0, rs, _⟩ := hr.row hpn
  have hlw := hw.2 l (List.mem_of_getElem? hCp)
  have hsn := rs.len
  have hsn1 : sn ≤ 1000000 := by omega
  rw [withinC_in hCp]
  have hrs := Lib.hid rs
  have hlH := Lib.hid hsn
  clear rs hsn hr hCp
  go_enter Try.func49, Try.ntmps49
  go_wp2_with fail
  go_loopw [7, 8] (fun v i wr => ∃ (k : Nat), k ≤ sn ∧ i = .int .i64 k ∧ Hid (wr.ownsRow w.heap.size 3 1 v (withinR (l.take k) most).length ((withinR (l.take k) most).flatMap (numE .i64))) ∧ Hid (Below w.heap.size w wr)) (fun _ i _ => sn - (intOf i).toNat)
  case atStart => exact ⟨0, Nat.zero_le _, rfl, World.ownsRow_nil _ _ _ _, Below.refl _ _⟩
  case round =>
    obtain ⟨k, hk, rfl, own, hb⟩ := hrel
    have f0 := (hb.out.cell (p := ⟨bC, _, none⟩) hbC).trans f0
    by_cases hlt : k < sn
    · obtain ⟨bs, os, x, y, rfl, hbs, hxk, g0, g1⟩ := (hrs.out.below hb.out).pair hlt
      have hkI : (k : Int) < (sn : Int) := by omega
      have hwl : Hid ((withinR (l.take k) most).length + 1 ≤ 1099511627776) := by
        show _ ≤ _
        have := withinR_len (l.take k) most
        have := List.length_take_le k l
        omega
      by_cases hxm : x ≤ most
      · have e3 : decide (x ≤ most) = true := decide_eq_true hxm
        obtain ⟨g, cc, w10, hrun, own10, hb10⟩ := pushN y 0 own.out hwl.out hb.out hb.out.size
        rw [← withinR_yes hxk hxm] at own10
        have own10 := Lib.hid own10
        have hb10 := Lib.hid hb10
        have hrun : (Builtin.append_ #[30, 30] 30 #[u7, .slice (some ⟨wr.heap.size, 0, none⟩) 1 1]).run Try.prog (wr.alloc (.cells #[.int .i64 y] 3)) = .ok (.slice (some ⟨g, 0, none⟩) ((withinR (l.take k) most).length + 1) cc) w10 := hrun
        have hlen : Hid ((withinR (l.take (k + 1)) most).length = (withinR (l.take k) most).length + 1) := by show _ = _; rw [withinR_yes hxk hxm, List.length_append]; rfl
        rw [hlen.out] at own10
        obtain ⟨qi, hqi⟩ : ∃ q, (withinR (l.take k) most).length + 1 = q := ⟨_, rfl⟩
        rw [hqi] at hrun own10 hlen
        clear hxk hxm own hqi
        go_wp2_with (at_builtin; refine wpList_append_run ?a1 (.tmp 36) (.tmp 45) 30 ?a2 ?a3 ?a4 hrun ?_)
        case a1 => rfl
        case a2 => rfl
        try (case a3 => rfl)
        try (case a4 => rfl)
        go_roundw
        case rel => exact ⟨k + 1, by omega, by go_num, by rw [hlen.out]; exact own10, hb10⟩
        case measure => simp [intOf]; omega
      · have e3 : decide (x ≤ most) = false := decide_eq_false hxm
        have own2 : Hid (wr.ownsRow w.heap.size 3 1 u7 (withinR (l.take (k + 1)) most).length ((withinR (l.take (k + 1)) most).flatMap (numE .i64))) := by rw [withinR_no hxk hxm]; exact own
        clear hxk hxm own
        go_wp2_with fail
        go_roundw
        case rel => exact ⟨k + 1, by omega, by go_num, own2, hb⟩
        case measure => simp [intOf]; omega
    · have own' := own.out
      rw [List.take_of_length_le (by rw [hlH.out]; omega)] at own'
      obtain ⟨A', c', rfl, r1, h1, h2⟩ := Rd.of_own nume_len rfl own'
      have r1 := Lib.hid r1
      clear own own'
      go_wp2_with fail
      go_returns
      exact ⟨A', c', rfl, r1.out, h1, h2, hb.out⟩
theorem cWithin_any {C : List W.Row} {A : Option Addr} {n : Nat} (c : Nat) (a most : Int) (w : World) (hr : RRows w C A n) (hw : RowsWf C) :
    Calls Try.prog 46 #[.slice A n c, .int .i64 a, .int .i64 most] w (RetW (withinC C a most) w) := by
  by_cases q1 : a < 0
  · rw [withinC_out (by omega)]
    have e1 : decide (a < 0) = true := decide_eq_true q1
    go_enter Try.func46, Try.ntmps46
    go_wp2_with fail
    go_returns
    exact ⟨none, 0, rfl, Rd.nil, by simp, by simp, Below.refl _ _⟩
  have e1 : decide (a < 0) = false := decide_eq_false q1
  by_cases q2 : (n : Int) ≤ a
  · rw [withinC_out (by rw [hr.nn]; omega)]
    have e2 : decide ((n : Int) ≤ a) = true := decide_eq_true q2
    go_enter Try.func46, Try.ntmps46
    go_wp2_with fail
    go_returns
    exact ⟨none, 0, rfl, Rd.nil, by simp, by simp, Below.refl _ _⟩
  have e2 : decide ((n : Int) ≤ a) = false := decide_eq_false q2
  obtain ⟨p, rfl⟩ : ∃ p : Nat, a = p := ⟨a.toNat, by omega⟩
  have hpn : p < n := by omega
  have hpI : (p : Int) < (n : Int) := by omega
  have e2' : decide (n ≤ p) = false := decide_eq_false (by omega)
  obtain ⟨bC, oC, sA, sn, sc, l, rfl, hbC, hCp, f0, rs, _⟩ := hr.row hpn
  have hlw := hw.2 l (List.mem_of_getElem? hCp)
  have hsn := rs.len
  have hsn1 : sn ≤ 1000000 := by omega
  rw [withinC_in hCp]
  have hrs := Lib.hid rs
  have hlH := Lib.hid hsn
  clear rs hsn hr hCp
  go_enter Try.func46, Try.ntmps46
  go_wp2_with fail
  go_loopw [7, 23] (fun v i wr => ∃ (k : Nat), k ≤ sn ∧ i = .int .i64 k ∧ Hid (wr.ownsRow w.heap.size 3 1 v (withinR (l.take k) most).length ((withinR (l.take k) most).flatMap (numE .i64))) ∧ Hid (Below w.heap.size w wr)) (fun _ i _ => sn - (intOf i).toNat)
  case atStart => exact ⟨0, Nat.zero_le _, rfl, World.ownsRow_nil _ _ _ _, Below.refl _ _⟩
  case round =>
    obtain ⟨k, hk, rfl, own, hb⟩ := hrel
    have f0 := (hb.out.cell (p := ⟨bC, _, none⟩) hbC).trans f0
    by_cases hlt : k < sn
    · obtain ⟨bs, os, x, y, rfl, hbs, hxk, g0, g1⟩ := (hrs.out.below hb.out).pair hlt
      have hkI : (k : Int) < (sn : Int) := by omega
      have hwl : Hid ((withinR (l.take k) most).length + 1 ≤ 1099511627776) := by
        show _ ≤ _
        have := withinR_len (l.take k) most
        have := List.length_take_le k l
        omega
      have hb9 : Below wr.heap.size wr (wr.alloc (.cells #[.int .i64 x, .int .i64 y] 67)) := (Below.refl _ wr).alloc (Nat.le_refl _) _
      have hn9 := heap_alloc_new wr (.cells #[.int .i64 x, .int .i64 y] 67)
      obtain ⟨w9, hw9⟩ : ∃ q, wr.alloc (.cells #[.int .i64 x, .int .i64 y] 67) = q := ⟨_, rfl⟩
      rw [hw9] at hb9 hn9
      have g9 : w9.cell? ⟨wr.heap.size, 0, none⟩ = some (.int .i64 x) := by rw [cell_of_row _ _ _ _ _ _ hn9]; rfl
      have g9' : w9.cell? ⟨wr.heap.size, 1, none⟩ = some (.int .i64 y) := by rw [cell_of_row _ _ _ _ _ _ hn9]; rfl
      have own9 := Lib.hid (own_up own.out hb9)
      have hb99 := Lib.hid (hb.out.trans (hb9.mono hb.out.size))
      clear hb9 hn9
      by_cases hxm : x ≤ most
      · have e3 : decide (x ≤ most) = true := decide_eq_true hxm
        obtain ⟨g, cc, w10, hrun, own10, hb10⟩ := pushN y 0 own9.out hwl.out hb99.out hb99.out.size
        rw [← withinR_yes hxk hxm] at own10
        have own10 := Lib.hid own10
        have hb10 := Lib.hid hb10
        have hrun : (Builtin.append_ #[30, 30] 30 #[u7, .slice (some ⟨w9.heap.size, 0, none⟩) 1 1]).run Try.prog (w9.alloc (.cells #[.int .i64 y] 3)) = .ok (.slice (some ⟨g, 0, none⟩) ((withinR (l.take k) most).length + 1) cc) w10 := hrun
        have hlen : Hid ((withinR (l.take (k + 1)) most).length = (withinR (l.take k) most).length + 1) := by show _ = _; rw [withinR_yes hxk hxm, List.length_append]; rfl
        rw [hlen.out] at own10
        obtain ⟨qi, hqi⟩ : ∃ q, (withinR (l.take k) most).length + 1 = q := ⟨_, rfl⟩
        rw [hqi] at hrun own10 hlen
        clear hxk hxm own hqi
        go_wp2_with (at_builtin; refine wpList_append_run ?a1 (.tmp 31) (.tmp 34) 30 ?a2 ?a3 ?a4 hrun ?_)
        case a1 => rfl
        case a2 => rfl
        try (case a3 => rfl)
        try (case a4 => rfl)
        go_roundw
        case rel => exact ⟨k + 1, by omega, by go_num, by rw [hlen.out]; exact own10, hb10⟩
        case measure => simp [intOf]; omega
      · have e3 : decide (x ≤ most) = false := decide_eq_false hxm
        have own2 : Hid (w9.ownsRow w.heap.size 3 1 u7 (withinR (l.take (k + 1)) most).length ((withinR (l.take (k + 1)) most).flatMap (numE .i64))) := by rw [withinR_no hxk hxm]; exact own9
        clear hxk hxm own
        go_wp2_with fail
        go_roundw
        case rel => exact ⟨k + 1, by omega, by go_num, own2, hb99⟩
        case measure => simp [intOf]; omega
    · have own' := own.out
      rw [List.take_of_length_le (by rw [hlH.out]; omega)] at own'
      obtain ⟨A', c', rfl, r1, h1, h2⟩ := Rd.of_own nume_len rfl own'
      have r1 := Lib.hid r1
      clear own own'
      go_wp2_with fail
      go_returns
      exact ⟨A', c', rfl, r1.out, h1, h2, hb.out⟩
theorem fP_len (r : W.Row) (k : Nat) (h : r.length ≤ 1000000) : (r.take k).length < 9223372036854775807 := by have := List.length_take_le' k r; omega
theorem fP_stay {r : W.Row} {k : Nat} {x : It} (hx : r[k]? = some x) (h : (fP (r.take k) x.2).isSome = true) : fP (r.take (k + 1)) = fP (r.take k) := by
  funext b
  rw [take_at hx, fP_snoc]
  by_cases hb : x.2 = b
  · subst hb; rw [h]; rfl
  · cases hf : fP (r.take k) b <;> simp [hb]
theorem fP_turn {r : W.Row} {k : Nat} {x : It} (hx : r[k]? = some x) (h : (fP (r.take k) x.2).isSome = false) : fP (r.take (k + 1)) = updI (fP (r.take k)) x.2 x.1 := by
  funext b
  rw [take_at hx, fP_snoc]
  unfold updI
  by_cases hb : x.2 = b
  · subst hb; rw [h]; simp
  · rw [if_neg (Ne.symm hb)]
    cases hf : fP (r.take k) b <;> simp [hb]
theorem turned_below {w w' : World} {m base : Nat} (h : w.mapTurned w' m) (hm : base ≤ m) : Below base w w' := by
  obtain ⟨es, cl, es', cl', hb, rfl⟩ := h
  have hlt := (Array.getElem?_eq_some_iff.1 hb).1
  refine ⟨rfl, rfl, rfl, by simp [Go.ChangeMaps.setBlock], fun b hb' => ?_⟩
  simp only [Go.ChangeMaps.setBlock]
  rw [Array.getElem?_setIfInBounds_ne (by omega)]
set_option maxRecDepth 100000 in
theorem cLen_any {C : List W.Row} {A : Option Addr} {n : Nat} (c : Nat) (a b : Int) (w : World) (hr : RRows w C A n) (hw : RowsWf C) (wa : (Lit.int .i64 a).wf = true) (wb : (Lit.int .i64 b).wf = true) :
    Calls Try.prog 42 #[.slice A n c, .int .i64 a, .int .i64 b] w fun e w' => e = .returned (.int .i64 (lenC C a b)) ∧ Below w.heap.size w w' := by
  have hmk : ∀ W : World, (Instr.makeMap 101 none).run Try.prog W = .ok (.map (some W.heap.size)) (W.alloc (.map #[] 0)) := fun W => by kernel_rfl
  have ha0 : Below w.heap.size w (w.alloc (.map #[] 0)) := (Below.refl _ w).alloc (Nat.le_refl _) _
  have hM0 := M.MapP.new a w
  obtain ⟨w1, hw1⟩ : ∃ q, w.alloc (.map #[] 0) = q := ⟨_, rfl⟩
  rw [hw1] at ha0 hM0
  obtain ⟨bm, hbm⟩ : ∃ q, w.heap.size = q := ⟨_, rfl⟩
  have hbmH := Lib.hid hbm
  have hM0' : M.MapP a w1 bm (fun _ => none) 0 := by rw [← hbm]; exact hM0
  have ha0H := Lib.hid ha0
  have hMH := Lib.hid hM0'
  clear hM0 hM0'
  by_cases hin : 0 ≤ a ∧ a < (n : Int)
  rotate_left
  · rw [lenC_out (by rw [hr.nn]; exact hin)]
    have hlk := (hMH.out.look wa wb)
    simp only [M.key, Option.getD_none, Option.isSome_none] at hlk
    by_cases q1 : 0 ≤ a
    · have e1 : decide (0 ≤ a) = true := decide_eq_true q1
      have e2 : decide (a < (n : Int)) = false := decide_eq_false (by omega)
      clear ha0
      go_enter Try.func42, Try.ntmps42
      go_wp2_with fail
      go_returns
      exact ⟨rfl, by first | exact ha0H.out | (rw [hbmH.out]; exact ha0H.out) | (rw [← hbmH.out]; exact ha0H.out)⟩
    · have e1 : decide (0 ≤ a) = false := decide_eq_false q1
      clear ha0
      go_enter Try.func42, Try.ntmps42
      go_wp2_with fail
      go_returns
      exact ⟨rfl, by first | exact ha0H.out | (rw [hbmH.out]; exact ha0H.out) | (rw [← hbmH.out]; exact ha0H.out)⟩
  obtain ⟨p, rfl⟩ : ∃ p : Nat, a = p := ⟨a.toNat, by omega⟩
  have hpn : p < n := by omega
  have hpI : (p : Int) < (n : Int) := by omega
  have e1 : decide ((0 : Int) ≤ (p : Int)) = true := decide_eq_true (by omega)
  have e2 : decide ((p : Int) < (n : Int)) = true := decide_eq_true hpI
  have e2' : decide (p < n) = true := decide_eq_true hpn
  obtain ⟨bC, oC, sA, sn, sc, l, rfl, hbC, hCp, f0, rs, _⟩ := hr.row hpn
  obtain ⟨hl1, hlw⟩ := hw.2 l (List.mem_of_getElem? hCp)
  have hsn := rs.len
  have hsn1 : sn ≤ 1000000 := by omega
  rw [lenC_in hCp]
  have hrs := Lib.hid rs
  have hlH := Lib.hid hsn
  have hlwH := Lib.hid hlw
  have hl1H := Lib.hid hl1
  have f1 := (ha0.cell (p := ⟨bC, _, none⟩) hbC).trans f0
  clear rs hsn hr hCp ha0 hlw hl1
  go_enter Try.func42, Try.ntmps42
  go_wp2_with fail
  clear hw1 hbm
  go_loopw [28] (fun i wr => ∃ (k N' : Nat), k ≤ sn ∧ i = .int .i64 k ∧ N' ≤ k ∧ Hid (M.MapP (p : Int) wr bm (fP (l.take k)) N') ∧ Hid (Below bm w wr)) (fun i _ => sn - (intOf i).toNat)
  case atStart => exact ⟨0, 0, Nat.zero_le _, rfl, Nat.le_refl _, by rw [List.take_zero]; exact hMH, by rw [← hbmH.out]; exact ha0H.out⟩
  case round =>
    clear f1
    obtain ⟨k, N', hk, rfl, hN', hM, hb⟩ := hrel
    have hbw : Below w.heap.size w wr := by rw [hbmH.out]; exact hb.out
    have hbwH := Lib.hid hbw
    by_cases hlt : k < sn
    · obtain ⟨bs, os, x, y, rfl, hbs, hxk, g0, g1⟩ := (hrs.out.below hbw).pair hlt
      have hkI : (k : Int) < (sn : Int) := by omega
      obtain ⟨wx, wy⟩ := hlwH.out _ (List.mem_of_getElem? hxk)
      simp only at wx wy
      have hb9 : Below wr.heap.size wr (wr.alloc (.cells #[.int .i64 x, .int .i64 y] 67)) := (Below.refl _ wr).alloc (Nat.le_refl _) _
      have hn9 := heap_alloc_new wr (.cells #[.int .i64 x, .int .i64 y] 67)
      obtain ⟨w9, hw9⟩ : ∃ q, wr.alloc (.cells #[.int .i64 x, .int .i64 y] 67) = q := ⟨_, rfl⟩
      rw [hw9] at hb9 hn9
      have g9 : w9.cell? ⟨wr.heap.size, 0, none⟩ = some (.int .i64 x) := by rw [cell_of_row _ _ _ _ _ _ hn9]; rfl
      have g9' : w9.cell? ⟨wr.heap.size, 1, none⟩ = some (.int .i64 y) := by rw [cell_of_row _ _ _ _ _ _ hn9]; rfl
      have hM9 := hM.out.below hb9
      have hlk := hM9.look wa wy
      have hbm9 : bm ≤ wr.heap.size := by have := hbw.size; have := hbmH.out; omega
      have hb99 := hb.out.trans (hb9.mono hbm9)
      cases hs : (fP (l.take k) y).isSome with
      | true =>
        have hstay := fP_stay hxk hs
        have hM2 : Hid (M.MapP (p : Int) w9 bm (fP (l.take (k + 1))) N') := by rw [hstay]; exact hM9
        have hb99h := Lib.hid hb99
        simp only [M.key, hs] at hlk
        obtain ⟨q, hq⟩ : ∃ q, (fP (l.take k) y).getD 0 = q := ⟨_, rfl⟩
        rw [hq] at hlk
        clear hstay hM9 hb9 hn9 hs hM hb hbw hxk hb99 hq
        go_wp2_with fail
        go_roundw
        case rel => exact ⟨k + 1, N', by omega, by go_num, by omega, hM2, hb99h⟩
        case measure => simp [intOf]; omega
      | false =>
        obtain ⟨w10, hrun, hM10, htu⟩ := hM9.store (by omega) wa wy wx
        have hturn := fP_turn hxk hs
        simp only at hturn
        rw [hs, if_neg (by simp), ← hturn] at hM10
        have hM2 := Lib.hid hM10
        have hb10 := Lib.hid (hb99.trans (turned_below htu (Nat.le_refl _)))
        simp only [M.key, hs] at hlk hrun
        obtain ⟨q, hq⟩ : ∃ q, (fP (l.take k) y).getD 0 = q := ⟨_, rfl⟩
        rw [hq] at hlk
        clear hturn hM9 hM10 htu hb9 hn9 hs hM hb hbw hxk hb99 hq
        go_wp2_with fail
        go_roundw
        case rel => exact ⟨k + 1, N' + 1, by omega, by go_num, by omega, hM2, hb10⟩
        case measure => simp [intOf]; omega
    · have hM' := hM.out
      rw [List.take_of_length_le (by rw [hlH.out]; omega)] at hM'
      have hlk := hM'.look wa wb
      have hv : Hid (lenR l b = (fP l b).getD W.inf) := rfl
      cases hs : fP l b with
      | none =>
        rw [hs] at hlk hv
        simp only [M.key, Option.getD_none, Option.isSome_none] at hlk hv
        clear hM' hs hM hb hbw
        go_wp2_with fail
        go_returns
        exact ⟨ret_int hv.out.symm, hbwH.out⟩
      | some v =>
        rw [hs] at hlk hv
        simp only [M.key, Option.getD_some, Option.isSome_some] at hlk hv
        clear hM' hs hM hb hbw
        go_wp2_with fail
        go_returns
        exact ⟨ret_int hv.out.symm, hbwH.out⟩
end Go.Proofs.Ytonkkibnigdfbaa
