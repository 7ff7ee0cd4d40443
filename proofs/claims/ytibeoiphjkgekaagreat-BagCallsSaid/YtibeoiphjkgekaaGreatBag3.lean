/-
  Walks: bag.as at its instances, and what is handed to it.
-/
import Derived.Test.YtibeoiphjkgekaaGreatBag1
import Derived.Test.YtibeoiphjkgekaaGreatRow
namespace Go.Proofs.YtibeoiphjkgekaaGreat
open Go.RowKit B K
set_option linter.unusedVariables false
set_option linter.unusedSimpArgs false
set_option maxHeartbeats 1000000
theorem infoPair : (Tryz.prog.info? 55).map (fun i => (i.zero, i.size, i.bytes)) = some (some (.agg #[.int .i64 0, .int .i64 0]), 2, 16) := by kernel_rfl
theorem infoAPair : (Tryz.prog.info? 24).map (fun i => (i.zero, i.size, i.bytes)) = some (some (.agg #[.int .i64 0, .int .i64 0]), 2, 16) := by kernel_rfl
theorem infoTri : (Tryz.prog.info? 66).map (fun i => (i.zero, i.size, i.bytes)) = some (some (.agg #[.int .i64 0, .int .i64 0, .int .i64 0]), 3, 24) := by kernel_rfl
theorem infoATri : (Tryz.prog.info? 27).map (fun i => (i.zero, i.size, i.bytes)) = some (some (.agg #[.int .i64 0, .int .i64 0, .int .i64 0]), 3, 24) := by kernel_rfl
theorem toPair_any (a b : Int) (w : World) : Calls Tryz.prog 46 #[.agg #[.int .i64 a, .int .i64 b]] w fun e w' => e = .returned (.agg #[.int .i64 a, .int .i64 b]) ∧ Below w.heap.size w w' := by
  go_enter Tryz.func46, Tryz.ntmps46
  go_wp2
  exact bodyPost_ret (v := .agg #[.int .i64 a, .int .i64 b]) (by simp [results, Tryz.results46, go_sem]) rfl ⟨rfl, ((Below.refl _ _).alloc (Nat.le_refl _) _).alloc (by simp) _⟩
theorem fromPair_any (a b : Int) (w : World) : Calls Tryz.prog 50 #[.agg #[.int .i64 a, .int .i64 b]] w fun e w' => e = .returned (.agg #[.int .i64 a, .int .i64 b]) ∧ Below w.heap.size w w' := by
  go_enter Tryz.func50, Tryz.ntmps50
  go_wp2
  exact bodyPost_ret (v := .agg #[.int .i64 a, .int .i64 b]) (by simp [results, Tryz.results50, go_sem]) rfl ⟨rfl, ((Below.refl _ _).alloc (Nat.le_refl _) _).alloc (by simp) _⟩
theorem toTri_any (a b c : Int) (w : World) : Calls Tryz.prog 54 #[.agg #[.int .i64 a, .int .i64 b, .int .i64 c]] w fun e w' => e = .returned (.agg #[.int .i64 a, .int .i64 b, .int .i64 c]) ∧ Below w.heap.size w w' := by
  go_enter Tryz.func54, Tryz.ntmps54
  go_wp2
  exact bodyPost_ret (v := .agg #[.int .i64 a, .int .i64 b, .int .i64 c]) (by simp [results, Tryz.results54, go_sem]) rfl ⟨rfl, ((Below.refl _ _).alloc (Nat.le_refl _) _).alloc (by simp) _⟩
theorem fromTri_any (a b c : Int) (w : World) : Calls Tryz.prog 58 #[.agg #[.int .i64 a, .int .i64 b, .int .i64 c]] w fun e w' => e = .returned (.agg #[.int .i64 a, .int .i64 b, .int .i64 c]) ∧ Below w.heap.size w w' := by
  go_enter Tryz.func58, Tryz.ntmps58
  go_wp2
  exact bodyPost_ret (v := .agg #[.int .i64 a, .int .i64 b, .int .i64 c]) (by simp [results, Tryz.results58, go_sem]) rfl ⟨rfl, ((Below.refl _ _).alloc (Nat.le_refl _) _).alloc (by simp) _⟩
set_option maxRecDepth 100000 in
theorem asPin_any (g : Nat) (lb : Array Value) (eg : ∀ args w, (callFunc g args).run Tryz.prog w = .ok (.enter g args) w) (f : P2 → P2) (A : Option Addr) (n c : Nat) (l : List P2) (w : World) (hr : Rd w 2 pairE A n l) (hn : n ≤ 1099511627)
    (hg : ∀ (W : World) (x : P2), Below w.heap.size w W → Calls Tryz.prog g (#[.agg (pairE x).toArray] ++ lb) W fun e w' => e = .returned (.agg (pairE (f x)).toArray) ∧ Below W.heap.size W w') :
    Calls Tryz.prog 45 #[.slice A n c, .func (.func g) #[] lb] w fun e w' => RetR 2 pairE w (l.map f) e w' := by
  go_enter Tryz.func45, Tryz.ntmps45
  go_wp2_with fail
  go_loopw [5, 10] (fun v i wr => ∃ (k : Nat), k ≤ n ∧ i = .int .i64 k ∧ wr.ownsRow w.heap.size 55 2 v ((l.take k).map f).length (((l.take k).map f).flatMap pairE) ∧ Below w.heap.size w wr) (fun _ i _ => n - (intOf i).toNat)
  case atStart => exact ⟨0, Nat.zero_le _, rfl, World.ownsRow_nil _ _ _ _, Below.refl _ _⟩
  case round =>
    obtain ⟨k, hk, rfl, own, hb⟩ := hrel
    by_cases hlt : k < n
    · obtain ⟨b, o, x1, x2, rfl, hbs, hx, h1, h2⟩ := (hr.below hb).pair hlt
      have htk := Lib.hid (take_at hx); clear hx
      have hll : Hid (((l.take k).map f).length = k) := by show _ = _; have := hr.len; simp; omega
      have hb1 : Below w.heap.size w (wr.alloc (.cells #[.int .i64 x1, .int .i64 x2] 24)) := hb.alloc hb.size _
      have hcall := hg _ (x1, x2) hb1
      simp only [pairE, Array.append_eq_append, List.append_toArray, List.cons_append, List.nil_append] at hcall
      clear hg
      go_wp2_with fail
      refine hcall.mono ?_
      rintro e w2 ⟨rfl, hb2⟩
      have own2 := own_up (own_up own ((Below.refl _ wr).alloc (Nat.le_refl _) (.cells #[.int .i64 x1, .int .i64 x2] 24))) hb2
      have hbw2 := hb1.trans (hb2.mono hb1.size)
      clear own hcall hb2 hb1 hb hr h1 h2 
      obtain ⟨gg, cc, w3, hrun, own3, hb3, hs3, _, _⟩ := own_push (enc := pairE) Tryz.underlying56 infoPair rfl (by decide) pairE_len2 pairE_one (f (x1, x2)) own2 (by rw [hll.out]; omega) (by decide) hbw2 hbw2.size 0
      simp only [pairE] at hrun
      go_wp2_with (at_builtin; refine wpList_append_run ?a1 (.tmp 14) (.tmp 18) 56 ?a2 ?a3 ?a4 hrun ?_)
      case a1 => rfl
      case a2 => rfl
      try (case a3 => rfl)
      try (case a4 => rfl)
      go_roundw
      case rel => exact ⟨k + 1, by omega, by go_num, by rw [htk.out]; simpa using own3, hb3⟩
      case measure => simp [intOf]; omega
    · obtain ⟨A', c', rfl, r1, r2, r3⟩ := Rd.of_own pairE_len2 rfl own
      rw [List.take_of_length_le (by rw [hr.len]; omega)] at r1 r2 ⊢
      go_wp2
      go_returns
      exact .mk A' c' rfl r1 r2 r3 hb
set_option maxRecDepth 100000 in
theorem asPout_any (g : Nat) (lb : Array Value) (eg : ∀ args w, (callFunc g args).run Tryz.prog w = .ok (.enter g args) w) (f : P2 → P2) (A : Option Addr) (n c : Nat) (l : List P2) (w : World) (hr : Rd w 2 pairE A n l) (hn : n ≤ 1099511627)
    (hg : ∀ (W : World) (x : P2), Below w.heap.size w W → Calls Tryz.prog g (#[.agg (pairE x).toArray] ++ lb) W fun e w' => e = .returned (.agg (pairE (f x)).toArray) ∧ Below W.heap.size W w') :
    Calls Tryz.prog 43 #[.slice A n c, .func (.func g) #[] lb] w fun e w' => RetR 2 pairE w (l.map f) e w' := by
  go_enter Tryz.func43, Tryz.ntmps43
  go_wp2_with fail
  go_loopw [5, 10] (fun v i wr => ∃ (k : Nat), k ≤ n ∧ i = .int .i64 k ∧ wr.ownsRow w.heap.size 24 2 v ((l.take k).map f).length (((l.take k).map f).flatMap pairE) ∧ Below w.heap.size w wr) (fun _ i _ => n - (intOf i).toNat)
  case atStart => exact ⟨0, Nat.zero_le _, rfl, World.ownsRow_nil _ _ _ _, Below.refl _ _⟩
  case round =>
    obtain ⟨k, hk, rfl, own, hb⟩ := hrel
    by_cases hlt : k < n
    · obtain ⟨b, o, x1, x2, rfl, hbs, hx, h1, h2⟩ := (hr.below hb).pair hlt
      have htk := Lib.hid (take_at hx); clear hx
      have hll : Hid (((l.take k).map f).length = k) := by show _ = _; have := hr.len; simp; omega
      have hb1 : Below w.heap.size w (wr.alloc (.cells #[.int .i64 x1, .int .i64 x2] 55)) := hb.alloc hb.size _
      have hcall := hg _ (x1, x2) hb1
      simp only [pairE, Array.append_eq_append, List.append_toArray, List.cons_append, List.nil_append] at hcall
      clear hg
      go_wp2_with fail
      refine hcall.mono ?_
      rintro e w2 ⟨rfl, hb2⟩
      have own2 := own_up (own_up own ((Below.refl _ wr).alloc (Nat.le_refl _) (.cells #[.int .i64 x1, .int .i64 x2] 55))) hb2
      have hbw2 := hb1.trans (hb2.mono hb1.size)
      clear own hcall hb2 hb1 hb hr h1 h2 
      obtain ⟨gg, cc, w3, hrun, own3, hb3, hs3, _, _⟩ := own_push (enc := pairE) Tryz.underlying22 infoAPair rfl (by decide) pairE_len2 pairE_one (f (x1, x2)) own2 (by rw [hll.out]; omega) (by decide) hbw2 hbw2.size 0
      simp only [pairE] at hrun
      go_wp2_with (at_builtin; refine wpList_append_run ?a1 (.tmp 14) (.tmp 18) 22 ?a2 ?a3 ?a4 hrun ?_)
      case a1 => rfl
      case a2 => rfl
      try (case a3 => rfl)
      try (case a4 => rfl)
      go_roundw
      case rel => exact ⟨k + 1, by omega, by go_num, by rw [htk.out]; simpa using own3, hb3⟩
      case measure => simp [intOf]; omega
    · obtain ⟨A', c', rfl, r1, r2, r3⟩ := Rd.of_own pairE_len2 rfl own
      rw [List.take_of_length_le (by rw [hr.len]; omega)] at r1 r2 ⊢
      go_wp2
      go_returns
      exact .mk A' c' rfl r1 r2 r3 hb
set_option maxRecDepth 100000 in
theorem asTin_any (g : Nat) (lb : Array Value) (eg : ∀ args w, (callFunc g args).run Tryz.prog w = .ok (.enter g args) w) (f : P3 → P3) (A : Option Addr) (n c : Nat) (l : List P3) (w : World) (hr : Rd w 3 tripE A n l) (hn : n ≤ 1099511627)
    (hg : ∀ (W : World) (x : P3), Below w.heap.size w W → Calls Tryz.prog g (#[.agg (tripE x).toArray] ++ lb) W fun e w' => e = .returned (.agg (tripE (f x)).toArray) ∧ Below W.heap.size W w') :
    Calls Tryz.prog 53 #[.slice A n c, .func (.func g) #[] lb] w fun e w' => RetR 3 tripE w (l.map f) e w' := by
  go_enter Tryz.func53, Tryz.ntmps53
  go_wp2_with fail
  go_loopw [5, 10] (fun v i wr => ∃ (k : Nat), k ≤ n ∧ i = .int .i64 k ∧ wr.ownsRow w.heap.size 66 3 v ((l.take k).map f).length (((l.take k).map f).flatMap tripE) ∧ Below w.heap.size w wr) (fun _ i _ => n - (intOf i).toNat)
  case atStart => exact ⟨0, Nat.zero_le _, rfl, World.ownsRow_nil _ _ _ _, Below.refl _ _⟩
  case round =>
    obtain ⟨k, hk, rfl, own, hb⟩ := hrel
    by_cases hlt : k < n
    · obtain ⟨b, o, x1, x2, x3, rfl, hbs, hx, h1, h2, h3⟩ := (hr.below hb).trip hlt
      have htk := Lib.hid (take_at hx); clear hx
      have hll : Hid (((l.take k).map f).length = k) := by show _ = _; have := hr.len; simp; omega
      have hb1 : Below w.heap.size w (wr.alloc (.cells #[.int .i64 x1, .int .i64 x2, .int .i64 x3] 27)) := hb.alloc hb.size _
      have hcall := hg _ (x1, x2, x3) hb1
      simp only [tripE, Array.append_eq_append, List.append_toArray, List.cons_append, List.nil_append] at hcall
      clear hg
      go_wp2_with fail
      refine hcall.mono ?_
      rintro e w2 ⟨rfl, hb2⟩
      have own2 := own_up (own_up own ((Below.refl _ wr).alloc (Nat.le_refl _) (.cells #[.int .i64 x1, .int .i64 x2, .int .i64 x3] 27))) hb2
      have hbw2 := hb1.trans (hb2.mono hb1.size)
      clear own hcall hb2 hb1 hb hr h1 h2 h3
      obtain ⟨gg, cc, w3, hrun, own3, hb3, hs3, _, _⟩ := own_push (enc := tripE) Tryz.underlying67 infoTri rfl (by decide) tripE_len tripE_one (f (x1, x2, x3)) own2 (by rw [hll.out]; omega) (by decide) hbw2 hbw2.size 0
      simp only [tripE] at hrun
      go_wp2_with (at_builtin; refine wpList_append_run ?a1 (.tmp 14) (.tmp 18) 67 ?a2 ?a3 ?a4 hrun ?_)
      case a1 => rfl
      case a2 => rfl
      try (case a3 => rfl)
      try (case a4 => rfl)
      go_roundw
      case rel => exact ⟨k + 1, by omega, by go_num, by rw [htk.out]; simpa using own3, hb3⟩
      case measure => simp [intOf]; omega
    · obtain ⟨A', c', rfl, r1, r2, r3⟩ := Rd.of_own tripE_len rfl own
      rw [List.take_of_length_le (by rw [hr.len]; omega)] at r1 r2 ⊢
      go_wp2
      go_returns
      exact .mk A' c' rfl r1 r2 r3 hb
set_option maxRecDepth 100000 in
theorem asTout_any (g : Nat) (lb : Array Value) (eg : ∀ args w, (callFunc g args).run Tryz.prog w = .ok (.enter g args) w) (f : P3 → P3) (A : Option Addr) (n c : Nat) (l : List P3) (w : World) (hr : Rd w 3 tripE A n l) (hn : n ≤ 1099511627)
    (hg : ∀ (W : World) (x : P3), Below w.heap.size w W → Calls Tryz.prog g (#[.agg (tripE x).toArray] ++ lb) W fun e w' => e = .returned (.agg (tripE (f x)).toArray) ∧ Below W.heap.size W w') :
    Calls Tryz.prog 51 #[.slice A n c, .func (.func g) #[] lb] w fun e w' => RetR 3 tripE w (l.map f) e w' := by
  go_enter Tryz.func51, Tryz.ntmps51
  go_wp2_with fail
  go_loopw [5, 10] (fun v i wr => ∃ (k : Nat), k ≤ n ∧ i = .int .i64 k ∧ wr.ownsRow w.heap.size 27 3 v ((l.take k).map f).length (((l.take k).map f).flatMap tripE) ∧ Below w.heap.size w wr) (fun _ i _ => n - (intOf i).toNat)
  case atStart => exact ⟨0, Nat.zero_le _, rfl, World.ownsRow_nil _ _ _ _, Below.refl _ _⟩
  case round =>
    obtain ⟨k, hk, rfl, own, hb⟩ := hrel
    by_cases hlt : k < n
    · obtain ⟨b, o, x1, x2, x3, rfl, hbs, hx, h1, h2, h3⟩ := (hr.below hb).trip hlt
      have htk := Lib.hid (take_at hx); clear hx
      have hll : Hid (((l.take k).map f).length = k) := by show _ = _; have := hr.len; simp; omega
      have hb1 : Below w.heap.size w (wr.alloc (.cells #[.int .i64 x1, .int .i64 x2, .int .i64 x3] 66)) := hb.alloc hb.size _
      have hcall := hg _ (x1, x2, x3) hb1
      simp only [tripE, Array.append_eq_append, List.append_toArray, List.cons_append, List.nil_append] at hcall
      clear hg
      go_wp2_with fail
      refine hcall.mono ?_
      rintro e w2 ⟨rfl, hb2⟩
      have own2 := own_up (own_up own ((Below.refl _ wr).alloc (Nat.le_refl _) (.cells #[.int .i64 x1, .int .i64 x2, .int .i64 x3] 66))) hb2
      have hbw2 := hb1.trans (hb2.mono hb1.size)
      clear own hcall hb2 hb1 hb hr h1 h2 h3
      obtain ⟨gg, cc, w3, hrun, own3, hb3, hs3, _, _⟩ := own_push (enc := tripE) Tryz.underlying25 infoATri rfl (by decide) tripE_len tripE_one (f (x1, x2, x3)) own2 (by rw [hll.out]; omega) (by decide) hbw2 hbw2.size 0
      simp only [tripE] at hrun
      go_wp2_with (at_builtin; refine wpList_append_run ?a1 (.tmp 14) (.tmp 18) 25 ?a2 ?a3 ?a4 hrun ?_)
      case a1 => rfl
      case a2 => rfl
      try (case a3 => rfl)
      try (case a4 => rfl)
      go_roundw
      case rel => exact ⟨k + 1, by omega, by go_num, by rw [htk.out]; simpa using own3, hb3⟩
      case measure => simp [intOf]; omega
    · obtain ⟨A', c', rfl, r1, r2, r3⟩ := Rd.of_own tripE_len rfl own
      rw [List.take_of_length_le (by rw [hr.len]; omega)] at r1 r2 ⊢
      go_wp2
      go_returns
      exact .mk A' c' rfl r1 r2 r3 hb
set_option maxRecDepth 100000 in
theorem asOf_any (g : Nat) (lb : Array Value) (eg : ∀ args w, (callFunc g args).run Tryz.prog w = .ok (.enter g args) w) (f : P2 → P3) (A : Option Addr) (n c : Nat) (l : List P2) (w : World) (hr : Rd w 2 pairE A n l) (hn : n ≤ 1099511627)
    (hg : ∀ (W : World) (x : P2), Below w.heap.size w W → Calls Tryz.prog g (#[.agg (pairE x).toArray] ++ lb) W fun e w' => e = .returned (.agg (tripE (f x)).toArray) ∧ Below W.heap.size W w') :
    Calls Tryz.prog 62 #[.slice A n c, .func (.func g) #[] lb] w fun e w' => RetR 3 tripE w (l.map f) e w' := by
  go_enter Tryz.func62, Tryz.ntmps62
  go_wp2_with fail
  go_loopw [5, 10] (fun v i wr => ∃ (k : Nat), k ≤ n ∧ i = .int .i64 k ∧ wr.ownsRow w.heap.size 27 3 v ((l.take k).map f).length (((l.take k).map f).flatMap tripE) ∧ Below w.heap.size w wr) (fun _ i _ => n - (intOf i).toNat)
  case atStart => exact ⟨0, Nat.zero_le _, rfl, World.ownsRow_nil _ _ _ _, Below.refl _ _⟩
  case round =>
    obtain ⟨k, hk, rfl, own, hb⟩ := hrel
    by_cases hlt : k < n
    · obtain ⟨b, o, x1, x2, rfl, hbs, hx, h1, h2⟩ := (hr.below hb).pair hlt
      have htk := Lib.hid (take_at hx); clear hx
      have hll : Hid (((l.take k).map f).length = k) := by show _ = _; have := hr.len; simp; omega
      have hb1 : Below w.heap.size w (wr.alloc (.cells #[.int .i64 x1, .int .i64 x2] 24)) := hb.alloc hb.size _
      have hcall := hg _ (x1, x2) hb1
      simp only [pairE, tripE, Array.append_eq_append, List.append_toArray, List.cons_append, List.nil_append] at hcall
      clear hg
      go_wp2_with fail
      refine hcall.mono ?_
      rintro e w2 ⟨rfl, hb2⟩
      have own2 := own_up (own_up own ((Below.refl _ wr).alloc (Nat.le_refl _) (.cells #[.int .i64 x1, .int .i64 x2] 24))) hb2
      have hbw2 := hb1.trans (hb2.mono hb1.size)
      clear own hcall hb2 hb1 hb hr h1 h2 
      obtain ⟨gg, cc, w3, hrun, own3, hb3, hs3, _, _⟩ := own_push (enc := tripE) Tryz.underlying25 infoATri rfl (by decide) tripE_len tripE_one (f (x1, x2)) own2 (by rw [hll.out]; omega) (by decide) hbw2 hbw2.size 0
      simp only [tripE] at hrun
      go_wp2_with (at_builtin; refine wpList_append_run ?a1 (.tmp 14) (.tmp 18) 25 ?a2 ?a3 ?a4 hrun ?_)
      case a1 => rfl
      case a2 => rfl
      try (case a3 => rfl)
      try (case a4 => rfl)
      go_roundw
      case rel => exact ⟨k + 1, by omega, by go_num, by rw [htk.out]; simpa using own3, hb3⟩
      case measure => simp [intOf]; omega
    · obtain ⟨A', c', rfl, r1, r2, r3⟩ := Rd.of_own tripE_len rfl own
      rw [List.take_of_length_le (by rw [hr.len]; omega)] at r1 r2 ⊢
      go_wp2
      go_returns
      exact .mk A' c' rfl r1 r2 r3 hb
end Go.Proofs.YtibeoiphjkgekaaGreat
