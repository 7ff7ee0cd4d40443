/-
  Walk: timetablelaw15.SpreadNames answers true (gen7.py).
-/
import Derived.Test.YtonkkibnigdfbaaNames1S
namespace Go.Proofs.Ytonkkibnigdfbaa
open Go.RowKit Go.Shelf B K
set_option linter.unusedVariables false
set_option linter.unusedSimpArgs false
set_option maxHeartbeats 4000000
theorem trail2 : Tr exN (viasL exN [1, 4611686018427387904, 4611686018427387904] [1, 8, 12]) 2 [(1, 8), (0, 5)] := by
  rw [show viasL exN [1, 4611686018427387904, 4611686018427387904] [1, 8, 12] = [(-1, 0), (0, 5), (1, 8)] from by decide]
  exact Tr.step (i := 1) (l := ⟨1, 2, 4, false, 0, [], []⟩) rfl rfl (Tr.step (i := 0) (l := ⟨0, 1, 3, true, 0, [(5, 7)], []⟩) rfl rfl (Tr.stop (x := (-1, 0)) rfl (by decide)))
theorem trail0 : Tr exN (viasL exN [7, 4611686018427387904, 4611686018427387904] [7, 4611686018427387904, 4611686018427387904]) 0 [] := by
  rw [show viasL exN [7, 4611686018427387904, 4611686018427387904] [7, 4611686018427387904, 4611686018427387904] = [(-1, 0), (-1, 0), (-1, 0)] from by decide]
  exact Tr.stop (x := (-1, 0)) rfl (by decide)
set_option maxRecDepth 100000 in
theorem names_any (w0 : World) : Calls Try.prog 9 #[] w0 fun e w' => e = .returned (.bool true) ∧ Below w0.heap.size w0 w' := by
  go_enter Try.func9, Try.ntmps9
  go_wp2_with fail
  refine (sexample_any _).mono ?_; rintro e w1 ⟨A, c, B, d, rfl, hr, hbx⟩
  have s1 := Lib.hid hbx
  clear hbx
  have hC := Lib.hid (xFrom_bad (c := c) (d := d) (s := 3) (t := 1) (e := 2) hr (by decide) (by decide))
  clear hr
  go_wp2_with fail
  refine hC.out.mono ?_; rintro e w2 ⟨rfl, hbx⟩
  have s2 := Lib.hid hbx
  clear hbx hC
  go_wp2_with fail
  refine (sexample_any _).mono ?_; rintro e w3 ⟨A, c, B, d, rfl, hr, hbx⟩
  have s3 := Lib.hid hbx
  clear hbx
  have hC := Lib.hid (xFrom_bad (c := c) (d := d) (s := 0) (t := 41) (e := 9) hr (by decide) (by decide))
  clear hr
  go_wp2_with fail
  refine hC.out.mono ?_; rintro e w4 ⟨rfl, hbx⟩
  have s4 := Lib.hid hbx
  clear hbx hC
  go_wp2_with fail
  refine (sexample_any _).mono ?_; rintro e w5 ⟨A, c, B, d, rfl, hr, hbx⟩
  have s5 := Lib.hid hbx
  clear hbx
  have ha := up1 w5 (.cells #[.int .i64 1, .int .i64 4611686018427387904, .int .i64 2] 2)
  have hl := lit3 w5 (1) (4611686018427387904) (2)
  have hC := Lib.hid (xAll (c := c) (d := d) (ca := 3) (D := [1, 6, 2]) (V := [(-1, 0), (2, 2), (-1, 0)]) (hr.below ha) hl (by decide) (by decide) (by decide))
  have hah := Lib.hid ha
  clear ha hl hr
  go_wp2_with fail
  refine hC.out.mono ?_; rintro e w6 ⟨A1, c1, V1, v1, rfl, hD1, hV1, hbx⟩
  have s6 := Lib.hid (hah.out.trans (hbx.mono hah.out.size))
  have hD1h := Lib.hid hD1
  have hV1h := Lib.hid hV1
  clear hD1 hV1
  clear hbx hC hah
  go_wp2_with fail
  refine (sexample_any _).mono ?_; rintro e w7 ⟨A, c, B, d, rfl, hr, hbx⟩
  have s7 := Lib.hid hbx
  clear hbx
  have ha := up1 w7 (.cells #[.int .i64 1, .int .i64 4611686018427387904, .int .i64 4611686018427387904] 2)
  have hl := lit3 w7 (1) (4611686018427387904) (4611686018427387904)
  have hC := Lib.hid (xTrail (c := c) (d := d) (ca := 3) (D := [1, 8, 12]) (s := 2) (L := [(0, 5), (1, 8)]) (hr.below ha) hl (by decide) (by decide) (by decide) trail2)
  have hah := Lib.hid ha
  clear ha hl hr
  go_wp2_with fail
  refine hC.out.mono ?_; rintro e w8 ⟨A2, c2, rfl, hL2, hbx⟩
  have s8 := Lib.hid (hah.out.trans (hbx.mono hah.out.size))
  have hL2h := Lib.hid hL2
  clear hL2
  clear hbx hC hah
  go_wp2_with fail
  refine (sexample_any _).mono ?_; rintro e w9 ⟨A, c, B, d, rfl, hr, hbx⟩
  have s9 := Lib.hid hbx
  clear hbx
  have ha := up1 w9 (.cells #[.int .i64 7, .int .i64 4611686018427387904, .int .i64 4611686018427387904] 2)
  have hl := lit3 w9 (7) (4611686018427387904) (4611686018427387904)
  have hC := Lib.hid (xTrail_err (c := c) (d := d) (ca := 3) (D := [7, 4611686018427387904, 4611686018427387904]) (tg := 1) (e := 5) (hr.below ha) hl (by decide) (by decide) (by decide) (by decide))
  have hah := Lib.hid ha
  clear ha hl hr
  go_wp2_with fail
  refine hC.out.mono ?_; rintro e w10 ⟨rfl, hbx⟩
  have s10 := Lib.hid (hah.out.trans (hbx.mono hah.out.size))
  clear hbx hC hah
  go_wp2_with fail
  refine (sexample_any _).mono ?_; rintro e w11 ⟨A, c, B, d, rfl, hr, hbx⟩
  have s11 := Lib.hid hbx
  clear hbx
  have ha := up1 w11 (.cells #[.int .i64 7, .int .i64 4611686018427387904, .int .i64 4611686018427387904] 2)
  have hl := lit3 w11 (7) (4611686018427387904) (4611686018427387904)
  have hC := Lib.hid (xTrail (c := c) (d := d) (ca := 3) (D := [7, 4611686018427387904, 4611686018427387904]) (s := 0) (L := []) (hr.below ha) hl (by decide) (by decide) (by decide) trail0)
  have hah := Lib.hid ha
  clear ha hl hr
  go_wp2_with fail
  refine hC.out.mono ?_; rintro e w12 ⟨A3, c3, rfl, hL3, hbx⟩
  have s12 := Lib.hid (hah.out.trans (hbx.mono hah.out.size))
  clear hL3
  clear hbx hC hah
  go_wp2_with fail
  refine (slives_any _).mono ?_; rintro e w13 ⟨rfl, hbx⟩
  have s13 := Lib.hid hbx
  clear hbx
  have hbq := s7.out
  have hbq := hbq.trans (s8.out.mono hbq.size)
  have hbq := hbq.trans (s9.out.mono hbq.size)
  have hbq := hbq.trans (s10.out.mono hbq.size)
  have hbq := hbq.trans (s11.out.mono hbq.size)
  have hbq := hbq.trans (s12.out.mono hbq.size)
  have hbq := hbq.trans (s13.out.mono hbq.size)
  have ha := up1 w13 (.cells #[.int .i64 1, .int .i64 6, .int .i64 2] 2)
  have hl := lit3 w13 (1) (6) (2)
  have hC := Lib.hid (sameT_any A1 3 c1 [1, 6, 2] (some ⟨w13.heap.size, 0, none⟩) 3 3 [1, 6, 2] _ ((hD1h.out.below hbq).below ha) hl (by omega) (by omega))
  rw [decide_eq_true rfl] at hC
  have hah := Lib.hid ha
  clear ha hl hbq
  go_wp2_with fail
  refine hC.out.mono ?_; rintro e w14 ⟨rfl, hbx⟩
  have s14 := Lib.hid (hah.out.trans (hbx.mono hah.out.size))
  clear hbx hC hah
  have hbq := s7.out
  have hbq := hbq.trans (s8.out.mono hbq.size)
  have hbq := hbq.trans (s9.out.mono hbq.size)
  have hbq := hbq.trans (s10.out.mono hbq.size)
  have hbq := hbq.trans (s11.out.mono hbq.size)
  have hbq := hbq.trans (s12.out.mono hbq.size)
  have hbq := hbq.trans (s13.out.mono hbq.size)
  have hbq := hbq.trans (s14.out.mono hbq.size)
  have ha := up1 w14 (.cells #[.int .i64 (-1), .int .i64 0, .int .i64 2, .int .i64 2, .int .i64 (-1), .int .i64 0] 59)
  have hl : Rd (w14.alloc (.cells #[.int .i64 (-1), .int .i64 0, .int .i64 2, .int .i64 2, .int .i64 (-1), .int .i64 0] 59)) 2 pairE (some ⟨w14.heap.size, 0, none⟩) 3 [(-1, 0), (2, 2), (-1, 0)] := Rd.lit w14 2 pairE pairE_len2 59 [(-1, 0), (2, 2), (-1, 0)]
  have hC := Lib.hid (sameV_any V1 3 v1 [(-1, 0), (2, 2), (-1, 0)] (some ⟨w14.heap.size, 0, none⟩) 3 3 [(-1, 0), (2, 2), (-1, 0)] _ ((hV1h.out.below hbq).below ha) hl (by omega) (by omega))
  rw [decide_eq_true rfl] at hC
  have hah := Lib.hid ha
  clear ha hl hbq
  go_wp2_with fail
  refine hC.out.mono ?_; rintro e w15 ⟨rfl, hbx⟩
  have s15 := Lib.hid (hah.out.trans (hbx.mono hah.out.size))
  clear hbx hC hah
  have hbq := s9.out
  have hbq := hbq.trans (s10.out.mono hbq.size)
  have hbq := hbq.trans (s11.out.mono hbq.size)
  have hbq := hbq.trans (s12.out.mono hbq.size)
  have hbq := hbq.trans (s13.out.mono hbq.size)
  have hbq := hbq.trans (s14.out.mono hbq.size)
  have hbq := hbq.trans (s15.out.mono hbq.size)
  have ha := up1 w15 (.cells #[.int .i64 0, .int .i64 5, .int .i64 1, .int .i64 8] 59)
  have hl : Rd (w15.alloc (.cells #[.int .i64 0, .int .i64 5, .int .i64 1, .int .i64 8] 59)) 2 pairE (some ⟨w15.heap.size, 0, none⟩) 2 [(0, 5), (1, 8)] := Rd.lit w15 2 pairE pairE_len2 59 [(0, 5), (1, 8)]
  have hC := Lib.hid (sameV_any A2 2 c2 [(0, 5), (1, 8)] (some ⟨w15.heap.size, 0, none⟩) 2 2 [(0, 5), (1, 8)] _ ((hL2h.out.below hbq).below ha) hl (by omega) (by omega))
  rw [decide_eq_true rfl] at hC
  have hah := Lib.hid ha
  clear ha hl hbq
  go_wp2_with fail
  refine hC.out.mono ?_; rintro e w16 ⟨rfl, hbx⟩
  have s16 := Lib.hid (hah.out.trans (hbx.mono hah.out.size))
  clear hbx hC hah
  go_wp2_with fail
  refine (sexample_any _).mono ?_; rintro e w17 ⟨A, c, B, d, rfl, hr, hbx⟩
  have s17 := Lib.hid hbx
  clear hbx
  have ha := up1 w17 (.cells #[.int .i64 1, .int .i64 8, .int .i64 12] 2)
  have hl := lit3 w17 (1) (8) (12)
  have hC := Lib.hid (xStill (c := c) (d := d) (ca := 3) (D := [1, 8, 12]) (b := true) (hr.below ha) hl (by decide) (by decide) (by decide))
  have hah := Lib.hid ha
  clear ha hl hr
  go_wp2_with fail
  refine hC.out.mono ?_; rintro e w18 ⟨rfl, hbx⟩
  have s18 := Lib.hid (hah.out.trans (hbx.mono hah.out.size))
  clear hbx hC hah
  go_wp2_with fail
  refine (sexample_any _).mono ?_; rintro e w19 ⟨A, c, B, d, rfl, hr, hbx⟩
  have s19 := Lib.hid hbx
  clear hbx
  have ha := up1 w19 (.cells #[.int .i64 1, .int .i64 9, .int .i64 12] 2)
  have hl := lit3 w19 (1) (9) (12)
  have hC := Lib.hid (xStill (c := c) (d := d) (ca := 3) (D := [1, 8, 12]) (b := false) (hr.below ha) hl (by decide) (by decide) (by decide))
  have hah := Lib.hid ha
  clear ha hl hr
  go_wp2_with fail
  refine hC.out.mono ?_; rintro e w20 ⟨rfl, hbx⟩
  have s20 := Lib.hid (hah.out.trans (hbx.mono hah.out.size))
  clear hbx hC hah
  go_wp2_with fail
  refine (sexample_any _).mono ?_; rintro e w21 ⟨A, c, B, d, rfl, hr, hbx⟩
  have s21 := Lib.hid hbx
  clear hbx
  have ha := up1 w21 (.cells #[.int .i64 1] 2)
  have hl := lit1 w21 (1)
  have hC := Lib.hid (xCheck (c := c) (d := d) (ca := 1) (e := 2) (hr.below ha) hl (by omega) (by decide))
  have hah := Lib.hid ha
  clear ha hl hr
  go_wp2_with fail
  refine hC.out.mono ?_; rintro e w22 ⟨rfl, hbx⟩
  have s22 := Lib.hid (hah.out.trans (hbx.mono hah.out.size))
  clear hbx hC hah
  go_wp2_with fail
  refine (sexample_any _).mono ?_; rintro e w23 ⟨A, c, B, d, rfl, hr, hbx⟩
  have s23 := Lib.hid hbx
  clear hbx
  have ha := up1 w23 (.cells #[.int .i64 1, .int .i64 41, .int .i64 0] 2)
  have hl := lit3 w23 (1) (41) (0)
  have hC := Lib.hid (xCheck (c := c) (d := d) (ca := 3) (e := 9) (hr.below ha) hl (by omega) (by decide))
  have hah := Lib.hid ha
  clear ha hl hr
  go_wp2_with fail
  refine hC.out.mono ?_; rintro e w24 ⟨rfl, hbx⟩
  have s24 := Lib.hid (hah.out.trans (hbx.mono hah.out.size))
  clear hbx hC hah
  go_wp2_with fail
  go_returns
  have hbq := s1.out
  have hbq := hbq.trans (s2.out.mono hbq.size)
  have hbq := hbq.trans (s3.out.mono hbq.size)
  have hbq := hbq.trans (s4.out.mono hbq.size)
  have hbq := hbq.trans (s5.out.mono hbq.size)
  have hbq := hbq.trans (s6.out.mono hbq.size)
  have hbq := hbq.trans (s7.out.mono hbq.size)
  have hbq := hbq.trans (s8.out.mono hbq.size)
  have hbq := hbq.trans (s9.out.mono hbq.size)
  have hbq := hbq.trans (s10.out.mono hbq.size)
  have hbq := hbq.trans (s11.out.mono hbq.size)
  have hbq := hbq.trans (s12.out.mono hbq.size)
  have hbq := hbq.trans (s13.out.mono hbq.size)
  have hbq := hbq.trans (s14.out.mono hbq.size)
  have hbq := hbq.trans (s15.out.mono hbq.size)
  have hbq := hbq.trans (s16.out.mono hbq.size)
  have hbq := hbq.trans (s17.out.mono hbq.size)
  have hbq := hbq.trans (s18.out.mono hbq.size)
  have hbq := hbq.trans (s19.out.mono hbq.size)
  have hbq := hbq.trans (s20.out.mono hbq.size)
  have hbq := hbq.trans (s21.out.mono hbq.size)
  have hbq := hbq.trans (s22.out.mono hbq.size)
  have hbq := hbq.trans (s23.out.mono hbq.size)
  have hbq := hbq.trans (s24.out.mono hbq.size)
  exact ⟨rfl, hbq⟩
end Go.Proofs.Ytonkkibnigdfbaa
