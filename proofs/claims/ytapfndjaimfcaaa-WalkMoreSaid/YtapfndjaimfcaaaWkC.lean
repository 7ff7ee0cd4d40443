/-
  Texts of one chain, merged.
-/
import Derived.Test.YtapfndjaimfcaaaWkB
import Derived.BigQuiet
import Derived.Deep.LoopGhost
import Derived.Test.YtapfndjaimfcaaaOpen2
import Derived.Test.YtapfndjaimfcaaaRow
import Derived.Lib.Walk
import Derived.Sort.WalkB12
import Derived.Lib.SlicesMore
namespace Go.Proofs.Ytapfndjaimfcaaa
open Go.RowKit Go.Shelf B K
set_option linter.unusedVariables false
set_option linter.unusedSimpArgs false
set_option maxHeartbeats 2000000
theorem map_replicate_int (n : Nat) (v : Int) : (List.replicate n v).map (Value.int .i64) = List.replicate n (.int .i64 v) := List.map_replicate
/-- a block that came later, behind a later world -/
theorem HQ.moreX {w w' : World} {base h : Nat} {l : List It} {f : Nat} (H : HQ w base h [] l) (hb : Below w.heap.size w w') (hf : w.heap.size ≤ f) : HQ w' base h [f] l := (H.more (Y := [f]) (by simpa using hf)).below hb
set_option maxRecDepth 100000 in
theorem from_any (n s ob : Nat) (l : List Ed) (w : World) (hO : OutR w ob n (byStop l)) (hs : s < n) (hn : n ≤ 256) (hl : EdsOk n l) (hll : l.length ≤ 4096) :
    Calls Try.prog 46 #[.slice (some ⟨ob, 0, none⟩) n n, .int .i64 s] w fun e w' => ∃ fb d, e = .returned (.slice (some ⟨fb, 0, none⟩) n n) ∧ IsDist n l s d ∧ w.heap.size ≤ fb ∧ w'.heap[fb]? = some (.cells (d.map (Value.int .i64)).toArray 2 (0, 0)) ∧ Below w.heap.size w w' := by
  go_enter Try.func46, Try.ntmps46
  go_wp2_with fail
  refine (New_any (base := w.heap.size) [] (by simp) (Nat.le_refl _)).mono ?_; rintro e w1 ⟨h, rfl, hh, H1, hb1⟩
  have ha1 : Below w1.heap.size w1 (w1.alloc (.cells #[.int .i64 4611686018427387904] 2)) := (Below.refl _ w1).alloc (Nat.le_refl _) _
  have hn1 := heap_alloc_new w1 (.cells #[.int .i64 4611686018427387904] 2)
  have hR := Lib.hid (rep_any 4611686018427387904 n w1.heap.size (w1.alloc (.cells #[.int .i64 4611686018427387904] 2)) (by omega) hn (by simp) (by rw [cell_of_row _ _ _ _ _ _ hn1]; rfl))
  have H2 := H1.below ha1
  have hb2 := hb1.trans (ha1.mono hb1.size)
  clear H1 hb1 ha1 hn1
  go_wp2_with fail
  refine hR.out.mono ?_; rintro e w3 ⟨fb, rfl, hfb, hf, hb3⟩
  have H3 := H2.below hb3
  have hb4 := hb2.trans (hb3.mono hb2.size)
  have hfb2 := Nat.le_trans hb2.size hfb
  have ha3 : Below w3.heap.size w3 (w3.alloc (.cells #[.slice (some ⟨ob, 0, none⟩) n n, .slice (some ⟨fb, 0, none⟩) n n, .func (.func 31) #[.pointer (some ⟨h, 0, none⟩)] #[], .func (.func 35) #[.pointer (some ⟨h, 0, none⟩)] #[], .func (.func 36) #[.pointer (some ⟨h, 0, none⟩)] #[]] 102)) := (Below.refl _ w3).alloc (Nat.le_refl _) _
  have hn3 := heap_alloc_new w3 (.cells #[.slice (some ⟨ob, 0, none⟩) n n, .slice (some ⟨fb, 0, none⟩) n n, .func (.func 31) #[.pointer (some ⟨h, 0, none⟩)] #[], .func (.func 35) #[.pointer (some ⟨h, 0, none⟩)] #[], .func (.func 36) #[.pointer (some ⟨h, 0, none⟩)] #[]] 102)
  have hfl := (Array.getElem?_eq_some_iff.1 hf).1
  have H4 : SQ (w3.alloc (.cells #[.slice (some ⟨ob, 0, none⟩) n n, .slice (some ⟨fb, 0, none⟩) n n, .func (.func 31) #[.pointer (some ⟨h, 0, none⟩)] #[], .func (.func 35) #[.pointer (some ⟨h, 0, none⟩)] #[], .func (.func 36) #[.pointer (some ⟨h, 0, none⟩)] #[]] 102)) w.heap.size h [w3.heap.size, fb] w3.heap.size fb ob n (List.replicate n 4611686018427387904) [] := by
    refine ⟨((H2.moreX hb3 hfb).more (Y := [w3.heap.size, fb]) (by simp)).below ha3, by simp, by simp, by omega, hn3, ?_, by simp, hb4.size, hfb2⟩
    rw [map_replicate_int]
    exact (ha3.block _ hfl).trans hf
  have hb5 := hb4.trans (ha3.mono hb4.size)
  have hsl : w3.heap.size < (w3.alloc (.cells #[.slice (some ⟨ob, 0, none⟩) n n, .slice (some ⟨fb, 0, none⟩) n n, .func (.func 31) #[.pointer (some ⟨h, 0, none⟩)] #[], .func (.func 35) #[.pointer (some ⟨h, 0, none⟩)] #[], .func (.func 36) #[.pointer (some ⟨h, 0, none⟩)] #[]] 102)).heap.size := by simp
  obtain ⟨W4, hW4⟩ : ∃ q, w3.alloc (.cells #[.slice (some ⟨ob, 0, none⟩) n n, .slice (some ⟨fb, 0, none⟩) n n, .func (.func 31) #[.pointer (some ⟨h, 0, none⟩)] #[], .func (.func 35) #[.pointer (some ⟨h, 0, none⟩)] #[], .func (.func 36) #[.pointer (some ⟨h, 0, none⟩)] #[]] 102) = q := ⟨_, rfl⟩
  obtain ⟨sb, hsb⟩ : ∃ q, w3.heap.size = q := ⟨_, rfl⟩
  rw [hW4, hsb] at H4 hsl
  rw [hW4] at hb5
  clear H2 hb2 hb3 hR H3 hn3 ha3 hf hb4
  have hB := Lib.hid (better_new (i := s) (far := 0) H4 (by rw [List.getElem?_replicate, if_pos hs]) (by decide) (by simp) (by simp; omega) hn hb5.size (by simp; have := H4.flt; omega))
  have hDs : Dij n l s n ((List.replicate n 4611686018427387904).set s 0) [(0, (s : Int))] 0 [] := Dij.start hs
  clear H4 hfl
  go_wp2_with fail
  refine hB.out.mono ?_; rintro e w5 ⟨rfl, H5, hb6, hX6⟩
  have hbb5 := hb5.trans hb6
  clear hB hb6 hX6 hW4 hsb
  obtain ⟨d, hd⟩ : ∃ q, (List.replicate n (4611686018427387904 : Int)).set s 0 = q := ⟨_, rfl⟩
  rw [hd] at H5 hDs
  clear hd hb5 hsl hfb
  have c3 := H5.c3
  have hP := Lib.hid (Pop_min H5.q (x := (0, (s : Int))) (l0 := []) (List.Perm.refl _) (by simp) hbb5.size (by simp; exact ⟨H5.slt, H5.flt⟩))
  go_wp2_with fail
  refine hP.out.mono ?_; rintro e w6 ⟨rfl, hp6⟩
  have H6 := H5.turn hp6
  have hbb6 := hbb5.trans hp6.2.1
  obtain ⟨a, ha, han, hda, haS, hc1, hD⟩ := hDs.out (by simp)
  clear hP hp6 H5 c3 hbb5 hDs
  obtain rfl : s = a := by have := ha; simp only at this; omega
  clear ha
  have ha6 : Below w6.heap.size w6 (w6.alloc (.cells #[.int .i64 0, .int .i64 s] 53)) := (Below.refl _ w6).alloc (Nat.le_refl _) _
  have hk6 := heap_alloc_new w6 (.cells #[.int .i64 0, .int .i64 s] 53)
  have hs6 := H6.slt
  have hf6 := H6.flt
  have hinv0 : FromInv w h sb fb ob n l s n (.pointer (some ⟨w6.heap.size, 0, none⟩)) (.bool true) (w6.alloc (.cells #[.int .i64 0, .int .i64 s] 53)) :=
    ⟨w6.heap.size, d, rfl, hbb6.size, hbb6.trans (ha6.mono hbb6.size), by omega, by omega, .inl ⟨rfl, 0, s, [], n - 1, by omega, hk6, (H6.more (Y := [w6.heap.size, sb, fb]) (by simp) (by simp)).below ha6, hD, hda, haS, hs⟩⟩
  clear ha6 hk6 hs6 hf6 H6 hbb6 hD hda haS hc1
  have hinv1 := Lib.hid hinv0
  clear hinv0
  go_wp2_with fail
  go_loopg [7, 8] n (fun k p b wr => FromInv w h sb fb ob n l s k p b wr)
  case atStart => exact hinv1.out
  case round =>
    clear hinv1
    obtain ⟨xb, d, rfl, hxb, hbb, hx1, hx2, ⟨rfl, m, a1, S, c0, rfl, hxk, H, hD, hda, haS, han1⟩ | ⟨rfl, H, hI⟩⟩ := hrel
    · obtain ⟨A1, cA, hcA0, hrA⟩ := hO.2 a1 han1
      have hcA := (hbb.cell (p := ⟨ob, a1, none⟩) hO.1).trans hcA0
      have hob := (hO.below hbb).1
      clear hcA0
      obtain ⟨r, hr⟩ : ∃ r, (byStop l a1).length = r := ⟨_, rfl⟩
      have hr4 : r ≤ 4096 := by rw [← hr]; exact Nat.le_trans (byStop_len _ _) hll
      rw [hr] at hcA hrA
      have hk0 : wr.cell? ⟨xb, 0, none⟩ = some (.int .i64 m) := by rw [cell_of_row _ _ _ _ _ _ hxk]; rfl
      have hk1 : wr.cell? ⟨xb, 1, none⟩ = some (.int .i64 a1) := by rw [cell_of_row _ _ _ _ _ _ hxk]; rfl
      have hs0 := H.c0
      have hsl := H.slt
      have hxl := (Array.getElem?_eq_some_iff.1 hxk).1
      have han2 : (a1 : Int) < (n : Int) := by omega
      have AS := Lib.hid (show SQ wr w.heap.size h [xb, sb, fb] sb fb ob n d S ∧ Dij n l s c0 d S m ((byStop l a1).drop 0) ∧ d[a1]? = some m ∧ (m, (a1 : Int)) ∉ S ∧ wr.heap[xb]? = some (.cells #[.int .i64 m, .int .i64 a1] 53 (0, 0)) ∧ Below w.heap.size w wr from ⟨H, hD, hda, haS, hxk, hbb⟩)
      clear H hD hda haS hbb hxk
      go_upto_region 7 with fail
      refine wp_region_below wr.heap.size (by kernel_rfl) (by kernel_rfl) ?_
      intro C hC
      repeat (go_big_quiet_step (first
        | ((intro _; with_reducible rfl))
        | (intro hc; have m0 := (hc.cell (p := ⟨xb, _, none⟩) hxl).trans hk1; have m1 := (hc.cell (p := ⟨sb, _, none⟩) hsl).trans hs0; have m2 := (hc.cell (p := ⟨ob, _, none⟩) hob).trans hcA; simp only [m0, m1, m2, Result.andThen]; exact ⟨trivial, rfl⟩)))
      refine wpQuiet_nil ?_
      intro w4 hb4
      clear hC
      go_wp2_with fail
      have AS2 : Hid (SQ w4 w.heap.size h [xb, sb, fb] sb fb ob n d S ∧ Dij n l s c0 d S m ((byStop l a1).drop 0) ∧ d[a1]? = some m ∧ (m, (a1 : Int)) ∉ S ∧ w4.heap[xb]? = some (.cells #[.int .i64 m, .int .i64 a1] 53 (0, 0)) ∧ Below w.heap.size w w4) := by
        obtain ⟨q1, q2, q3, q4, q5, q6⟩ := AS.out
        exact ⟨q1.below hb4, q2, q3, q4, (hb4.block _ hxl).trans q5, q6.trans (hb4.mono q6.size)⟩
      clear AS hb4 hcA hob hk0 hk1 hs0 hsl hxl
      go_loopw [56] (fun i wq => ∃ (k : Nat) (d : List Int) (S : List It), k ≤ r ∧ i = .int .i64 k ∧ Hid (SQ wq w.heap.size h [xb, sb, fb] sb fb ob n d S ∧ Dij n l s c0 d S m ((byStop l a1).drop k) ∧ d[a1]? = some m ∧ (m, (a1 : Int)) ∉ S ∧ wq.heap[xb]? = some (.cells #[.int .i64 m, .int .i64 a1] 53 (0, 0)) ∧ Below w.heap.size w wq)) (fun i _ => r - (intOf i).toNat)
      case atStart => exact ⟨0, d, S, Nat.zero_le _, rfl, AS2⟩
      case round =>
        clear AS2 d S
        obtain ⟨k, d, S, hk, rfl, hA⟩ := hrel
        obtain ⟨q1, q2, q3, q4, q5, q6⟩ := hA.out
        clear hA
        by_cases hlt : k < r
        · obtain ⟨b, o, x1, x2, x3, rfl, hbs, hx, h1, h2, h3⟩ := (hrA.below q6).trip hlt
          obtain ⟨hmem, hx1e⟩ := byStop_mem (List.mem_of_getElem? hx)
          obtain ⟨_, _, hb0, hbn, hab, hl1, hl2⟩ := hl _ hmem
          simp only at hb0 hbn hab hl1 hl2 hx1e
          obtain ⟨b2, rfl⟩ : ∃ b2 : Nat, x2 = b2 := ⟨x2.toNat, by omega⟩
          subst hx1e
          have q2' := q2
          rw [drop_at hx] at q2'
          have hm0 := q2.m0
          have hk0 : wr.cell? ⟨xb, 0, none⟩ = some (.int .i64 m) := by rw [cell_of_row _ _ _ _ _ _ q5]; rfl
          have hxl := (Array.getElem?_eq_some_iff.1 q5).1
          have ha := (Below.refl _ wr).alloc (Nat.le_refl wr.heap.size) (.cells #[.int .i64 a1, .int .i64 b2, .int .i64 x3] 32)
          have bx := Bx3.new wr 32 a1 b2 x3
          have hc0 := (ha.cell (p := ⟨xb, 0, none⟩) hxl).trans hk0
          have hxk2 := (ha.block _ hxl).trans q5
          have q1' := q1.below ha
          have q6' := q6.trans (ha.mono q6.size)
          obtain ⟨W2, hW2⟩ : ∃ q, wr.alloc (.cells #[.int .i64 a1, .int .i64 b2, .int .i64 x3] 32) = q := ⟨_, rfl⟩
          obtain ⟨eb, heb⟩ : ∃ q, wr.heap.size = q := ⟨_, rfl⟩
          have hbe := Lib.hid hbs
          rw [hW2] at bx hc0 q1' q6' ha hxk2
          rw [heb] at bx hbs
          have bc1 := bx.c1
          have bc2 := bx.c2
          have hadd := Lib.hid (addT_any (a := m) (b := x3) hm0 ⟨by omega, hl2⟩ W2)
          have hrl := hrA.len
          by_cases htop : m + x3 ≤ 1099511627776
          · have hB := Lib.hid (relax_any q1' q2' hmem hl rfl rfl q3 q4 htop hn q6'.size (by have := q1'.slt; have := q1'.flt; have := (Array.getElem?_eq_some_iff.1 hxk2).1; simp; omega))
            have hfin : Hid (∀ w9, (∃ d' S', SPost W2 w9 w.heap.size h [xb, sb, fb] sb fb ob n d' S' ∧ Dij n l s c0 d' S' m ((byStop l a1).drop (k + 1)) ∧ d'[a1]? = some m ∧ (m, (a1 : Int)) ∉ S') → ∃ d' S', SQ w9 w.heap.size h [xb, sb, fb] sb fb ob n d' S' ∧ Dij n l s c0 d' S' m ((byStop l a1).drop (k + 1)) ∧ d'[a1]? = some m ∧ (m, (a1 : Int)) ∉ S' ∧ w9.heap[xb]? = some (.cells #[.int .i64 m, .int .i64 a1] 53 (0, 0)) ∧ Below w.heap.size w w9) := by
              rintro w9 ⟨d', S', p1, p2, p3, p4⟩
              exact ⟨d', S', p1.1, p2, p3, p4, (p1.2.2 xb (by simp) hx2 (Array.getElem?_eq_some_iff.1 hxk2).1).trans hxk2, q6'.trans p1.2.1⟩
            rw [if_pos htop, if_pos htop] at hadd
            clear q1 q2 q3 q4 q5 q6 q1' q2' q6' hx hmem ha bx hk0 hxl hxk2 htop hb0 hbn hab hl1 hl2 hm0
            go_wp2_with (first | (go_at_call 61; refine hadd.out.mono ?_; rintro e w8 ⟨rfl, rfl⟩) | (go_at_call 60; refine hB.out.mono ?_; rintro e w9 ⟨rfl, hpost⟩; have hpo := Lib.hid (hfin.out _ hpost); clear hpost))
            go_roundw
            case rel =>
              obtain ⟨d', S', p1, p2, p3, p4, p5, p6⟩ := hpo.out
              exact ⟨k + 1, d', S', by omega, by go_num, p1, p2, p3, p4, p5, p6⟩
            case measure => simp [intOf]; omega
          · have hfin : Hid (SQ W2 w.heap.size h [xb, sb, fb] sb fb ob n d S ∧ Dij n l s c0 d S m ((byStop l a1).drop (k + 1)) ∧ d[a1]? = some m ∧ (m, (a1 : Int)) ∉ S ∧ W2.heap[xb]? = some (.cells #[.int .i64 m, .int .i64 a1] 53 (0, 0)) ∧ Below w.heap.size w W2) :=
              ⟨q1', q2'.skip rfl rfl q3 (.inl (by show 1099511627776 < m + x3; omega)), q3, q4, hxk2, q6'⟩
            rw [if_neg htop, if_neg htop] at hadd
            clear q1 q2 q3 q4 q5 q6 q1' q2' q6' hx hmem ha bx hk0 hxl hxk2 htop hb0 hbn hab hl1 hl2 hm0
            go_wp2_with (go_at_call 61; refine hadd.out.mono ?_; rintro e w8 ⟨rfl, rfl⟩)
            go_roundw
            case rel => exact ⟨k + 1, d, S, by omega, by go_num, hfin⟩
            case measure => simp [intOf]; omega
        · obtain rfl : k = r := by omega
          rw [List.drop_eq_nil_of_le (by omega)] at q2
          have hxl := (Array.getElem?_eq_some_iff.1 q5).1
          have hk0 : wr.cell? ⟨xb, 0, none⟩ = some (.int .i64 m) := by rw [cell_of_row _ _ _ _ _ _ q5]; rfl
          have hk1 : wr.cell? ⟨xb, 1, none⟩ = some (.int .i64 a1) := by rw [cell_of_row _ _ _ _ _ _ q5]; rfl
          have ha := (Below.refl _ wr).alloc (Nat.le_refl wr.heap.size) (.cells #[.int .i64 m, .int .i64 a1] 53)
          have hnk := heap_alloc_new wr (.cells #[.int .i64 m, .int .i64 a1] 53)
          have q1' := ((q1.less (Y := [sb, fb]) (by simp) (by simp) (by simp)).more (Y := [wr.heap.size, sb, fb]) (by simp) (by simp)).below ha
          have hn1 : wr.heap.size ≠ sb := by have := q1.slt; omega
          have hn2 : wr.heap.size ≠ fb := by have := q1.flt; omega
          have hbx := q6.size
          have q6' := q6.trans (ha.mono q6.size)
          have hyl : wr.heap.size < (wr.alloc (.cells #[.int .i64 m, .int .i64 a1] 53)).heap.size := by simp
          obtain ⟨W2, hW2⟩ : ∃ q, wr.alloc (.cells #[.int .i64 m, .int .i64 a1] 53) = q := ⟨_, rfl⟩
          obtain ⟨yb, hyb⟩ : ∃ q, wr.heap.size = q := ⟨_, rfl⟩
          rw [hW2] at q1' q6' hnk hyl
          rw [hyb] at q1' hnk hn1 hn2 hbx hyl
          have c3 := q1'.c3
          have hlts : ∀ b ∈ [yb, sb, fb], b < W2.heap.size := by have := q1'.slt; have := q1'.flt; simp; omega
          clear q1 q6 q5 q4 q3 ha hxl
          cases S with
          | nil =>
            have hP := Lib.hid (Pop_zero (w := W2) (p := .pointer (some ⟨h, 0, none⟩)) fun W hW => Len_any (q1'.q.below hW))
            have hfin : Hid (∀ w7 : World, Below W2.heap.size W2 w7 → (w7.frozen? ⟨yb, 0, none⟩ = false ∧ w7.frozen? ⟨yb, 1, none⟩ = false ∧ w7.cell? ⟨yb, 0, none⟩ = some (.int .i64 m) ∧ w7.cell? ⟨yb, 1, none⟩ = some (.int .i64 a1)) ∧
                FromInv w h sb fb ob n l s 0 (.pointer (some ⟨yb, 0, none⟩)) (.bool false) ((w7.setCell ⟨yb, 0, none⟩ (.int .i64 0)).setCell ⟨yb, 1, none⟩ (.int .i64 0))) := fun w7 hb7 => by
              obtain ⟨f0, f1, g0, g1, hbut, hnew⟩ := box2_set (u0 := .int .i64 0) (u1 := .int .i64 0) ((hb7.block _ hyl).trans hnk)
              have hb7' := q6'.trans (hb7.mono q6'.size)
              exact ⟨⟨f0, f1, g0, g1⟩, yb, d, rfl, hbx, hb7'.trans (hbut.below hb7'.size (by simpa using hbx)), hn1, hn2, .inr ⟨rfl, (q1'.below hb7).but hbut (by simpa using ⟨hn1, hn2⟩), q2.fin hl⟩⟩
            clear q1' q2 q6' hnk hlts hyl
            go_wp2_with (refine hP.out.mono ?_; rintro e w7 ⟨rfl, hb7⟩; obtain ⟨⟨f0, f1, g0, g1⟩, hinv⟩ := hfin.out w7 hb7; have hinv := Lib.hid hinv; clear hb7)
            go_roundg 0
            case measure => omega
            case rel => exact hinv.out
          | cons y0 S0 =>
            have hP := Lib.hid (Pop_any q1'.q (by simp) q6'.size hlts)
            have hfin : Hid (∀ (w7 : World) (x : It) (l0 : List It), (y0 :: S0).Perm (x :: l0) → (∀ y ∈ l0, ltI y x = false) → HPost W2 w7 w.heap.size h [yb, sb, fb] l0 → (w7.frozen? ⟨yb, 0, none⟩ = false ∧ w7.frozen? ⟨yb, 1, none⟩ = false ∧ w7.cell? ⟨yb, 0, none⟩ = some (.int .i64 m) ∧ w7.cell? ⟨yb, 1, none⟩ = some (.int .i64 a1)) ∧
                FromInv w h sb fb ob n l s c0 (.pointer (some ⟨yb, 0, none⟩)) (.bool true) ((w7.setCell ⟨yb, 0, none⟩ (.int .i64 x.1)).setCell ⟨yb, 1, none⟩ (.int .i64 x.2))) := fun w7 x l0 hp hmin hp7 => by
              obtain ⟨f0, f1, g0, g1, hbut, hnew⟩ := box2_set (u0 := .int .i64 x.1) (u1 := .int .i64 x.2) ((hp7.2.2 _ (by simp) hyl).trans hnk)
              have hb7' := q6'.trans hp7.2.1
              obtain ⟨a, ha, han, hda, haS, hc1, hD⟩ := (q2.perm hp).out hmin
              rw [ha] at hnew hbut ⊢
              exact ⟨⟨f0, f1, g0, g1⟩, yb, d, rfl, hbx, hb7'.trans (hbut.below hb7'.size (by simpa using hbx)), hn1, hn2, .inl ⟨rfl, x.1, a, l0, c0 - 1, by omega, hnew, (q1'.turn hp7).but hbut (by simpa using ⟨hn1, hn2⟩), hD, hda, haS, han⟩⟩
            clear q1' q2 q6' hnk hlts hyl
            go_wp2_with (refine hP.out.mono ?_; rintro e w7 ⟨x, l0, hp0, hmin, rfl, hp7⟩; obtain ⟨⟨f0, f1, g0, g1⟩, hinv⟩ := hfin.out w7 x l0 hp0 hmin hp7; have hinv := Lib.hid hinv; clear hp7 hp0 hmin)
            go_roundg c0
            case measure => omega
            case rel => exact hinv.out
    · have hs1 := H.c1
      have hff := H.f
      have hfl := H.fb0
      clear H
      go_wp2_with fail
      go_returns
      exact ⟨fb, d, rfl, hI, hfl, hff, hbb⟩
end Go.Proofs.Ytapfndjaimfcaaa
namespace Go.Proofs.Ytapfndjaimfcaaa
open Go.RowKit Go.Shelf B K
set_option linter.unusedVariables false
set_option linter.unusedSimpArgs false
set_option maxHeartbeats 1000000
theorem rd_ints {w : World} {fb n : Nat} {d : List Int} (h : w.heap[fb]? = some (.cells (d.map (Value.int .i64)).toArray 2 (0, 0))) (hl : d.length = n) : Rd w 1 (numE .i64) (some ⟨fb, 0, none⟩) n d :=
  ⟨hl, fun _ => ⟨fb, 0, rfl, (Array.getElem?_eq_some_iff.1 h).1, fun i x hx j u hu => by
    have hj : j = 0 := by
      have := (List.getElem?_eq_some_iff.1 hu).1
      simp [numE] at this; exact this
    subst hj
    simp [numE] at hu
    subst hu
    rw [cell_of_row _ _ _ _ _ _ h]
    simp [hx]⟩⟩
theorem chk_pos {n : Int} {l : List Ed} : (chkE n l == 0) = decide (chkE n l = 0) := by
  by_cases h : chkE n l = 0 <;> simp [h]
section
variable {A : Option Addr} {m c : Nat} {l : List Ed} {w : World}
theorem From_bad (n s : Int) (hr : Rd w 3 tripE A m l) (hm : m ≤ 1099511627776) (hc : chkE n l ≠ 0) :
    Calls Try.prog 17 #[.int .i64 n, .slice A m c, .int .i64 s] w fun e w' => e = .returned (.tuple #[.slice none 0 0, .int .i64 (chkE n l)]) ∧ Below w.heap.size w w' := by
  have hC := Lib.hid (chk_any n A m c l w hr hm)
  obtain ⟨q, hq⟩ : ∃ q, chkE n l = q := ⟨_, rfl⟩
  rw [hq] at hC hc ⊢
  have hd : (q == 0) = false := by simpa using hc
  clear hr hq
  go_enter Try.func17, Try.ntmps17
  go_wp2_with (go_at_call 15; refine hC.out.mono ?_; rintro e w1 ⟨rfl, hb⟩)
  go_returns
  exact ⟨rfl, hb⟩
theorem From_arg (n s : Int) (hr : Rd w 3 tripE A m l) (hm : m ≤ 1099511627776) (hc : chkE n l = 0) (hs : s < 0 ∨ n ≤ s) :
    Calls Try.prog 17 #[.int .i64 n, .slice A m c, .int .i64 s] w fun e w' => e = .returned (.tuple #[.slice none 0 0, .int .i64 2]) ∧ Below w.heap.size w w' := by
  have hC := Lib.hid (chk_any n A m c l w hr hm)
  rw [hc] at hC
  clear hr hc
  go_enter Try.func17, Try.ntmps17
  by_cases h0 : s < 0
  · have hd0 : decide (s < 0) = true := decide_eq_true h0
    go_wp2_with (go_at_call 15; refine hC.out.mono ?_; rintro e w1 ⟨rfl, hb⟩)
    go_returns
    exact ⟨rfl, hb⟩
  · have hd0 : decide (s < 0) = false := decide_eq_false h0
    have hd1 : decide (n ≤ s) = true := decide_eq_true (by omega)
    go_wp2_with (go_at_call 15; refine hC.out.mono ?_; rintro e w1 ⟨rfl, hb⟩)
    go_returns
    exact ⟨rfl, hb⟩
theorem From_ok (n s : Nat) (hr : Rd w 3 tripE A m l) (hm : m ≤ 1099511627776) (hc : chkE n l = 0) (hs : s < n) :
    Calls Try.prog 17 #[.int .i64 n, .slice A m c, .int .i64 s] w fun e w' => ∃ fb d, e = .returned (.tuple #[.slice (some ⟨fb, 0, none⟩) n n, .int .i64 0]) ∧ IsDist n l s d ∧ w.heap.size ≤ fb ∧ w'.heap[fb]? = some (.cells (d.map (Value.int .i64)).toArray 2 (0, 0)) ∧ Below w.heap.size w w' := by
  have hC := Lib.hid (chk_any n A m c l w hr hm)
  rw [hc] at hC
  obtain ⟨hll, _, hn⟩ := chk_len hc
  have hE := eds_ok hc
  have hml := hr.len
  have hN : Hid (∀ W, Below w.heap.size w W → Calls Try.prog 47 #[.int .i64 n, .slice A m c] W fun e w' => ∃ ob, e = .returned (.slice (some ⟨ob, 0, none⟩) n n) ∧ OutR w' ob n (byStop l) ∧ Below W.heap.size W w') := fun W hW =>
    near_any n A m c l W (hr.below hW) (by omega) (by omega) fun e he => ⟨(hE e he).1, (hE e he).2.1⟩
  have hn' : n ≤ 256 := by omega
  have hs2 : decide ((n : Int) ≤ (s : Int)) = false := decide_eq_false (by omega)
  have hs3 : decide ((s : Int) < 0) = false := decide_eq_false (by omega)
  clear hr hc hml
  go_enter Try.func17, Try.ntmps17
  go_wp2_with (first | (go_at_call 15; refine hC.out.mono ?_; rintro e w1 ⟨rfl, hb⟩) | (go_at_call 47; refine (hN.out _ hb).mono ?_; rintro e w2 ⟨ob, rfl, hO, hb2⟩; have hF := Lib.hid (from_any n s ob l w2 hO hs hn' hE hll)) | (go_at_call 46; refine hF.out.mono ?_; rintro e w3 ⟨fb, d, rfl, hD, hfb, hf, hb3⟩))
  go_returns
  have hb12 := hb.trans (hb2.mono hb.size)
  exact ⟨fb, d, rfl, hD, Nat.le_trans hb12.size hfb, hf, hb12.trans (hb3.mono hb12.size)⟩
end
end Go.Proofs.Ytapfndjaimfcaaa
namespace Go.Proofs.Ytapfndjaimfcaaa
open Go.RowKit Go.Shelf B K
set_option linter.unusedVariables false
set_option linter.unusedSimpArgs false
set_option maxHeartbeats 1000000
def rowE (n : Nat) (fb : Nat) : List Value := [.slice (some ⟨fb, 0, none⟩) n n]
theorem rowE_len (n fb : Nat) : (rowE n fb).length = 1 := rfl
theorem rowE_one (n fb : Nat) : ∀ u ∈ rowE n fb, u.oneCell' = true := fun u hu => by simp [rowE] at hu; subst hu; rfl
theorem infoI64s : (Try.prog.info? 27).map (fun i => (i.zero, i.size, i.bytes)) = some (some (.slice none 0 0), 1, 24) := by kernel_rfl
/-- rows told so far: row i is how far all are from i -/
def RowsOk (w : World) (base n : Nat) (l : List Ed) (L : List Nat) : Prop := ∀ (i fb : Nat), L[i]? = some fb → base ≤ fb ∧ ∃ d, w.heap[fb]? = some (.cells (d.map (Value.int .i64)).toArray 2 (0, 0)) ∧ IsDist n l i d
theorem RowsOk.lt {w : World} {base n : Nat} {l : List Ed} {L : List Nat} (h : RowsOk w base n l L) {i fb : Nat} (hx : L[i]? = some fb) : fb < w.heap.size := by
  obtain ⟨_, d, hd, _⟩ := h i fb hx
  exact (Array.getElem?_eq_some_iff.1 hd).1
theorem RowsOk.below {w w' : World} {base n : Nat} {l : List Ed} {L : List Nat} (h : RowsOk w base n l L) (hb : Below w.heap.size w w') : RowsOk w' base n l L := fun i fb hx => by
  have hlt := h.lt hx
  obtain ⟨h1, d, h2, h3⟩ := h i fb hx
  exact ⟨h1, d, (hb.block fb hlt).trans h2, h3⟩
theorem RowsOk.grown {w w' : World} {base n : Nat} {l : List Ed} {L L' : List Nat} {v : Value} {k : Nat} (h : RowsOk w base n l L) (own : w.ownsRow base 27 1 v k (L'.flatMap (rowE n))) (hg : w.grownBy w' v.ownBlock) : RowsOk w' base n l L := fun i fb hx => by
  have hlt := h.lt hx
  obtain ⟨h1, d, h2, h3⟩ := h i fb hx
  refine ⟨h1, d, (hg.block fb hlt fun e => ?_).trans h2, h3⟩
  rcases own.2 with ⟨h0, _⟩ | ⟨g, cap, cur, h0, _, hh, _⟩
  · rw [h0] at e; cases e
  · rw [h0] at e
    simp only [Value.ownBlock, Option.some.injEq] at e
    rw [← e, h2] at hh; simp at hh
theorem RowsOk.snoc {w : World} {base n : Nat} {l : List Ed} {L : List Nat} {fb : Nat} {d : List Int} (h : RowsOk w base n l L) (hb : base ≤ fb) (hf : w.heap[fb]? = some (.cells (d.map (Value.int .i64)).toArray 2 (0, 0))) (hD : IsDist n l L.length d) : RowsOk w base n l (L ++ [fb]) := fun i f hx => by
  rw [List.getElem?_append] at hx
  split at hx
  · exact h i f hx
  · rename_i hi
    have hi2 : i = L.length := by
      have := (List.getElem?_eq_some_iff.1 hx).1
      simp at this; omega
    subst hi2
    simp at hx; subst hx
    exact ⟨hb, d, hf, hD⟩
section
variable {A : Option Addr} {m c : Nat} {l : List Ed} {w : World}
theorem All_bad (n : Int) (hr : Rd w 3 tripE A m l) (hm : m ≤ 1099511627776) (hc : chkE n l ≠ 0) :
    Calls Try.prog 22 #[.int .i64 n, .slice A m c] w fun e w' => e = .returned (.tuple #[.slice none 0 0, .int .i64 (chkE n l)]) ∧ Below w.heap.size w w' := by
  have hC := Lib.hid (chk_any n A m c l w hr hm)
  obtain ⟨q, hq⟩ : ∃ q, chkE n l = q := ⟨_, rfl⟩
  rw [hq] at hC hc ⊢
  have hd : (q == 0) = false := by simpa using hc
  clear hr hq
  go_enter Try.func22, Try.ntmps22
  go_wp2_with (go_at_call 15; refine hC.out.mono ?_; rintro e w1 ⟨rfl, hb⟩)
  go_returns
  exact ⟨rfl, hb⟩
theorem All_ok (n : Nat) (hr : Rd w 3 tripE A m l) (hm : m ≤ 1099511627776) (hc : chkE n l = 0) :
    Calls Try.prog 22 #[.int .i64 n, .slice A m c] w fun e w' => ∃ A' c' L, e = .returned (.tuple #[.slice A' n c', .int .i64 0]) ∧ Rd w' 1 (rowE n) A' n L ∧ RowsOk w' w.heap.size n l L ∧ Below w.heap.size w w' := by
  have hC := Lib.hid (chk_any n A m c l w hr hm)
  rw [hc] at hC
  obtain ⟨hll, _, hn⟩ := chk_len hc
  have hE := eds_ok hc
  have hml := hr.len
  have hN : Hid (∀ W, Below w.heap.size w W → Calls Try.prog 47 #[.int .i64 n, .slice A m c] W fun e w' => ∃ ob, e = .returned (.slice (some ⟨ob, 0, none⟩) n n) ∧ OutR w' ob n (byStop l) ∧ Below W.heap.size W w') := fun W hW =>
    near_any n A m c l W (hr.below hW) (by omega) (by omega) fun e he => ⟨(hE e he).1, (hE e he).2.1⟩
  have hn' : n ≤ 256 := by omega
  clear hr hc hml
  go_enter Try.func22, Try.ntmps22
  go_wp2_with (first | (go_at_call 15; refine hC.out.mono ?_; rintro e w1 ⟨rfl, hb⟩) | (go_at_call 47; refine (hN.out _ hb).mono ?_; rintro e w2 ⟨ob, rfl, hO, hb2⟩))
  have hb12 := hb.trans (hb2.mono hb.size)
  have hOw := Lib.hid hO
  clear hb hb2 hC hN hO
  have hOl := hOw.out.1
  go_loopw [8, 20] (fun v i wr => ∃ (k : Nat) (L : List Nat), k ≤ n ∧ L.length = k ∧ i = .int .i64 k ∧ wr.ownsRow w2.heap.size 27 1 v L.length (L.flatMap (rowE n)) ∧ RowsOk wr w2.heap.size n l L ∧ Below w2.heap.size w2 wr) (fun _ i _ => n - (intOf i).toNat)
  case atStart => exact ⟨0, [], Nat.zero_le _, rfl, rfl, World.ownsRow_nil _ _ _ _, fun i fb h => (by simp at h), Below.refl _ _⟩
  case round =>
    obtain ⟨k, L, hk, hL, rfl, own, hR, hb⟩ := hrel
    by_cases hlt : k < n
    · have hbw : Below w.heap.size w wr := hb12.trans (hb.mono hb12.size)
      have hF := Lib.hid (from_any n k ob l wr (hOw.out.below hb) hlt hn' hE hll)
      have hLk := Lib.hid hL
      have ownh := Lib.hid own
      clear own hL
      go_wp2_with fail
      refine hF.out.mono ?_; rintro e w3 ⟨fb, d, rfl, hD, hfb, hf, hb3⟩
      have own3 := own_up ownh.out hb3
      have hR3 := hR.below hb3
      have hb23 := hb.trans (hb3.mono hb.size)
      have hbw3 := hbw.trans (hb3.mono hbw.size)
      obtain ⟨gg, cc, w4, hrun, own4, hgr, hg⟩ := append_one (enc := rowE n) Try.underlying41 infoI64s rfl (by decide) (rowE_len n) (rowE_one n) w3 w2.heap.size _ L fb own3 (by rw [hLk.out]; omega) (by decide) hb23.size
      have ha3 : Below w3.heap.size w3 (w3.alloc (.cells (rowE n fb).toArray 27)) := (Below.refl _ w3).alloc (Nat.le_refl _) _
      have hfa := (ha3.block fb (Array.getElem?_eq_some_iff.1 hf).1).trans hf
      have hRa : RowsOk (w3.alloc (.cells (rowE n fb).toArray 27)) w2.heap.size n l (L ++ [fb]) := (hR3.below ha3).snoc (Nat.le_trans hb.size hfb) hfa (by rw [hLk.out]; exact hD)
      have hR4 := hRa.grown (own3.alloc _) hgr
      have hb4 : Below w2.heap.size w2 w4 := (hb23.trans (ha3.mono hb23.size)).grown hgr (by have := hb23.size; have := ha3.size; omega) (fun g hg => (own3.lt g hg).1)
      have hpost : Hid (w4.ownsRow w2.heap.size 27 1 (.slice (some ⟨gg, 0, none⟩) (L.length + 1) cc) (L ++ [fb]).length ((L ++ [fb]).flatMap (rowE n)) ∧ RowsOk w4 w2.heap.size n l (L ++ [fb]) ∧ Below w2.heap.size w2 w4) := ⟨own4, hR4, hb4⟩
      clear own3 hR3 hb23 hbw3 ha3 hfa hRa hR4 hb4 own4 hgr hg hR hF hD hfb hf hb3 hb hbw
      simp only [rowE] at hrun
      go_wp2_with (at_builtin; refine wpList_append_run ?a1 (.tmp 23) (.tmp 27) 41 ?a2 ?a3 ?a4 hrun ?_)
      case a1 => rfl
      case a2 => rfl
      try (case a3 => rfl)
      try (case a4 => rfl)
      go_roundw
      case rel => exact ⟨k + 1, L ++ [fb], by omega, by rw [List.length_append, hLk.out]; rfl, by go_num, hpost.out.1, hpost.out.2⟩
      case measure => simp [intOf]; omega
    · obtain rfl : k = n := by omega
      rw [hL] at own
      obtain ⟨A', c', rfl, r1, r2, r3⟩ := Rd.of_own (rowE_len k) hL own
      have hLh := Lib.hid hL
      clear hL
      have hr1 := Lib.hid r1
      have hbw : Below w.heap.size w wr := hb12.trans (hb.mono hb12.size)
      clear r1 own
      go_wp2_with fail
      go_returns
      exact ⟨A', c', L, rfl, hr1.out, fun i f hx => ⟨Nat.le_trans hb12.size (hR i f hx).1, (hR i f hx).2⟩, hbw⟩
end
end Go.Proofs.Ytapfndjaimfcaaa
namespace Go.Proofs.Ytapfndjaimfcaaa
open Go.RowKit Go.Shelf Go.Lib Go.Sort B K
set_option linter.unusedVariables false
set_option linter.unusedSimpArgs false
set_option maxHeartbeats 1600000 in
set_option maxRecDepth 1000000 in
theorem rev_any (blk off cap : Nat) (d : Array Int) (w : World) (hH : Holds encI w blk off d) (hsz : d.size ≤ 9223372036854775807) :
    Calls Try.prog 50 #[.slice (some ⟨blk, off, none⟩) d.size cap] w fun e w' => e = .returned (.tuple #[]) ∧ ∃ n, w' = putRow encI (Sort.ahead w n) blk off d.reverse := by
  go_enter Try.func50, Try.ntmps50
  go_wp2
  go_loopg [2, 3] d.size (fun k s2 s3 wr => ∃ (i jn : Nat) (jz : Int) (dk : Array Int) (n : Nat), s2 = .int .i64 i ∧ s3 = .int .i64 jz ∧ ((i : Int) < jz → jz = jn ∧ jn < d.size) ∧ (¬ (i : Int) < jz → ¬ i < jn) ∧ jn - i ≤ k ∧
    dk.size = d.size ∧ wr = putRow encI (Sort.ahead w n) blk off dk ∧ reverseLoop i jn dk = reverseLoop 0 (d.size - 1) d)
  case atStart => exact ⟨0, d.size - 1, (d.size : Int) - 1, d, 0, rfl, rfl, fun h => ⟨by omega, by omega⟩, fun h => by omega, by omega, rfl, (putRow_self encI w blk off d hH).symm, rfl⟩
  case round =>
    obtain ⟨i, jn, jz, dk, n, rfl, rfl, h1, h2, hk, hds, hwr, heq⟩ := hrel
    by_cases hlt : (i : Int) < jz
    · obtain ⟨rfl, hjn⟩ := h1 hlt
      have hij : i < jn := by omega
      have hHk : Holds encI wr blk off dk := by rw [hwr]; exact holds_putRow encI _ blk off d dk (holds_ahead encI w n blk off d hH) hds
      obtain ⟨ci, fi⟩ := hHk i (by omega)
      obtain ⟨cj, fj⟩ := hHk jn (by omega)
      have A : Aside (wr = putRow encI (Sort.ahead w n) blk off dk) := hwr
      clear hwr hHk hH h1 h2
      go_wp2_with fail
      go_region
      go_wp2
      go_roundg (jn - 1 - (i + 1))
      case measure => omega
      case rel =>
        rw [reverseLoop, if_pos hij] at heq
        exact ⟨i + 1, jn - 1, (jn : Int) - 1, Go.Sort.swp dk i jn, n + 1, by simp, rfl, fun h => ⟨by omega, by omega⟩, fun h => by omega, Nat.le_refl _, by rw [size_swp]; exact hds,
          swap_world encI (by omega) (by omega) A.out (by first | rfl | simp [encI, getElem!_pos, show jn < dk.size by omega]) (by first | rfl | simp [encI, getElem!_pos, show i < dk.size by omega]), heq⟩
    · have hnot := h2 hlt
      go_wp2
      go_end0
      refine ⟨rfl, n, ?_⟩
      rw [reverseLoop, if_neg hnot] at heq
      rw [← Lib.reverseLoop_reverse, ← heq]
theorem rev_nil (cap : Nat) (w : World) : Calls Try.prog 50 #[.slice none 0 cap] w fun e w' => e = .returned (.tuple #[]) ∧ w = w' := by
  go_enter Try.func50, Try.ntmps50
  go_wp2
  go_loopg [2, 3] 0 (fun _ s2 s3 wr => s2 = .int .i64 0 ∧ s3 = .int .i64 (-1) ∧ wr = w)
  case atStart => exact ⟨rfl, rfl, rfl⟩
  case round =>
    obtain ⟨rfl, rfl, rfl⟩ := hrel
    go_wp2
    go_end0
    exact ⟨rfl, rfl⟩
theorem rev_own {w : World} {base : Nat} {A : Option Addr} {n c : Nat} {l : List Int} (own : w.ownsRow base 3 1 (.slice A n c) n (l.flatMap (numE .i64))) (hn : l.length = n) (hsz : n ≤ 1099511627776) :
    Calls Try.prog 50 #[.slice A n c] w fun e w' => e = .returned (.tuple #[]) ∧ Rd w' 1 (numE .i64) A n l.reverse ∧ Below base w w' := by
  have hflat : l.flatMap (numE .i64) = l.map (Value.int .i64) := by
    clear own hn
    induction l with
    | nil => rfl
    | cons x r ih => rw [List.flatMap_cons, ih]; rfl
  rcases own.2 with ⟨h1, h2⟩ | ⟨g, cap, cur, h1, hb, hh, hnc, hcm, hcs, htake⟩
  · simp only [Value.slice.injEq] at h1
    obtain ⟨rfl, rfl, rfl⟩ := h1
    refine (rev_nil 0 w).mono ?_
    rintro e w' ⟨rfl, rfl⟩
    have : l = [] := List.eq_nil_of_length_eq_zero hn
    subst this
    exact ⟨rfl, ⟨rfl, fun h => absurd h (by omega)⟩, Below.refl _ _⟩
  · simp only [Value.slice.injEq] at h1
    obtain ⟨rfl, _, rfl⟩ := h1
    have hH : Holds encI w g 0 l.toArray := fun j hj => by
      have hj' : j < l.length := by simpa using hj
      refine ⟨?_, by simp [World.frozen?, hh]⟩
      rw [cell_of_row _ _ _ _ _ _ hh]
      have h2 : (cur.toList.take (n * 1))[0 + j]? = some (encI l.toArray[j]!) := by
        have e2 : l.toArray[j]! = l[j] := by rw [getElem!_pos l.toArray j hj]; simp
        rw [htake, hflat, Nat.zero_add, List.getElem?_map, List.getElem?_eq_getElem hj', e2]
        rfl
      rw [List.getElem?_take] at h2
      split at h2
      · rw [← Array.getElem?_toList]; exact h2
      · cases h2
    have h := rev_any g 0 c l.toArray w hH (by simp; omega)
    rw [List.size_toArray, hn] at h
    refine h.mono ?_
    rintro e w' ⟨rfl, k, rfl⟩
    refine ⟨rfl, ⟨by rw [List.length_reverse, hn], fun _ => ⟨g, 0, rfl, by rw [size_putRow]; exact (Array.getElem?_eq_some_iff.1 hh).1, fun i x hx j u hu => ?_⟩⟩, ⟨rfl, rfl, rfl, by rw [size_putRow]; exact Nat.le_refl _, fun i hi => ?_⟩⟩
    · have hj : j = 0 := by
        have := (List.getElem?_eq_some_iff.1 hu).1
        simp [numE] at this; exact this
      subst hj
      simp [numE] at hu
      subst hu
      have hil := (List.getElem?_eq_some_iff.1 hx).1
      have := cell?_putRow encI (Sort.ahead w k) g 0 l.toArray l.toArray.reverse hH (by simp) i (by simpa using hil)
      rw [Nat.mul_one, Nat.add_zero]
      rw [this, getElem!_pos l.toArray.reverse i (by simpa using hil)]
      have e1 : l.reverse[i] = x := by rw [List.getElem?_eq_getElem hil] at hx; exact Option.some.inj hx
      simp [encI, ← e1]
    · show (Array.modify w.heap g _)[i]? = w.heap[i]?
      rw [Array.getElem?_modify, if_neg (by omega)]
end Go.Proofs.Ytapfndjaimfcaaa
