/- slices.Sort over a row of bytes: the choice of a pivot, weakly: a place within the bounds; nothing turned but a counter of its own. Conditions: those that each theorem bears. -/
import Derived.Test.YtkbbmkbkpkmdkaaWkPart
namespace Go.Proofs.Ytkbbmkbkpkmdkaa.Ext
set_option linter.unusedVariables false
set_option linter.unusedSimpArgs false
open Go.RowKit Go.Sort Go.Lib Go.Proofs.YtkbbmkbkpkmdkaaW.PrintWords
/-- The counter's cell. -/
def CntAt (W : World) (c : Nat) (s : Int) : Prop := W.heap[c]? = some (.cells #[.int .i64 s] 3 (0, 0))
def RowG (W : World) (blk off n : Nat) (G : Nat → Int) : Prop := ∀ t, t < n → W.cell? ⟨blk, off + t, none⟩ = some (.int .u8 (G t))
theorem RowG.below {W W2 : World} {blk off n c : Nat} {G : Nat → Int} (h : RowG W blk off n G) (hb : Below c W W2) (hc : blk < c) : RowG W2 blk off n G := fun t ht => (hb.cell (p := ⟨blk, off + t, none⟩) hc).trans (h t ht)
set_option maxHeartbeats 4000000 in
set_option maxRecDepth 100000 in
theorem order2_wk (blk off cap n i j c : Nat) (s : Int) (G : Nat → Int) (w : World) (hG : RowG w blk off n G) (hC : CntAt w c s) (hi : i < n) (hj : j < n) (hbc : blk < c) (hn : n < 1000000) (hs : 0 ≤ s ∧ s ≤ 100) :
    Calls Try.prog 84 #[.slice (some ⟨blk, off, none⟩) n cap, .int .i64 i, .int .i64 j, .pointer (some ⟨c, 0, none⟩)] w fun e w' =>
      (∃ x y : Nat, e = .returned (.tuple #[.int .i64 x, .int .i64 y]) ∧ (x = i ∨ x = j) ∧ (y = i ∨ y = j)) ∧ (∃ s', s ≤ s' ∧ s' ≤ s + 1 ∧ CntAt w' c s') ∧ Below c w w' := by
  have hc : w.cell? ⟨c, 0, none⟩ = some (.int .i64 s) := by rw [blk_cell hC]; rfl
  have hf : w.frozen? ⟨c, 0, none⟩ = false := blk_frozen hC 0
  have hG' : ∀ t, t < n → w.cell? ⟨blk, off + t, none⟩ = some (.int .u8 (G t)) := hG
  have e1 : IntKind.i64.wrap (s + 1) = s + 1 := by rw [IntKind.wrap_i64]; omega
  have HC := Lib.hid hC
  clear hC hG
  go_enter Try.func84, Try.ntmps84
  go_wp2
  go_quiet (first | (go_at_call 71; refine Calls.quiet_of_same (less_byte _ _ _)))
  go_wp2
  · go_ret2
    refine ⟨⟨j, i, rfl, .inr rfl, .inl rfl⟩, ⟨s + 1, by omega, by omega, ?_⟩, ?_⟩
    · exact blk_set (w := w.drewN nq) HC.out 0 _
    · exact Below.setCell (p := ⟨c, 0, none⟩) (pw_below_drewN (Below.refl c w) nq) (Nat.le_refl c) _
  · go_ret2
    exact ⟨⟨i, j, rfl, .inl rfl, .inr rfl⟩, ⟨s, by omega, by omega, HC.out⟩, pw_below_drewN (Below.refl c w) nq⟩
set_option maxHeartbeats 4000000 in
set_option maxRecDepth 100000 in
theorem median_wk (blk off cap n i j k c : Nat) (s : Int) (G : Nat → Int) (w : World) (hG : RowG w blk off n G) (hC : CntAt w c s) (hi : i < n) (hj : j < n) (hk : k < n) (hbc : blk < c) (hn : n < 1000000) (hs : 0 ≤ s ∧ s ≤ 90) :
    Calls Try.prog 82 #[.slice (some ⟨blk, off, none⟩) n cap, .int .i64 i, .int .i64 j, .int .i64 k, .pointer (some ⟨c, 0, none⟩)] w fun e w' =>
      (∃ z : Nat, e = .returned (.int .i64 z) ∧ (z = i ∨ z = j ∨ z = k)) ∧ (∃ s', s ≤ s' ∧ s' ≤ s + 3 ∧ CntAt w' c s') ∧ Below c w w' := by
  have HG := Lib.hid hG
  have HC := Lib.hid hC
  clear hG hC
  go_enter Try.func82, Try.ntmps82
  go_wp2_with (first
    | (go_at_call 84; refine (order2_wk blk off cap n i j c s G _ HG.out HC.out hi hj hbc hn (by omega)).mono ?_; rintro e w1 ⟨⟨x1, y1, rfl, hx1, hy1⟩, ⟨s1, hs1, hs1', hC1⟩, hB1⟩; have HG1 := Lib.hid (HG.out.below hB1 hbc); have HC1 := Lib.hid hC1; have HB1 := Lib.hid hB1; have HX1 := Lib.hid hx1; have HY1 := Lib.hid hy1; clear hx1 hy1 hC1 hB1 HG HC)
    | (go_at_call 84; refine (order2_wk blk off cap n y1 k c s1 G _ HG1.out HC1.out (by have := HY1.out; omega) hk hbc hn (by omega)).mono ?_; rintro e w2 ⟨⟨x2, y2, rfl, hx2, hy2⟩, ⟨s2, hs2, hs2', hC2⟩, hB2⟩; have HG2 := Lib.hid (HG1.out.below hB2 hbc); have HC2 := Lib.hid hC2; have HB2 := Lib.hid (HB1.out.trans hB2); have HX2 := Lib.hid hx2; clear hx2 hy2 hC2 hB2 HG1 HC1 HB1)
    | (go_at_call 84; refine (order2_wk blk off cap n x1 x2 c s2 G _ HG2.out HC2.out (by have := HX1.out; omega) (by have := HX2.out; have := HY1.out; omega) hbc hn (by omega)).mono ?_; rintro e w3 ⟨⟨x3, y3, rfl, hx3, hy3⟩, ⟨s3, hs3, hs3', hC3⟩, hB3⟩; have HC3 := Lib.hid hC3; have HB3 := Lib.hid (HB2.out.trans hB3); have HY3 := Lib.hid hy3; clear hx3 hy3 hC3 hB3 HG2 HC2 HB2))
  go_ret
  exact ⟨⟨y3, rfl, by have := HY3.out; have := HX1.out; have := HX2.out; have := HY1.out; omega⟩, ⟨s3, by omega, by omega, HC3.out⟩, HB3.out⟩
set_option maxHeartbeats 4000000 in
set_option maxRecDepth 100000 in
theorem pivot_wk (blk off cap n a b : Nat) (G : Nat → Int) (w : World) (hG : RowG w blk off n G) (h1 : a + 13 ≤ b) (h2 : b ≤ a + 17) (hb : b ≤ n) (hbc : blk < w.heap.size) (hn : n < 1000000) :
    Calls Try.prog 68 #[.slice (some ⟨blk, off, none⟩) n cap, .int .i64 a, .int .i64 b] w fun e w' =>
      (∃ (z : Nat) (h : Int), e = .returned (.tuple #[.int .i64 z, .int .i64 h]) ∧ a ≤ z ∧ z < b ∧ (h = 0 ∨ h = 1)) ∧ Below w.heap.size w w' := by
  obtain ⟨o, ho⟩ : ∃ o : Obj, o = .cells #[.int .i64 0] 3 (0, 0) := ⟨_, rfl⟩
  have hB0 : Below w.heap.size w (w.alloc (.cells #[.int .i64 0] 3 (0, 0))) := below_alloc (Below.refl _ w) _
  have HG := Lib.hid (hG.below hB0 hbc)
  have HC := Lib.hid (show CntAt (w.alloc (.cells #[.int .i64 0] 3 (0, 0))) w.heap.size 0 from blk_new w _)
  have HB := Lib.hid hB0
  clear hG hB0 ho
  have e1 : IntKind.i64.wrap ((a : Int) + 3) = ((a + 3 : Nat) : Int) := by rw [IntKind.wrap_i64]; omega
  have e2 : IntKind.i64.wrap ((a : Int) + 6) = ((a + 6 : Nat) : Int) := by rw [IntKind.wrap_i64]; omega
  have e3 : IntKind.i64.wrap ((a : Int) + 9) = ((a + 9 : Nat) : Int) := by rw [IntKind.wrap_i64]; omega
  have e4 : IntKind.i64.wrap ((a : Int) + 4) = ((a + 4 : Nat) : Int) := by rw [IntKind.wrap_i64]; omega
  have e5 : IntKind.i64.wrap ((a : Int) + 8) = ((a + 8 : Nat) : Int) := by rw [IntKind.wrap_i64]; omega
  have e6 : IntKind.i64.wrap ((a : Int) + 12) = ((a + 12 : Nat) : Int) := by rw [IntKind.wrap_i64]; omega
  have hq : ∀ (q : Nat), q = 3 ∨ q = 4 → True := fun _ _ => trivial
  clear hq
  by_cases hl : b = a + 13
  · have e0 : IntKind.i64.wrap ((b : Int) - a) = 13 := by rw [IntKind.wrap_i64]; omega
    have HL := Lib.hid hl
    clear hl
    go_enter Try.func68, Try.ntmps68
    go_wp2_with (go_at_call 82; refine Hid.out (?_ : Hid _))
    refine Lib.hid ?_
    refine (median_wk blk off cap n (a + 3) (a + 6) (a + 9) w.heap.size 0 G _ HG.out HC.out (by omega) (by omega) (by omega) hbc hn (by omega)).mono ?_
    rintro e w1 ⟨⟨z, rfl, hz⟩, ⟨s1, hs1, hs1', hC1⟩, hB1⟩
    have hc1 : w1.cell? ⟨w.heap.size, 0, none⟩ = some (.int .i64 s1) := by rw [blk_cell hC1]; rfl
    have HZ := Lib.hid (show a ≤ z ∧ z < b by have := HL.out; omega)
    have HB1 := Lib.hid (HB.out.trans hB1)
    have n12 : (s1 = 12) = False := eq_false (by omega)
    clear hz hC1 hB1 HG HC HB
    go_wp2
    all_goals
      go_ret2
      exact ⟨⟨z, _, rfl, HZ.out.1, HZ.out.2, by first | exact .inl rfl | exact .inr rfl⟩, HB1.out⟩
  by_cases hl : b = a + 14
  · have e0 : IntKind.i64.wrap ((b : Int) - a) = 14 := by rw [IntKind.wrap_i64]; omega
    have HL := Lib.hid hl
    clear hl
    go_enter Try.func68, Try.ntmps68
    go_wp2_with (go_at_call 82; refine Hid.out (?_ : Hid _))
    refine Lib.hid ?_
    refine (median_wk blk off cap n (a + 3) (a + 6) (a + 9) w.heap.size 0 G _ HG.out HC.out (by omega) (by omega) (by omega) hbc hn (by omega)).mono ?_
    rintro e w1 ⟨⟨z, rfl, hz⟩, ⟨s1, hs1, hs1', hC1⟩, hB1⟩
    have hc1 : w1.cell? ⟨w.heap.size, 0, none⟩ = some (.int .i64 s1) := by rw [blk_cell hC1]; rfl
    have HZ := Lib.hid (show a ≤ z ∧ z < b by have := HL.out; omega)
    have HB1 := Lib.hid (HB.out.trans hB1)
    have n12 : (s1 = 12) = False := eq_false (by omega)
    clear hz hC1 hB1 HG HC HB
    go_wp2
    all_goals
      go_ret2
      exact ⟨⟨z, _, rfl, HZ.out.1, HZ.out.2, by first | exact .inl rfl | exact .inr rfl⟩, HB1.out⟩
  by_cases hl : b = a + 15
  · have e0 : IntKind.i64.wrap ((b : Int) - a) = 15 := by rw [IntKind.wrap_i64]; omega
    have HL := Lib.hid hl
    clear hl
    go_enter Try.func68, Try.ntmps68
    go_wp2_with (go_at_call 82; refine Hid.out (?_ : Hid _))
    refine Lib.hid ?_
    refine (median_wk blk off cap n (a + 3) (a + 6) (a + 9) w.heap.size 0 G _ HG.out HC.out (by omega) (by omega) (by omega) hbc hn (by omega)).mono ?_
    rintro e w1 ⟨⟨z, rfl, hz⟩, ⟨s1, hs1, hs1', hC1⟩, hB1⟩
    have hc1 : w1.cell? ⟨w.heap.size, 0, none⟩ = some (.int .i64 s1) := by rw [blk_cell hC1]; rfl
    have HZ := Lib.hid (show a ≤ z ∧ z < b by have := HL.out; omega)
    have HB1 := Lib.hid (HB.out.trans hB1)
    have n12 : (s1 = 12) = False := eq_false (by omega)
    clear hz hC1 hB1 HG HC HB
    go_wp2
    all_goals
      go_ret2
      exact ⟨⟨z, _, rfl, HZ.out.1, HZ.out.2, by first | exact .inl rfl | exact .inr rfl⟩, HB1.out⟩
  by_cases hl : b = a + 16
  · have e0 : IntKind.i64.wrap ((b : Int) - a) = 16 := by rw [IntKind.wrap_i64]; omega
    have HL := Lib.hid hl
    clear hl
    go_enter Try.func68, Try.ntmps68
    go_wp2_with (go_at_call 82; refine Hid.out (?_ : Hid _))
    refine Lib.hid ?_
    refine (median_wk blk off cap n (a + 4) (a + 8) (a + 12) w.heap.size 0 G _ HG.out HC.out (by omega) (by omega) (by omega) hbc hn (by omega)).mono ?_
    rintro e w1 ⟨⟨z, rfl, hz⟩, ⟨s1, hs1, hs1', hC1⟩, hB1⟩
    have hc1 : w1.cell? ⟨w.heap.size, 0, none⟩ = some (.int .i64 s1) := by rw [blk_cell hC1]; rfl
    have HZ := Lib.hid (show a ≤ z ∧ z < b by have := HL.out; omega)
    have HB1 := Lib.hid (HB.out.trans hB1)
    have n12 : (s1 = 12) = False := eq_false (by omega)
    clear hz hC1 hB1 HG HC HB
    go_wp2
    all_goals
      go_ret2
      exact ⟨⟨z, _, rfl, HZ.out.1, HZ.out.2, by first | exact .inl rfl | exact .inr rfl⟩, HB1.out⟩
  by_cases hl : b = a + 17
  · have e0 : IntKind.i64.wrap ((b : Int) - a) = 17 := by rw [IntKind.wrap_i64]; omega
    have HL := Lib.hid hl
    clear hl
    go_enter Try.func68, Try.ntmps68
    go_wp2_with (go_at_call 82; refine Hid.out (?_ : Hid _))
    refine Lib.hid ?_
    refine (median_wk blk off cap n (a + 4) (a + 8) (a + 12) w.heap.size 0 G _ HG.out HC.out (by omega) (by omega) (by omega) hbc hn (by omega)).mono ?_
    rintro e w1 ⟨⟨z, rfl, hz⟩, ⟨s1, hs1, hs1', hC1⟩, hB1⟩
    have hc1 : w1.cell? ⟨w.heap.size, 0, none⟩ = some (.int .i64 s1) := by rw [blk_cell hC1]; rfl
    have HZ := Lib.hid (show a ≤ z ∧ z < b by have := HL.out; omega)
    have HB1 := Lib.hid (HB.out.trans hB1)
    have n12 : (s1 = 12) = False := eq_false (by omega)
    clear hz hC1 hB1 HG HC HB
    go_wp2
    all_goals
      go_ret2
      exact ⟨⟨z, _, rfl, HZ.out.1, HZ.out.2, by first | exact .inl rfl | exact .inr rfl⟩, HB1.out⟩
  · omega
end Go.Proofs.Ytkbbmkbkpkmdkaa.Ext
