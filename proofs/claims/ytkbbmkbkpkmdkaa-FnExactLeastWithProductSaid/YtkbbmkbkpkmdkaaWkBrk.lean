/- slices.Sort over a row of bytes: patterns broken, weakly. Conditions: those that each theorem bears. -/
import Derived.Test.YtkbbmkbkpkmdkaaWkPiv
import Derived.Laws.Bits64b
namespace Go.Proofs.Ytkbbmkbkpkmdkaa.Ext
set_option linter.unusedVariables false
set_option linter.unusedSimpArgs false
open Go.RowKit Go.Sort Go.Lib Go.Proofs.YtkbbmkbkpkmdkaaW.PrintWords
set_option maxHeartbeats 1000000 in
set_option maxRecDepth 100000 in
theorem len64_wk (n : Nat) (h1 : 13 ≤ n) (h2 : n ≤ 17) (w : World) : Calls Try.prog 75 #[.int .u64 (n : Int)] w fun e w' => e = .returned (.int .i64 (if n ≤ 15 then 4 else 5)) ∧ w' = w := by
  rcases (show n = 13 ∨ n = 14 ∨ n = 15 ∨ n = 16 ∨ n = 17 by omega) with rfl | rfl | rfl | rfl | rfl
  all_goals
    go_enter Try.func75, Try.ntmps75
    go_wp2
    go_ret
    exact ⟨by kernel_rfl, rfl⟩
theorem len_wk (n : Nat) (h1 : 13 ≤ n) (h2 : n ≤ 17) (w : World) : Calls Try.prog 61 #[.int .u64 (n : Int)] w fun e w' => e = .returned (.int .i64 (if n ≤ 15 then 4 else 5)) ∧ w' = w := by
  go_enter Try.func61, Try.ntmps61
  go_wp2_with (go_at_call 75; refine (len64_wk n h1 h2 _).mono ?_; rintro e w' ⟨rfl, rfl⟩)
  all_goals
    go_ret
    exact ⟨rfl, rfl⟩
set_option maxHeartbeats 1000000 in
set_option maxRecDepth 100000 in
theorem pow2_wk (n : Nat) (h1 : 13 ≤ n) (h2 : n ≤ 17) (w : World) : Calls Try.prog 79 #[.int .i64 (n : Int)] w fun e w' => e = .returned (.int .u64 (if n ≤ 15 then 16 else 32)) ∧ w' = w := by
  have e1 : IntKind.u64.wrap (n : Int) = (n : Int) := by rw [IntKind.wrap_u64]; omega
  go_enter Try.func79, Try.ntmps79
  by_cases c : n ≤ 15
  · go_wp2_with (go_at_call 61; refine (len_wk n h1 h2 _).mono ?_; rintro e w' ⟨rfl, rfl⟩; rw [if_pos c])
    go_ret
    exact ⟨rfl, rfl⟩
  · go_wp2_with (go_at_call 61; refine (len_wk n h1 h2 _).mono ?_; rintro e w' ⟨rfl, rfl⟩; rw [if_neg c])
    go_ret
    exact ⟨rfl, rfl⟩
def RndAt (W : World) (c : Nat) (s : Int) : Prop := W.heap[c]? = some (.cells #[.int .u64 s] 91 (0, 0))
set_option maxHeartbeats 4000000 in
set_option maxRecDepth 100000 in
theorem next_wk (c : Nat) (s : Int) (w : World) (hC : RndAt w c s) :
    Calls Try.prog 80 #[.pointer (some ⟨c, 0, none⟩)] w fun e w' => ∃ s', e = .returned (.int .u64 s') ∧ RndAt w' c s' ∧ Below c w w' := by
  have hc : w.cell? ⟨c, 0, none⟩ = some (.int .u64 s) := by rw [blk_cell hC]; rfl
  have hf : w.frozen? ⟨c, 0, none⟩ = false := blk_frozen hC 0
  have HC := Lib.hid hC
  clear hC
  go_enter Try.func80, Try.ntmps80
  go_wp2
  go_region
  go_wp2
  generalize bits BinOp.xor IntKind.u64 s _ = s1
  have HC1 := Lib.hid (show RndAt (w.setCell ⟨c, 0, none⟩ (.int .u64 s1)).drew c s1 from blk_set HC.out 0 _)
  have HB1 := Lib.hid (show Below c w (w.setCell ⟨c, 0, none⟩ (.int .u64 s1)).drew from below_drew (Below.setCell (p := ⟨c, 0, none⟩) (Below.refl c w) (Nat.le_refl c) _))
  generalize (w.setCell ⟨c, 0, none⟩ (.int .u64 s1)).drew = w1 at HC1 HB1 ⊢
  clear hc hf HC
  have hc : w1.cell? ⟨c, 0, none⟩ = some (.int .u64 s1) := by rw [blk_cell HC1.out]; rfl
  have hf : w1.frozen? ⟨c, 0, none⟩ = false := blk_frozen HC1.out 0
  go_region
  go_wp2
  generalize bits BinOp.xor IntKind.u64 s1 _ = s2
  have HC2 := Lib.hid (show RndAt (w1.setCell ⟨c, 0, none⟩ (.int .u64 s2)).drew c s2 from blk_set HC1.out 0 _)
  have HB2 := Lib.hid (show Below c w (w1.setCell ⟨c, 0, none⟩ (.int .u64 s2)).drew from below_drew (Below.setCell (p := ⟨c, 0, none⟩) HB1.out (Nat.le_refl c) _))
  generalize (w1.setCell ⟨c, 0, none⟩ (.int .u64 s2)).drew = w2 at HC2 HB2 ⊢
  clear hc hf HC1 HB1
  have hc : w2.cell? ⟨c, 0, none⟩ = some (.int .u64 s2) := by rw [blk_cell HC2.out]; rfl
  have hf : w2.frozen? ⟨c, 0, none⟩ = false := blk_frozen HC2.out 0
  go_region
  go_wp2
  generalize bits BinOp.xor IntKind.u64 s2 _ = s3
  have HC3 := Lib.hid (show RndAt (w2.setCell ⟨c, 0, none⟩ (.int .u64 s3)).drew c s3 from blk_set HC2.out 0 _)
  have HB3 := Lib.hid (show Below c w (w2.setCell ⟨c, 0, none⟩ (.int .u64 s3)).drew from below_drew (Below.setCell (p := ⟨c, 0, none⟩) HB2.out (Nat.le_refl c) _))
  generalize (w2.setCell ⟨c, 0, none⟩ (.int .u64 s3)).drew = w3 at HC3 HB3 ⊢
  clear hc hf HC2 HB2
  have hc : w3.cell? ⟨c, 0, none⟩ = some (.int .u64 s3) := by rw [blk_cell HC3.out]; rfl
  go_wp2
  go_ret
  exact ⟨s3, rfl, HC3.out, HB3.out⟩
theorem wsmall (o : Nat) (h : o ≤ 1000) : wrap64 (o : Int) = (o : Int) := by unfold wrap64; omega
theorem wless (o l : Nat) (h : o ≤ 1000) (hl : l ≤ 1000) : (l : Int) ≤ (o : Int) → IntKind.i64.wrap ((o : Int) - (l : Int)) = ((o - l : Nat) : Int) := by intro h2; rw [IntKind.wrap_i64]; omega
theorem wplus (a o : Nat) (h : o ≤ 1000) (ha : a ≤ 1000000) : IntKind.i64.wrap ((a : Int) + (o : Int)) = ((a + o : Nat) : Int) := by rw [IntKind.wrap_i64]; omega
theorem and_mask (x : Int) (m : Nat) (hm : m < 1000) : ∃ q : Nat, bits .and .u64 x (m : Int) = (q : Int) ∧ q ≤ m := by
  have h2 : (BitVec.ofInt 64 (m : Int)).toNat = m := by
    rw [BitVec.ofInt_natCast, BitVec.toNat_ofNat]; exact Nat.mod_eq_of_lt (by omega)
  refine ⟨(BitVec.ofInt 64 x &&& BitVec.ofInt 64 (m : Int)).toNat, ?_, ?_⟩
  · show IntKind.u64.wrap ((BitVec.ofInt 64 x &&& BitVec.ofInt 64 (m : Int)).toNat : Int) = _
    have := (BitVec.ofInt 64 x &&& BitVec.ofInt 64 (m : Int)).isLt
    rw [IntKind.wrap_u64]; omega
  · rw [BitVec.toNat_and, h2]; exact Nat.and_le_right
/-- The row's bytes may have changed, and new blocks may be there. -/
def WkG (w0 W : World) (blk off n : Nat) : Prop := w0.grownBy W (some blk) ∧ ∃ d : Array Int, d.size = n ∧ Holds encU W blk off d
theorem WkR.grown {w0 W : World} {blk off n : Nat} (h : WkR w0 W blk off n) : w0.grownBy W (some blk) := by
  obtain ⟨m, d, hd, rfl⟩ := h
  refine ⟨rfl, rfl, rfl, by rw [size_putRow]; exact Nat.le_refl _, fun k hk hne => ?_⟩
  have hne : blk ≠ k := fun e => hne (by rw [e])
  unfold putRow mapBlock
  simp [Array.getElem?_modify, hne, Sort.ahead]
theorem grownBy_trans {w0 W W2 : World} {r : Option Nat} (h : w0.grownBy W r) (k : W.grownBy W2 r) : w0.grownBy W2 r :=
  ⟨k.os.trans h.os, k.tape.trans h.tape, k.output.trans h.output, Nat.le_trans h.size k.size, fun i hi hn => (k.block i (Nat.lt_of_lt_of_le hi h.size) hn).trans (h.block i hi hn)⟩
theorem WkG.refl {w : World} {blk off : Nat} {d : Array Int} (h : Holds encU w blk off d) : WkG w w blk off d.size := ⟨⟨rfl, rfl, rfl, Nat.le_refl _, fun _ _ _ => rfl⟩, d, rfl, h⟩
theorem WkG.wkr {w0 W W2 : World} {blk off n : Nat} (h : WkG w0 W blk off n) (k : WkR W W2 blk off n) : WkG w0 W2 blk off n := by
  obtain ⟨hg, d, hd, hH⟩ := h
  exact ⟨grownBy_trans hg k.grown, k.holds hH hd⟩
theorem WkG.below {w0 W W2 : World} {blk off n c : Nat} (h : WkG w0 W blk off n) (k : Below c W W2) (hc : w0.heap.size ≤ c) (hb : blk < c) : WkG w0 W2 blk off n := by
  obtain ⟨hg, d, hd, hH⟩ := h
  refine ⟨⟨k.os.trans hg.os, k.tape.trans hg.tape, k.output.trans hg.output, Nat.le_trans hg.size k.size, fun i hi hn => (k.block i (by omega)).trans (hg.block i hi hn)⟩, d, hd, fun j hj => ?_⟩
  have := hH j hj
  exact ⟨(k.cell (p := ⟨blk, off + j, none⟩) hb).trans this.1, (k.frozen (p := ⟨blk, off + j, none⟩) hb).trans this.2⟩
theorem WkG.drewN {w0 W : World} {blk off n : Nat} (h : WkG w0 W blk off n) (q : Nat) : WkG w0 (W.drewN q) blk off n := ⟨⟨h.1.os, h.1.tape, h.1.output, h.1.size, h.1.block⟩, h.2⟩
theorem RndAt.grown {W W2 : World} {blk c : Nat} {s : Int} (h : RndAt W c s) (hg : W.grownBy W2 (some blk)) (hb : blk < c) : RndAt W2 c s := (hg.block c (blk_lt h) (by simp; omega)).trans h
set_option maxHeartbeats 4000000 in
set_option maxRecDepth 100000 in
theorem break_wk (blk off cap a b : Nat) (d : Array Int) (w : World) (hH : Holds encU w blk off d) (hb : b ≤ d.size) (h1 : a + 13 ≤ b) (h2 : b ≤ a + 17) (hbc : blk < w.heap.size) (hsz : d.size < 1000000) :
    Calls Try.prog 67 #[.slice (some ⟨blk, off, none⟩) d.size cap, .int .i64 a, .int .i64 b] w fun e w' => e = .returned (.tuple #[]) ∧ WkG w w' blk off d.size := by
  obtain ⟨n, hn⟩ : ∃ n, n = d.size := ⟨_, rfl⟩
  rw [← hn] at hb hsz ⊢
  have HW0 := Lib.hid (show WkG w w blk off n from hn ▸ WkG.refl hH)
  clear hH hn d
  by_cases hl : b = a + 13
  · have e0 : IntKind.i64.wrap ((b : Int) - a) = 13 := by rw [IntKind.wrap_i64]; omega
    have HL := Lib.hid hl
    clear hl
    have j1 : a + 13 ≤ b := by have := HL.out; omega
    go_enter Try.func67, Try.ntmps67
    go_wp2_with (go_at_call 79; refine (pow2_wk 13 (by omega) (by omega) _).mono ?_; rintro e w1 ⟨rfl, rfl⟩)
    go_loopw [9] (fun v9 wr => ∃ (i : Nat) (s : Int), v9 = .int .i64 i ∧ a + 5 ≤ i ∧ i ≤ a + 8 ∧ RndAt wr w.heap.size s ∧ WkG w wr blk off n) (fun v9 _ => a + 8 - (intOf v9).toNat)
    case atStart => exact ⟨a + 5, 13, by congr 1; omega, by omega, by omega, blk_new w _, HW0.out.below (below_alloc (Below.refl _ w) _) (Nat.le_refl _) hbc⟩
    case round =>
      obtain ⟨i, s, rfl, hi1, hi2, hR, hW⟩ := hrel
      have HR := Lib.hid hR
      have HW := Lib.hid hW
      clear hR hW
      by_cases c : i ≤ a + 7
      · go_wp2_with (go_at_call 80; refine (next_wk _ s _ HR.out).mono ?_; rintro e w2 ⟨s2, rfl, hR2, hB2⟩; obtain ⟨o, ho, hom⟩ := and_mask s2 15 (by decide); have ho2 : bits BinOp.and IntKind.u64 s2 15 = (o : Int) := ho; have w1 := wsmall o (Nat.le_trans hom (by decide)); have w2 : 13 ≤ (o : Int) → IntKind.i64.wrap ((o : Int) - 13) = ((o - 13 : Nat) : Int) := wless o 13 (Nat.le_trans hom (by decide)) (by decide); have HR2 := Lib.hid hR2; have HW2 := Lib.hid (HW.out.below hB2 (Nat.le_refl _) hbc); have HO := Lib.hid hom; clear hR2 hB2 HR HW ho hom)
        · obtain ⟨d2, hd2, hH2⟩ := HW2.out.2
          obtain ⟨G, hc, hf⟩ := WkR.cells hH2 hd2 (hd2 ▸ WkR.refl hH2)
          obtain ⟨p, hp⟩ : ∃ p : Nat, p = o - 13 := ⟨_, rfl⟩
          rw [← hp]
          clear ho2 w1 w2 e0
          have hp3 : p < 13 := by have := HO.out; omega
          clear hp
          have hin : i < n := by omega
          have hpn : a + p < n := by omega
          obtain ⟨U, hU⟩ := swapcell hc i (a + p) hpn
          have HK := Lib.hid (WkR.swap hH2 hd2 (hd2 ▸ WkR.refl hH2) hc 1 hin hpn)
          clear hH2
          have r5 : i + 1 ≤ a + 8 := by omega
          have r6 : a + 5 ≤ i + 1 := by omega
          have ep := wplus a p (by omega) (by omega)
          go_region
          all_goals go_wp2
          clear ep hc hf hU
          go_roundw
          case rel => exact ⟨i + 1, s2, by first | rfl | (congr 1), r6, r5, RndAt.grown HR2.out HK.out.grown hbc, HW2.out.wkr HK.out⟩
          case measure => simp only [intOf]; omega
        · obtain ⟨d2, hd2, hH2⟩ := HW2.out.2
          obtain ⟨G, hc, hf⟩ := WkR.cells hH2 hd2 (hd2 ▸ WkR.refl hH2)
          obtain ⟨p, hp⟩ : ∃ p : Nat, p = o := ⟨_, rfl⟩
          rw [← hp]
          clear ho2 w1 w2 e0
          have hp3 : p < 13 := by have := HO.out; omega
          clear hp
          have hin : i < n := by omega
          have hpn : a + p < n := by omega
          obtain ⟨U, hU⟩ := swapcell hc i (a + p) hpn
          have HK := Lib.hid (WkR.swap hH2 hd2 (hd2 ▸ WkR.refl hH2) hc 1 hin hpn)
          clear hH2
          have r5 : i + 1 ≤ a + 8 := by omega
          have r6 : a + 5 ≤ i + 1 := by omega
          simp only [wsmall p (by omega)]
          have ep := wplus a p (by omega) (by omega)
          go_region
          all_goals go_wp2
          clear ep hc hf hU
          go_roundw
          case rel => exact ⟨i + 1, s2, by first | rfl | (congr 1), r6, r5, RndAt.grown HR2.out HK.out.grown hbc, HW2.out.wkr HK.out⟩
          case measure => simp only [intOf]; omega
      · go_wp2
        go_end0
        exact ⟨rfl, HW.out⟩
  by_cases hl : b = a + 14
  · have e0 : IntKind.i64.wrap ((b : Int) - a) = 14 := by rw [IntKind.wrap_i64]; omega
    have HL := Lib.hid hl
    clear hl
    have j1 : a + 14 ≤ b := by have := HL.out; omega
    go_enter Try.func67, Try.ntmps67
    go_wp2_with (go_at_call 79; refine (pow2_wk 14 (by omega) (by omega) _).mono ?_; rintro e w1 ⟨rfl, rfl⟩)
    go_loopw [9] (fun v9 wr => ∃ (i : Nat) (s : Int), v9 = .int .i64 i ∧ a + 5 ≤ i ∧ i ≤ a + 8 ∧ RndAt wr w.heap.size s ∧ WkG w wr blk off n) (fun v9 _ => a + 8 - (intOf v9).toNat)
    case atStart => exact ⟨a + 5, 14, by congr 1; omega, by omega, by omega, blk_new w _, HW0.out.below (below_alloc (Below.refl _ w) _) (Nat.le_refl _) hbc⟩
    case round =>
      obtain ⟨i, s, rfl, hi1, hi2, hR, hW⟩ := hrel
      have HR := Lib.hid hR
      have HW := Lib.hid hW
      clear hR hW
      by_cases c : i ≤ a + 7
      · go_wp2_with (go_at_call 80; refine (next_wk _ s _ HR.out).mono ?_; rintro e w2 ⟨s2, rfl, hR2, hB2⟩; obtain ⟨o, ho, hom⟩ := and_mask s2 15 (by decide); have ho2 : bits BinOp.and IntKind.u64 s2 15 = (o : Int) := ho; have w1 := wsmall o (Nat.le_trans hom (by decide)); have w2 : 14 ≤ (o : Int) → IntKind.i64.wrap ((o : Int) - 14) = ((o - 14 : Nat) : Int) := wless o 14 (Nat.le_trans hom (by decide)) (by decide); have HR2 := Lib.hid hR2; have HW2 := Lib.hid (HW.out.below hB2 (Nat.le_refl _) hbc); have HO := Lib.hid hom; clear hR2 hB2 HR HW ho hom)
        · obtain ⟨d2, hd2, hH2⟩ := HW2.out.2
          obtain ⟨G, hc, hf⟩ := WkR.cells hH2 hd2 (hd2 ▸ WkR.refl hH2)
          obtain ⟨p, hp⟩ : ∃ p : Nat, p = o - 14 := ⟨_, rfl⟩
          rw [← hp]
          clear ho2 w1 w2 e0
          have hp3 : p < 14 := by have := HO.out; omega
          clear hp
          have hin : i < n := by omega
          have hpn : a + p < n := by omega
          obtain ⟨U, hU⟩ := swapcell hc i (a + p) hpn
          have HK := Lib.hid (WkR.swap hH2 hd2 (hd2 ▸ WkR.refl hH2) hc 1 hin hpn)
          clear hH2
          have r5 : i + 1 ≤ a + 8 := by omega
          have r6 : a + 5 ≤ i + 1 := by omega
          have ep := wplus a p (by omega) (by omega)
          go_region
          all_goals go_wp2
          clear ep hc hf hU
          go_roundw
          case rel => exact ⟨i + 1, s2, by first | rfl | (congr 1), r6, r5, RndAt.grown HR2.out HK.out.grown hbc, HW2.out.wkr HK.out⟩
          case measure => simp only [intOf]; omega
        · obtain ⟨d2, hd2, hH2⟩ := HW2.out.2
          obtain ⟨G, hc, hf⟩ := WkR.cells hH2 hd2 (hd2 ▸ WkR.refl hH2)
          obtain ⟨p, hp⟩ : ∃ p : Nat, p = o := ⟨_, rfl⟩
          rw [← hp]
          clear ho2 w1 w2 e0
          have hp3 : p < 14 := by have := HO.out; omega
          clear hp
          have hin : i < n := by omega
          have hpn : a + p < n := by omega
          obtain ⟨U, hU⟩ := swapcell hc i (a + p) hpn
          have HK := Lib.hid (WkR.swap hH2 hd2 (hd2 ▸ WkR.refl hH2) hc 1 hin hpn)
          clear hH2
          have r5 : i + 1 ≤ a + 8 := by omega
          have r6 : a + 5 ≤ i + 1 := by omega
          simp only [wsmall p (by omega)]
          have ep := wplus a p (by omega) (by omega)
          go_region
          all_goals go_wp2
          clear ep hc hf hU
          go_roundw
          case rel => exact ⟨i + 1, s2, by first | rfl | (congr 1), r6, r5, RndAt.grown HR2.out HK.out.grown hbc, HW2.out.wkr HK.out⟩
          case measure => simp only [intOf]; omega
      · go_wp2
        go_end0
        exact ⟨rfl, HW.out⟩
  by_cases hl : b = a + 15
  · have e0 : IntKind.i64.wrap ((b : Int) - a) = 15 := by rw [IntKind.wrap_i64]; omega
    have HL := Lib.hid hl
    clear hl
    have j1 : a + 15 ≤ b := by have := HL.out; omega
    go_enter Try.func67, Try.ntmps67
    go_wp2_with (go_at_call 79; refine (pow2_wk 15 (by omega) (by omega) _).mono ?_; rintro e w1 ⟨rfl, rfl⟩)
    go_loopw [9] (fun v9 wr => ∃ (i : Nat) (s : Int), v9 = .int .i64 i ∧ a + 5 ≤ i ∧ i ≤ a + 8 ∧ RndAt wr w.heap.size s ∧ WkG w wr blk off n) (fun v9 _ => a + 8 - (intOf v9).toNat)
    case atStart => exact ⟨a + 5, 15, by congr 1; omega, by omega, by omega, blk_new w _, HW0.out.below (below_alloc (Below.refl _ w) _) (Nat.le_refl _) hbc⟩
    case round =>
      obtain ⟨i, s, rfl, hi1, hi2, hR, hW⟩ := hrel
      have HR := Lib.hid hR
      have HW := Lib.hid hW
      clear hR hW
      by_cases c : i ≤ a + 7
      · go_wp2_with (go_at_call 80; refine (next_wk _ s _ HR.out).mono ?_; rintro e w2 ⟨s2, rfl, hR2, hB2⟩; obtain ⟨o, ho, hom⟩ := and_mask s2 15 (by decide); have ho2 : bits BinOp.and IntKind.u64 s2 15 = (o : Int) := ho; have w1 := wsmall o (Nat.le_trans hom (by decide)); have w2 : 15 ≤ (o : Int) → IntKind.i64.wrap ((o : Int) - 15) = ((o - 15 : Nat) : Int) := wless o 15 (Nat.le_trans hom (by decide)) (by decide); have HR2 := Lib.hid hR2; have HW2 := Lib.hid (HW.out.below hB2 (Nat.le_refl _) hbc); have HO := Lib.hid hom; clear hR2 hB2 HR HW ho hom)
        · obtain ⟨d2, hd2, hH2⟩ := HW2.out.2
          obtain ⟨G, hc, hf⟩ := WkR.cells hH2 hd2 (hd2 ▸ WkR.refl hH2)
          obtain ⟨p, hp⟩ : ∃ p : Nat, p = o - 15 := ⟨_, rfl⟩
          rw [← hp]
          clear ho2 w1 w2 e0
          have hp3 : p < 15 := by have := HO.out; omega
          clear hp
          have hin : i < n := by omega
          have hpn : a + p < n := by omega
          obtain ⟨U, hU⟩ := swapcell hc i (a + p) hpn
          have HK := Lib.hid (WkR.swap hH2 hd2 (hd2 ▸ WkR.refl hH2) hc 1 hin hpn)
          clear hH2
          have r5 : i + 1 ≤ a + 8 := by omega
          have r6 : a + 5 ≤ i + 1 := by omega
          have ep := wplus a p (by omega) (by omega)
          go_region
          all_goals go_wp2
          clear ep hc hf hU
          go_roundw
          case rel => exact ⟨i + 1, s2, by first | rfl | (congr 1), r6, r5, RndAt.grown HR2.out HK.out.grown hbc, HW2.out.wkr HK.out⟩
          case measure => simp only [intOf]; omega
        · obtain ⟨d2, hd2, hH2⟩ := HW2.out.2
          obtain ⟨G, hc, hf⟩ := WkR.cells hH2 hd2 (hd2 ▸ WkR.refl hH2)
          obtain ⟨p, hp⟩ : ∃ p : Nat, p = o := ⟨_, rfl⟩
          rw [← hp]
          clear ho2 w1 w2 e0
          have hp3 : p < 15 := by have := HO.out; omega
          clear hp
          have hin : i < n := by omega
          have hpn : a + p < n := by omega
          obtain ⟨U, hU⟩ := swapcell hc i (a + p) hpn
          have HK := Lib.hid (WkR.swap hH2 hd2 (hd2 ▸ WkR.refl hH2) hc 1 hin hpn)
          clear hH2
          have r5 : i + 1 ≤ a + 8 := by omega
          have r6 : a + 5 ≤ i + 1 := by omega
          simp only [wsmall p (by omega)]
          have ep := wplus a p (by omega) (by omega)
          go_region
          all_goals go_wp2
          clear ep hc hf hU
          go_roundw
          case rel => exact ⟨i + 1, s2, by first | rfl | (congr 1), r6, r5, RndAt.grown HR2.out HK.out.grown hbc, HW2.out.wkr HK.out⟩
          case measure => simp only [intOf]; omega
      · go_wp2
        go_end0
        exact ⟨rfl, HW.out⟩
  by_cases hl : b = a + 16
  · have e0 : IntKind.i64.wrap ((b : Int) - a) = 16 := by rw [IntKind.wrap_i64]; omega
    have HL := Lib.hid hl
    clear hl
    have j1 : a + 16 ≤ b := by have := HL.out; omega
    go_enter Try.func67, Try.ntmps67
    go_wp2_with (go_at_call 79; refine (pow2_wk 16 (by omega) (by omega) _).mono ?_; rintro e w1 ⟨rfl, rfl⟩)
    go_loopw [9] (fun v9 wr => ∃ (i : Nat) (s : Int), v9 = .int .i64 i ∧ a + 7 ≤ i ∧ i ≤ a + 10 ∧ RndAt wr w.heap.size s ∧ WkG w wr blk off n) (fun v9 _ => a + 10 - (intOf v9).toNat)
    case atStart => exact ⟨a + 7, 16, by congr 1; omega, by omega, by omega, blk_new w _, HW0.out.below (below_alloc (Below.refl _ w) _) (Nat.le_refl _) hbc⟩
    case round =>
      obtain ⟨i, s, rfl, hi1, hi2, hR, hW⟩ := hrel
      have HR := Lib.hid hR
      have HW := Lib.hid hW
      clear hR hW
      by_cases c : i ≤ a + 9
      · go_wp2_with (go_at_call 80; refine (next_wk _ s _ HR.out).mono ?_; rintro e w2 ⟨s2, rfl, hR2, hB2⟩; obtain ⟨o, ho, hom⟩ := and_mask s2 31 (by decide); have ho2 : bits BinOp.and IntKind.u64 s2 31 = (o : Int) := ho; have w1 := wsmall o (Nat.le_trans hom (by decide)); have w2 : 16 ≤ (o : Int) → IntKind.i64.wrap ((o : Int) - 16) = ((o - 16 : Nat) : Int) := wless o 16 (Nat.le_trans hom (by decide)) (by decide); have HR2 := Lib.hid hR2; have HW2 := Lib.hid (HW.out.below hB2 (Nat.le_refl _) hbc); have HO := Lib.hid hom; clear hR2 hB2 HR HW ho hom)
        · obtain ⟨d2, hd2, hH2⟩ := HW2.out.2
          obtain ⟨G, hc, hf⟩ := WkR.cells hH2 hd2 (hd2 ▸ WkR.refl hH2)
          obtain ⟨p, hp⟩ : ∃ p : Nat, p = o - 16 := ⟨_, rfl⟩
          rw [← hp]
          clear ho2 w1 w2 e0
          have hp3 : p < 16 := by have := HO.out; omega
          clear hp
          have hin : i < n := by omega
          have hpn : a + p < n := by omega
          obtain ⟨U, hU⟩ := swapcell hc i (a + p) hpn
          have HK := Lib.hid (WkR.swap hH2 hd2 (hd2 ▸ WkR.refl hH2) hc 1 hin hpn)
          clear hH2
          have r5 : i + 1 ≤ a + 10 := by omega
          have r6 : a + 7 ≤ i + 1 := by omega
          have ep := wplus a p (by omega) (by omega)
          go_region
          all_goals go_wp2
          clear ep hc hf hU
          go_roundw
          case rel => exact ⟨i + 1, s2, by first | rfl | (congr 1), r6, r5, RndAt.grown HR2.out HK.out.grown hbc, HW2.out.wkr HK.out⟩
          case measure => simp only [intOf]; omega
        · obtain ⟨d2, hd2, hH2⟩ := HW2.out.2
          obtain ⟨G, hc, hf⟩ := WkR.cells hH2 hd2 (hd2 ▸ WkR.refl hH2)
          obtain ⟨p, hp⟩ : ∃ p : Nat, p = o := ⟨_, rfl⟩
          rw [← hp]
          clear ho2 w1 w2 e0
          have hp3 : p < 16 := by have := HO.out; omega
          clear hp
          have hin : i < n := by omega
          have hpn : a + p < n := by omega
          obtain ⟨U, hU⟩ := swapcell hc i (a + p) hpn
          have HK := Lib.hid (WkR.swap hH2 hd2 (hd2 ▸ WkR.refl hH2) hc 1 hin hpn)
          clear hH2
          have r5 : i + 1 ≤ a + 10 := by omega
          have r6 : a + 7 ≤ i + 1 := by omega
          simp only [wsmall p (by omega)]
          have ep := wplus a p (by omega) (by omega)
          go_region
          all_goals go_wp2
          clear ep hc hf hU
          go_roundw
          case rel => exact ⟨i + 1, s2, by first | rfl | (congr 1), r6, r5, RndAt.grown HR2.out HK.out.grown hbc, HW2.out.wkr HK.out⟩
          case measure => simp only [intOf]; omega
      · go_wp2
        go_end0
        exact ⟨rfl, HW.out⟩
  by_cases hl : b = a + 17
  · have e0 : IntKind.i64.wrap ((b : Int) - a) = 17 := by rw [IntKind.wrap_i64]; omega
    have HL := Lib.hid hl
    clear hl
    have j1 : a + 17 ≤ b := by have := HL.out; omega
    go_enter Try.func67, Try.ntmps67
    go_wp2_with (go_at_call 79; refine (pow2_wk 17 (by omega) (by omega) _).mono ?_; rintro e w1 ⟨rfl, rfl⟩)
    go_loopw [9] (fun v9 wr => ∃ (i : Nat) (s : Int), v9 = .int .i64 i ∧ a + 7 ≤ i ∧ i ≤ a + 10 ∧ RndAt wr w.heap.size s ∧ WkG w wr blk off n) (fun v9 _ => a + 10 - (intOf v9).toNat)
    case atStart => exact ⟨a + 7, 17, by congr 1; omega, by omega, by omega, blk_new w _, HW0.out.below (below_alloc (Below.refl _ w) _) (Nat.le_refl _) hbc⟩
    case round =>
      obtain ⟨i, s, rfl, hi1, hi2, hR, hW⟩ := hrel
      have HR := Lib.hid hR
      have HW := Lib.hid hW
      clear hR hW
      by_cases c : i ≤ a + 9
      · go_wp2_with (go_at_call 80; refine (next_wk _ s _ HR.out).mono ?_; rintro e w2 ⟨s2, rfl, hR2, hB2⟩; obtain ⟨o, ho, hom⟩ := and_mask s2 31 (by decide); have ho2 : bits BinOp.and IntKind.u64 s2 31 = (o : Int) := ho; have w1 := wsmall o (Nat.le_trans hom (by decide)); have w2 : 17 ≤ (o : Int) → IntKind.i64.wrap ((o : Int) - 17) = ((o - 17 : Nat) : Int) := wless o 17 (Nat.le_trans hom (by decide)) (by decide); have HR2 := Lib.hid hR2; have HW2 := Lib.hid (HW.out.below hB2 (Nat.le_refl _) hbc); have HO := Lib.hid hom; clear hR2 hB2 HR HW ho hom)
        · obtain ⟨d2, hd2, hH2⟩ := HW2.out.2
          obtain ⟨G, hc, hf⟩ := WkR.cells hH2 hd2 (hd2 ▸ WkR.refl hH2)
          obtain ⟨p, hp⟩ : ∃ p : Nat, p = o - 17 := ⟨_, rfl⟩
          rw [← hp]
          clear ho2 w1 w2 e0
          have hp3 : p < 17 := by have := HO.out; omega
          clear hp
          have hin : i < n := by omega
          have hpn : a + p < n := by omega
          obtain ⟨U, hU⟩ := swapcell hc i (a + p) hpn
          have HK := Lib.hid (WkR.swap hH2 hd2 (hd2 ▸ WkR.refl hH2) hc 1 hin hpn)
          clear hH2
          have r5 : i + 1 ≤ a + 10 := by omega
          have r6 : a + 7 ≤ i + 1 := by omega
          have ep := wplus a p (by omega) (by omega)
          go_region
          all_goals go_wp2
          clear ep hc hf hU
          go_roundw
          case rel => exact ⟨i + 1, s2, by first | rfl | (congr 1), r6, r5, RndAt.grown HR2.out HK.out.grown hbc, HW2.out.wkr HK.out⟩
          case measure => simp only [intOf]; omega
        · obtain ⟨d2, hd2, hH2⟩ := HW2.out.2
          obtain ⟨G, hc, hf⟩ := WkR.cells hH2 hd2 (hd2 ▸ WkR.refl hH2)
          obtain ⟨p, hp⟩ : ∃ p : Nat, p = o := ⟨_, rfl⟩
          rw [← hp]
          clear ho2 w1 w2 e0
          have hp3 : p < 17 := by have := HO.out; omega
          clear hp
          have hin : i < n := by omega
          have hpn : a + p < n := by omega
          obtain ⟨U, hU⟩ := swapcell hc i (a + p) hpn
          have HK := Lib.hid (WkR.swap hH2 hd2 (hd2 ▸ WkR.refl hH2) hc 1 hin hpn)
          clear hH2
          have r5 : i + 1 ≤ a + 10 := by omega
          have r6 : a + 7 ≤ i + 1 := by omega
          simp only [wsmall p (by omega)]
          have ep := wplus a p (by omega) (by omega)
          go_region
          all_goals go_wp2
          clear ep hc hf hU
          go_roundw
          case rel => exact ⟨i + 1, s2, by first | rfl | (congr 1), r6, r5, RndAt.grown HR2.out HK.out.grown hbc, HW2.out.wkr HK.out⟩
          case measure => simp only [intOf]; omega
      · go_wp2
        go_end0
        exact ⟨rfl, HW.out⟩
  · omega
end Go.Proofs.Ytkbbmkbkpkmdkaa.Ext
