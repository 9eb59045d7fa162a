/- slices.Sort over a row of bytes: what each of its functions leaves behind, whatever the order: the row's own cells changed and no other. Conditions: those that each theorem bears. -/
import Derived.Test.YtkbbmkbkpkmdkaaSortB
import Derived.HandedShaped
namespace Go.Proofs.Ytkbbmkbkpkmdkaa.Ext
set_option linter.unusedVariables false
set_option linter.unusedSimpArgs false
open Go.RowKit Go.Sort Go.Lib Go.Proofs.YtkbbmkbkpkmdkaaW.PrintWords
/-- The world differs by what is drawn, and by the bytes of one row. -/
def WkR (w0 W : World) (blk off n : Nat) : Prop := ∃ (m : Nat) (d : Array Int), d.size = n ∧ W = putRow encU (Sort.ahead w0 m) blk off d
theorem WkR.refl {w0 : World} {blk off : Nat} {d : Array Int} (h : Holds encU w0 blk off d) : WkR w0 w0 blk off d.size := ⟨0, d, rfl, (putRow_self _ _ _ _ _ h).symm⟩
theorem WkR.drewN {w0 W : World} {blk off n : Nat} (h : WkR w0 W blk off n) (q : Nat) : WkR w0 (W.drewN q) blk off n := by
  obtain ⟨m, d, hd, rfl⟩ := h
  exact ⟨m + q, d, hd, putRow_drewN _ _ _ _ _ _ _⟩
theorem WkR.holds {w0 W : World} {blk off n : Nat} {d0 : Array Int} (h0 : Holds encU w0 blk off d0) (hn : d0.size = n) (h : WkR w0 W blk off n) : ∃ d : Array Int, d.size = n ∧ Holds encU W blk off d := by
  obtain ⟨m, d, hd, rfl⟩ := h
  exact ⟨d, hd, holds_putRow encU (Sort.ahead w0 m) blk off d0 d (holds_ahead _ _ _ _ _ _ h0) (by omega)⟩
theorem WkR.cells {w0 W : World} {blk off n : Nat} {d0 : Array Int} (h0 : Holds encU w0 blk off d0) (hn : d0.size = n) (h : WkR w0 W blk off n) :
    ∃ G : Nat → Int, (∀ t, t < n → W.cell? ⟨blk, off + t, none⟩ = some (.int .u8 (G t))) ∧ (∀ t, t < n → W.frozen? ⟨blk, off + t, none⟩ = false) := by
  obtain ⟨d, hd, hH⟩ := h.holds h0 hn
  exact ⟨fun t => d[t]!, fun t ht => (hH t (by omega)).1, fun t ht => (hH t (by omega)).2⟩
theorem WkR.swap {w0 W : World} {blk off n : Nat} {d0 : Array Int} (h0 : Holds encU w0 blk off d0) (hn : d0.size = n) (h : WkR w0 W blk off n) {G : Nat → Int} (hG : ∀ t, t < n → W.cell? ⟨blk, off + t, none⟩ = some (.int .u8 (G t))) (q : Nat) {j k : Nat} (hj : j < n) (hk : k < n) :
    WkR w0 (((W.drewN q).setCell ⟨blk, off + j, none⟩ (.int .u8 (G k))).setCell ⟨blk, off + k, none⟩ (.int .u8 (G j))) blk off n := by
  obtain ⟨m, d, hd, rfl⟩ := h
  have hc : ∀ t, t < n → encU d[t]! = .int .u8 (G t) := fun t ht => by
    have h5 := cell?_putRow encU (Sort.ahead w0 m) blk off d0 d (holds_ahead _ _ _ _ _ _ h0) (by omega) t (by omega)
    rw [hG t ht] at h5
    exact (Option.some.inj h5).symm
  refine ⟨m + q, swp d j k, by rw [size_swp]; exact hd, ?_⟩
  rw [← hc j hj, ← hc k hk]
  exact swap_worldA encU w0 m q blk off d j k (by omega) (by omega)
theorem WkR.trans {w0 W W2 : World} {blk off n : Nat} (h : WkR w0 W blk off n) (k : WkR W W2 blk off n) : WkR w0 W2 blk off n := by
  obtain ⟨m, d, hd, rfl⟩ := h
  obtain ⟨m2, d2, hd2, rfl⟩ := k
  exact ⟨m + m2, d2, hd2, putRow_ahead_putRow encU w0 m m2 blk off d d2 (by omega)⟩
theorem swapcell {W : World} {blk off n : Nat} {G : Nat → Int} (hG : ∀ t, t < n → W.cell? ⟨blk, off + t, none⟩ = some (.int .u8 (G t))) (j k : Nat) (hk : k < n) :
    ∃ U : Int, (W.setCell ⟨blk, off + j, none⟩ (.int .u8 (G k))).cell? ⟨blk, off + k, none⟩ = some (.int .u8 U) := someInt_setCell ⟨_, hG k hk⟩ _ _
theorem swapcellq {W : World} {blk off n : Nat} {G : Nat → Int} (hG : ∀ t, t < n → W.cell? ⟨blk, off + t, none⟩ = some (.int .u8 (G t))) (j k : Nat) (hk : k < n) :
    ∃ U : Int, ∀ q, ((W.drewN q).setCell ⟨blk, off + j, none⟩ (.int .u8 (G k))).cell? ⟨blk, off + k, none⟩ = some (.int .u8 U) := by
  obtain ⟨U, h⟩ := swapcell hG j k hk
  exact ⟨U, fun q => h⟩
set_option maxHeartbeats 4000000 in
set_option maxRecDepth 100000 in
theorem part_wk (blk off cap a b p : Nat) (d : Array Int) (w : World) (hH : Holds encU w blk off d) (hab : a < b) (hb : b ≤ d.size) (hpa : a ≤ p) (hpb : p < b) (hsz : d.size < 1000000) :
    Calls Try.prog 73 #[.slice (some ⟨blk, off, none⟩) d.size cap, .int .i64 a, .int .i64 b, .int .i64 p] w fun e w' =>
      (∃ (mid : Nat) (al : Bool), e = .returned (.tuple #[.int .i64 mid, .bool al]) ∧ a ≤ mid ∧ mid < b) ∧ WkR w w' blk off d.size := by
  obtain ⟨n, hn⟩ : ∃ n, n = d.size := ⟨_, rfl⟩
  rw [← hn] at hb hsz ⊢
  obtain ⟨G0, hc0, hf0⟩ := WkR.cells hH hn.symm (hn ▸ WkR.refl hH)
  have hW0 : WkR w w blk off n := hn ▸ WkR.refl hH
  have HW0 := Lib.hid hW0
  have HH := Lib.hid hH
  have HN := Lib.hid hn
  have HC0 := Lib.hid hc0
  clear hW0 hH hn
  have han : a < n := by omega
  have hpn : p < n := by omega
  obtain ⟨U0, hU0⟩ := swapcell hc0 a p hpn
  have e1 : IntKind.i64.wrap ((b : Int) - 1) = ((b - 1 : Nat) : Int) := by rw [IntKind.wrap_i64]; omega
  have e2 : IntKind.i64.wrap ((a : Int) + 1) = ((a + 1 : Nat) : Int) := by rw [IntKind.wrap_i64]; omega
  obtain ⟨j0, hj0⟩ : ∃ j0, j0 = b - 1 := ⟨_, rfl⟩
  rw [← hj0] at e1
  have hja : j0 < b := by omega
  have hjb : b ≤ j0 + 1 := by omega
  clear hj0
  go_enter Try.func73, Try.ntmps73
  go_wp2
  go_region
  all_goals go_wp2
  clear hU0 hc0 hf0
  go_loopw [10] (fun v10 wr10 => ∃ i : Nat, v10 = .int .i64 i ∧ a + 1 ≤ i ∧ i ≤ b ∧ WkR w wr10 blk off n) (fun v10 _ => b - (intOf v10).toNat)
  case atStart => exact ⟨a + 1, by first | rfl | (congr 1), by omega, by omega, WkR.swap HH.out HN.out.symm HW0.out HC0.out 1 han hpn⟩
  case round =>
    obtain ⟨i1, rfl, hi6, hi7, hw2⟩ := hrel
    obtain ⟨G3, hc4, hf5⟩ := WkR.cells HH.out HN.out.symm hw2
    have HW9 := Lib.hid hw2
    clear hw2
    by_cases c8 : i1 ≤ j0
    · have r_ : ((i1 : Int) ≤ (j0 : Int)) = True := eq_true (by omega)
      have n_ : i1 < n := by omega
      go_wp2
      go_quiet (first | (go_at_call 71; refine Calls.quiet_of_same (less_byte _ _ _)))
      go_wp2
      · go_roundw
        case rel => exact ⟨i1 + 1, by first | rfl | (congr 1; omega), by omega, by omega, HW9.out.drewN _⟩
        case measure => simp only [intOf]; omega
      · clear r_ n_
        go_loopw [11] (fun v11 wr20 => ∃ j : Nat, v11 = .int .i64 j ∧ a ≤ j ∧ j < b ∧ WkR w wr20 blk off n) (fun v11 _ => (intOf v11).toNat)
        case atStart => exact ⟨j0, rfl, by omega, by omega, (HW9.out.drewN _)⟩
        case round =>
          obtain ⟨j11, rfl, hj16, hj17, hw12⟩ := hrel
          clear hc4 hf5
          obtain ⟨G13, hc14, hf15⟩ := WkR.cells HH.out HN.out.symm hw12
          have HW19 := Lib.hid hw12
          clear hw12
          have HC_ := Lib.hid hc14
          by_cases c18 : i1 ≤ j11
          · have r_ : ((i1 : Int) ≤ (j11 : Int)) = True := eq_true (by omega)
            have s_ : ((j11 : Int) < (i1 : Int)) = False := eq_false (by omega)
            have n_ : j11 < n := by omega
            have m_ : i1 < n := by omega
            have e_ : IntKind.i64.wrap ((j11 : Int) - 1) = ((j11 - 1 : Nat) : Int) := by rw [IntKind.wrap_i64]; omega
            go_wp2
            go_quiet (first | (go_at_call 71; refine Calls.quiet_of_same (less_byte _ _ _)))
            go_wp2
            · go_roundw
              case rel => exact ⟨j11 - 1, by first | rfl | (congr 1; omega), by omega, by omega, HW19.out.drewN _⟩
              case measure => simp only [intOf]; omega
            · obtain ⟨U_, hU_⟩ := swapcellq hc14 i1 j11 n_
              go_region
              all_goals go_wp2
              clear hU_ r_ s_
              go_loopw [10, 11] (fun v10 v11 wy => ∃ i j : Nat, v10 = .int .i64 i ∧ v11 = .int .i64 j ∧ a + 1 ≤ i ∧ i ≤ b ∧ a ≤ j ∧ j < b ∧ WkR w wy blk off n) (fun v10 _ _ => b - (intOf v10).toNat)
              case atStart => exact ⟨i1 + 1, j11 - 1, by first | rfl | (congr 1), rfl, by omega, by omega, by omega, by omega, (WkR.swap HH.out HN.out.symm HW19.out HC_.out _ m_ n_)⟩
              case round =>
                obtain ⟨i21, j22, rfl, rfl, hI1, hI2, hJ1, hJ2, hw23⟩ := hrel
                have HX := Lib.hid hw23
                clear hw23
                go_wp2
                go_loopw [10] (fun v10 wr33 => ∃ i : Nat, v10 = .int .i64 i ∧ i21 ≤ i ∧ i ≤ b ∧ WkR w wr33 blk off n) (fun v10 _ => b - (intOf v10).toNat)
                case atStart => exact ⟨i21, by first | rfl | (congr 1), by omega, by omega, HX.out⟩
                case round =>
                  obtain ⟨i24, rfl, hi29, hi30, hw25⟩ := hrel
                  obtain ⟨G26, hc27, hf28⟩ := WkR.cells HH.out HN.out.symm hw25
                  have HW32 := Lib.hid hw25
                  clear hw25
                  by_cases c31 : i24 ≤ j22
                  · have r_ : ((i24 : Int) ≤ (j22 : Int)) = True := eq_true (by omega)
                    have n_ : i24 < n := by omega
                    go_wp2
                    go_quiet (first | (go_at_call 71; refine Calls.quiet_of_same (less_byte _ _ _)))
                    go_wp2
                    · go_roundw
                      case rel => exact ⟨i24 + 1, by first | rfl | (congr 1; omega), by omega, by omega, HW32.out.drewN _⟩
                      case measure => simp only [intOf]; omega
                    · clear r_ n_
                      go_loopw [11] (fun v11 wr43 => ∃ j : Nat, v11 = .int .i64 j ∧ a ≤ j ∧ j < b ∧ WkR w wr43 blk off n) (fun v11 _ => (intOf v11).toNat)
                      case atStart => exact ⟨j22, rfl, by omega, by omega, (HW32.out.drewN _)⟩
                      case round =>
                        obtain ⟨j34, rfl, hj39, hj40, hw35⟩ := hrel
                        clear hc27 hf28
                        obtain ⟨G36, hc37, hf38⟩ := WkR.cells HH.out HN.out.symm hw35
                        have HW42 := Lib.hid hw35
                        clear hw35
                        have HC_ := Lib.hid hc37
                        by_cases c41 : i24 ≤ j34
                        · have r_ : ((i24 : Int) ≤ (j34 : Int)) = True := eq_true (by omega)
                          have s_ : ((j34 : Int) < (i24 : Int)) = False := eq_false (by omega)
                          have n_ : j34 < n := by omega
                          have m_ : i24 < n := by omega
                          have e_ : IntKind.i64.wrap ((j34 : Int) - 1) = ((j34 - 1 : Nat) : Int) := by rw [IntKind.wrap_i64]; omega
                          go_wp2
                          go_quiet (first | (go_at_call 71; refine Calls.quiet_of_same (less_byte _ _ _)))
                          go_wp2
                          · go_roundw
                            case rel => exact ⟨j34 - 1, by first | rfl | (congr 1; omega), by omega, by omega, HW42.out.drewN _⟩
                            case measure => simp only [intOf]; omega
                          · obtain ⟨U_, hU_⟩ := swapcellq hc37 i24 j34 n_
                            go_region
                            all_goals go_wp2
                            go_roundw
                            case rel => exact ⟨i24 + 1, j34 - 1, by first | rfl | (congr 1), rfl, by omega, by omega, by omega, by omega, (WkR.swap HH.out HN.out.symm HW42.out HC_.out _ m_ n_)⟩
                            case measure => simp only [intOf]; omega
                        · have r_ : ((i24 : Int) ≤ (j34 : Int)) = False := eq_false (by omega)
                          have s_ : ((j34 : Int) < (i24 : Int)) = True := eq_true (by omega)
                          have n_ : j34 < n := by omega
                          obtain ⟨U_, hU_⟩ := swapcellq hc37 j34 a han
                          go_wp2
                          go_quiet (first | (go_at_call 71; refine Calls.quiet_of_same (less_byte _ _ _)))
                          go_wp2
                          go_region
                          all_goals go_wp2
                          go_ret2
                          exact ⟨⟨j34, _, rfl, by omega, by omega⟩, (WkR.swap HH.out HN.out.symm HW42.out HC_.out _ n_ han)⟩
                  · have r_ : ((i24 : Int) ≤ (j22 : Int)) = False := eq_false (by omega)
                    go_wp2
                    go_quiet (first | (go_at_call 71; refine Calls.quiet_of_same (less_byte _ _ _)))
                    go_wp2
                    clear r_
                    go_loopw [11] (fun v11 wr53 => ∃ j : Nat, v11 = .int .i64 j ∧ a ≤ j ∧ j < b ∧ WkR w wr53 blk off n) (fun v11 _ => (intOf v11).toNat)
                    case atStart => exact ⟨j22, rfl, by omega, by omega, (HW32.out.drewN _)⟩
                    case round =>
                      obtain ⟨j44, rfl, hj49, hj50, hw45⟩ := hrel
                      clear hc27 hf28
                      obtain ⟨G46, hc47, hf48⟩ := WkR.cells HH.out HN.out.symm hw45
                      have HW52 := Lib.hid hw45
                      clear hw45
                      have HC_ := Lib.hid hc47
                      by_cases c51 : i24 ≤ j44
                      · have r_ : ((i24 : Int) ≤ (j44 : Int)) = True := eq_true (by omega)
                        have s_ : ((j44 : Int) < (i24 : Int)) = False := eq_false (by omega)
                        have n_ : j44 < n := by omega
                        have m_ : i24 < n := by omega
                        have e_ : IntKind.i64.wrap ((j44 : Int) - 1) = ((j44 - 1 : Nat) : Int) := by rw [IntKind.wrap_i64]; omega
                        go_wp2
                        go_quiet (first | (go_at_call 71; refine Calls.quiet_of_same (less_byte _ _ _)))
                        go_wp2
                        · go_roundw
                          case rel => exact ⟨j44 - 1, by first | rfl | (congr 1; omega), by omega, by omega, HW52.out.drewN _⟩
                          case measure => simp only [intOf]; omega
                        · obtain ⟨U_, hU_⟩ := swapcellq hc47 i24 j44 n_
                          go_region
                          all_goals go_wp2
                          go_roundw
                          case rel => exact ⟨i24 + 1, j44 - 1, by first | rfl | (congr 1), rfl, by omega, by omega, by omega, by omega, (WkR.swap HH.out HN.out.symm HW52.out HC_.out _ m_ n_)⟩
                          case measure => simp only [intOf]; omega
                      · have r_ : ((i24 : Int) ≤ (j44 : Int)) = False := eq_false (by omega)
                        have s_ : ((j44 : Int) < (i24 : Int)) = True := eq_true (by omega)
                        have n_ : j44 < n := by omega
                        obtain ⟨U_, hU_⟩ := swapcellq hc47 j44 a han
                        go_wp2
                        go_quiet (first | (go_at_call 71; refine Calls.quiet_of_same (less_byte _ _ _)))
                        go_wp2
                        go_region
                        all_goals go_wp2
                        go_ret2
                        exact ⟨⟨j44, _, rfl, by omega, by omega⟩, (WkR.swap HH.out HN.out.symm HW52.out HC_.out _ n_ han)⟩
          · have r_ : ((i1 : Int) ≤ (j11 : Int)) = False := eq_false (by omega)
            have s_ : ((j11 : Int) < (i1 : Int)) = True := eq_true (by omega)
            have n_ : j11 < n := by omega
            obtain ⟨U_, hU_⟩ := swapcellq hc14 j11 a han
            go_wp2
            go_quiet (first | (go_at_call 71; refine Calls.quiet_of_same (less_byte _ _ _)))
            go_wp2
            go_region
            all_goals go_wp2
            go_ret2
            exact ⟨⟨j11, _, rfl, by omega, by omega⟩, (WkR.swap HH.out HN.out.symm HW19.out HC_.out _ n_ han)⟩
    · have r_ : ((i1 : Int) ≤ (j0 : Int)) = False := eq_false (by omega)
      go_wp2
      go_quiet (first | (go_at_call 71; refine Calls.quiet_of_same (less_byte _ _ _)))
      go_wp2
      clear r_
      go_loopw [11] (fun v11 wr63 => ∃ j : Nat, v11 = .int .i64 j ∧ a ≤ j ∧ j < b ∧ WkR w wr63 blk off n) (fun v11 _ => (intOf v11).toNat)
      case atStart => exact ⟨j0, rfl, by omega, by omega, (HW9.out.drewN _)⟩
      case round =>
        obtain ⟨j54, rfl, hj59, hj60, hw55⟩ := hrel
        clear hc4 hf5
        obtain ⟨G56, hc57, hf58⟩ := WkR.cells HH.out HN.out.symm hw55
        have HW62 := Lib.hid hw55
        clear hw55
        have HC_ := Lib.hid hc57
        by_cases c61 : i1 ≤ j54
        · exact absurd c61 (by omega)
        · have r_ : ((i1 : Int) ≤ (j54 : Int)) = False := eq_false (by omega)
          have s_ : ((j54 : Int) < (i1 : Int)) = True := eq_true (by omega)
          have n_ : j54 < n := by omega
          obtain ⟨U_, hU_⟩ := swapcellq hc57 j54 a han
          go_wp2
          go_quiet (first | (go_at_call 71; refine Calls.quiet_of_same (less_byte _ _ _)))
          go_wp2
          go_region
          all_goals go_wp2
          go_ret2
          exact ⟨⟨j54, _, rfl, by omega, by omega⟩, (WkR.swap HH.out HN.out.symm HW62.out HC_.out _ n_ han)⟩
end Go.Proofs.Ytkbbmkbkpkmdkaa.Ext
