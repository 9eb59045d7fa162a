/- slices.Sort over a row of bytes: what is equal to a pivot set apart; a row nearly in order: weakly. Conditions: those that each theorem bears. -/
import Derived.Test.YtkbbmkbkpkmdkaaWkPart
namespace Go.Proofs.Ytkbbmkbkpkmdkaa.Ext
set_option linter.unusedVariables false
set_option linter.unusedSimpArgs false
open Go.RowKit Go.Sort Go.Lib Go.Proofs.YtkbbmkbkpkmdkaaW.PrintWords
set_option maxHeartbeats 4000000 in
set_option maxRecDepth 100000 in
theorem parteq_wk (blk off cap a b p : Nat) (d : Array Int) (w : World) (hH : Holds encU w blk off d) (hab : a < b) (hb : b ≤ d.size) (hpa : a ≤ p) (hpb : p < b) (hsz : d.size < 1000000) :
    Calls Try.prog 72 #[.slice (some ⟨blk, off, none⟩) d.size cap, .int .i64 a, .int .i64 b, .int .i64 p] w fun e w' =>
      (∃ mid : Nat, e = .returned (.int .i64 mid) ∧ a < mid ∧ mid ≤ b) ∧ WkR w w' blk off d.size := by
  obtain ⟨n, hn⟩ : ∃ n, n = d.size := ⟨_, rfl⟩
  rw [← hn] at hb hsz ⊢
  obtain ⟨G0, hc0, hf0⟩ := WkR.cells hH hn.symm (hn ▸ WkR.refl hH)
  have hW0 : WkR w w blk off n := hn ▸ WkR.refl hH
  have HW0 := Lib.hid hW0
  have HH := Lib.hid hH
  have HN := Lib.hid hn
  have HC0 := Lib.hid hc0
  clear hW0 hH hn
  have han : a < n := by omega
  have hpn : p < n := by omega
  obtain ⟨U0, hU0⟩ := swapcell hc0 a p hpn
  obtain ⟨j0, hj0⟩ : ∃ j0, j0 = b - 1 := ⟨_, rfl⟩
  have e1 : IntKind.i64.wrap ((b : Int) - 1) = (j0 : Int) := by rw [IntKind.wrap_i64]; omega
  have e2 : IntKind.i64.wrap ((a : Int) + 1) = ((a + 1 : Nat) : Int) := by rw [IntKind.wrap_i64]; omega
  have hja : j0 < b := by omega
  have hjb : b ≤ j0 + 1 := by omega
  clear hj0
  go_enter Try.func72, Try.ntmps72
  go_wp2
  go_region
  all_goals go_wp2
  clear hU0 hc0 hf0
  go_loopw [9, 10] (fun v9 v10 wy => ∃ i j : Nat, v9 = .int .i64 i ∧ v10 = .int .i64 j ∧ a + 1 ≤ i ∧ i ≤ b ∧ a ≤ j ∧ j < b ∧ WkR w wy blk off n) (fun v9 _ _ => b - (intOf v9).toNat)
  case atStart => exact ⟨a + 1, j0, by first | rfl | (congr 1), rfl, by omega, by omega, by omega, by omega, WkR.swap HH.out HN.out.symm HW0.out HC0.out 1 han hpn⟩
  case round =>
    obtain ⟨i1, j2, rfl, rfl, hI1, hI2, hJ1, hJ2, hw3⟩ := hrel
    have HX := Lib.hid hw3
    clear hw3
    go_wp2
    go_loopw [9] (fun v9 wr13 => ∃ i : Nat, v9 = .int .i64 i ∧ i1 ≤ i ∧ i ≤ b ∧ WkR w wr13 blk off n) (fun v9 _ => b - (intOf v9).toNat)
    case atStart => exact ⟨i1, by first | rfl | (congr 1), by omega, by omega, HX.out⟩
    case round =>
      obtain ⟨i4, rfl, hi9, hi10, hw5⟩ := hrel
      obtain ⟨G6, hc7, hf8⟩ := WkR.cells HH.out HN.out.symm hw5
      have HW12 := Lib.hid hw5
      clear hw5
      by_cases c11 : i4 ≤ j2
      · have r_ : ((i4 : Int) ≤ (j2 : Int)) = True := eq_true (by omega)
        have n_ : i4 < n := by omega
        go_wp2
        go_quiet (first | (go_at_call 71; refine Calls.quiet_of_same (less_byte _ _ _)))
        go_wp2
        · go_roundw
          case rel => exact ⟨i4 + 1, by first | rfl | (congr 1; omega), by omega, by omega, HW12.out.drewN _⟩
          case measure => simp only [intOf]; omega
        · clear r_ n_
          go_loopw [10] (fun v10 wr23 => ∃ j : Nat, v10 = .int .i64 j ∧ a ≤ j ∧ j < b ∧ WkR w wr23 blk off n) (fun v10 _ => (intOf v10).toNat)
          case atStart => exact ⟨j2, rfl, by omega, by omega, (HW12.out.drewN _)⟩
          case round =>
            obtain ⟨j14, rfl, hj19, hj20, hw15⟩ := hrel
            clear hc7 hf8
            obtain ⟨G16, hc17, hf18⟩ := WkR.cells HH.out HN.out.symm hw15
            have HW22 := Lib.hid hw15
            clear hw15
            have HC_ := Lib.hid hc17
            by_cases c21 : i4 ≤ j14
            · have r_ : ((i4 : Int) ≤ (j14 : Int)) = True := eq_true (by omega)
              have s_ : ((j14 : Int) < (i4 : Int)) = False := eq_false (by omega)
              have n_ : j14 < n := by omega
              have m_ : i4 < n := by omega
              have e_ : IntKind.i64.wrap ((j14 : Int) - 1) = ((j14 - 1 : Nat) : Int) := by rw [IntKind.wrap_i64]; omega
              go_wp2
              go_quiet (first | (go_at_call 71; refine Calls.quiet_of_same (less_byte _ _ _)))
              go_wp2
              · go_roundw
                case rel => exact ⟨j14 - 1, by first | rfl | (congr 1; omega), by omega, by omega, HW22.out.drewN _⟩
                case measure => simp only [intOf]; omega
              · obtain ⟨U_, hU_⟩ := swapcellq hc17 i4 j14 n_
                go_region
                all_goals go_wp2
                go_roundw
                case rel => exact ⟨i4 + 1, j14 - 1, by first | rfl | (congr 1), rfl, by omega, by omega, by omega, by omega, (WkR.swap HH.out HN.out.symm HW22.out HC_.out _ m_ n_)⟩
                case measure => simp only [intOf]; omega
            · have r_ : ((i4 : Int) ≤ (j14 : Int)) = False := eq_false (by omega)
              have s_ : ((j14 : Int) < (i4 : Int)) = True := eq_true (by omega)
              have n_ : j14 < n := by omega
              go_wp2
              go_quiet (first | (go_at_call 71; refine Calls.quiet_of_same (less_byte _ _ _)))
              go_wp2
              go_ret
              exact ⟨⟨i4, rfl, by omega, by omega⟩, (HW22.out.drewN _)⟩
      · have r_ : ((i4 : Int) ≤ (j2 : Int)) = False := eq_false (by omega)
        go_wp2
        go_quiet (first | (go_at_call 71; refine Calls.quiet_of_same (less_byte _ _ _)))
        go_wp2
        clear r_
        go_loopw [10] (fun v10 wr33 => ∃ j : Nat, v10 = .int .i64 j ∧ a ≤ j ∧ j < b ∧ WkR w wr33 blk off n) (fun v10 _ => (intOf v10).toNat)
        case atStart => exact ⟨j2, rfl, by omega, by omega, (HW12.out.drewN _)⟩
        case round =>
          obtain ⟨j24, rfl, hj29, hj30, hw25⟩ := hrel
          clear hc7 hf8
          obtain ⟨G26, hc27, hf28⟩ := WkR.cells HH.out HN.out.symm hw25
          have HW32 := Lib.hid hw25
          clear hw25
          have HC_ := Lib.hid hc27
          by_cases c31 : i4 ≤ j24
          · have r_ : ((i4 : Int) ≤ (j24 : Int)) = True := eq_true (by omega)
            have s_ : ((j24 : Int) < (i4 : Int)) = False := eq_false (by omega)
            have n_ : j24 < n := by omega
            have m_ : i4 < n := by omega
            have e_ : IntKind.i64.wrap ((j24 : Int) - 1) = ((j24 - 1 : Nat) : Int) := by rw [IntKind.wrap_i64]; omega
            go_wp2
            go_quiet (first | (go_at_call 71; refine Calls.quiet_of_same (less_byte _ _ _)))
            go_wp2
            · go_roundw
              case rel => exact ⟨j24 - 1, by first | rfl | (congr 1; omega), by omega, by omega, HW32.out.drewN _⟩
              case measure => simp only [intOf]; omega
            · obtain ⟨U_, hU_⟩ := swapcellq hc27 i4 j24 n_
              go_region
              all_goals go_wp2
              go_roundw
              case rel => exact ⟨i4 + 1, j24 - 1, by first | rfl | (congr 1), rfl, by omega, by omega, by omega, by omega, (WkR.swap HH.out HN.out.symm HW32.out HC_.out _ m_ n_)⟩
              case measure => simp only [intOf]; omega
          · have r_ : ((i4 : Int) ≤ (j24 : Int)) = False := eq_false (by omega)
            have s_ : ((j24 : Int) < (i4 : Int)) = True := eq_true (by omega)
            have n_ : j24 < n := by omega
            go_wp2
            go_quiet (first | (go_at_call 71; refine Calls.quiet_of_same (less_byte _ _ _)))
            go_wp2
            go_ret
            exact ⟨⟨i4, rfl, by omega, by omega⟩, (HW32.out.drewN _)⟩
set_option maxHeartbeats 4000000 in
set_option maxRecDepth 100000 in
theorem partial_wk (blk off cap a b : Nat) (d : Array Int) (w : World) (hH : Holds encU w blk off d) (h1 : a + 13 ≤ b) (h2 : b ≤ a + 17) (hb : b ≤ d.size) (hsz : d.size < 1000000) :
    Calls Try.prog 70 #[.slice (some ⟨blk, off, none⟩) d.size cap, .int .i64 a, .int .i64 b] w fun e w' =>
      (∃ q : Bool, e = .returned (.bool q)) ∧ WkR w w' blk off d.size := by
  obtain ⟨n, hn⟩ : ∃ n, n = d.size := ⟨_, rfl⟩
  rw [← hn] at hb hsz ⊢
  have hW0 : WkR w w blk off n := hn ▸ WkR.refl hH
  have HW0 := Lib.hid hW0
  have HH := Lib.hid hH
  have HN := Lib.hid hn
  clear hW0 hH hn
  have e50 : IntKind.i64.wrap ((b : Int) - a) = ((b - a : Nat) : Int) := by rw [IntKind.wrap_i64]; omega
  have l50 : (((b - a : Nat) : Int) < 50) = True := eq_true (by omega)
  go_enter Try.func70, Try.ntmps70
  go_wp2
  go_loopw [7, 8] (fun v7 v8 wr => v7 = .int .i64 ((a : Int) + 1) ∧ v8 = .int .i64 0 ∧ WkR w wr blk off n) (fun _ _ _ => 0)
  case atStart => exact ⟨rfl, rfl, HW0.out⟩
  case round =>
    obtain ⟨rfl, rfl, hw0⟩ := hrel
    have HX := Lib.hid hw0
    clear hw0
    go_wp2
    go_loopw [7] (fun v7 wx => ∃ i : Nat, v7 = .int .i64 i ∧ a + 1 ≤ i ∧ i ≤ b ∧ WkR w wx blk off n) (fun v7 _ => b - (intOf v7).toNat)
    case atStart => exact ⟨a + 1, by first | rfl | (congr 1), by omega, by omega, HX.out⟩
    case round =>
      obtain ⟨i, rfl, hi1, hi2, hw1⟩ := hrel
      obtain ⟨G, hc, hf⟩ := WkR.cells HH.out HN.out.symm hw1
      have HW := Lib.hid hw1
      clear hw1
      by_cases c : i < b
      · have r_ : ((i : Int) < (b : Int)) = True := eq_true (by omega)
        have s_ : ((i : Int) = (b : Int)) = False := eq_false (by omega)
        have n_ : i < n := by omega
        have e_ : IntKind.i64.wrap ((i : Int) - 1) = ((i - 1 : Nat) : Int) := by rw [IntKind.wrap_i64]; omega
        have m_ : i - 1 < n := by omega
        go_wp2
        go_quiet (first | (go_at_call 71; refine Calls.quiet_of_same (less_byte _ _ _)))
        go_wp2
        · go_roundw
          case rel => exact ⟨i + 1, by first | rfl | (congr 1; omega), by omega, by omega, HW.out.drewN _⟩
          case measure => simp only [intOf]; omega
        · go_ret
          exact ⟨⟨_, rfl⟩, HW.out.drewN _⟩
      · have r_ : ((i : Int) < (b : Int)) = False := eq_false (by omega)
        have s_ : ((i : Int) = (b : Int)) = True := eq_true (by omega)
        go_wp2
        go_quiet (first | (go_at_call 71; refine Calls.quiet_of_same (less_byte _ _ _)))
        go_wp2
        go_ret
        exact ⟨⟨_, rfl⟩, HW.out.drewN _⟩
end Go.Proofs.Ytkbbmkbkpkmdkaa.Ext
