/- slices.Sort over a row of 13 to 17 bytes: it comes back, and turned nothing but the row's bytes. Conditions: those that each theorem bears. -/
import Derived.Test.YtkbbmkbkpkmdkaaWkBrk
import Derived.Test.YtkbbmkbkpkmdkaaWkRest
import Derived.Sort.LotA
namespace Go.Proofs.Ytkbbmkbkpkmdkaa.Ext
set_option linter.unusedVariables false
set_option linter.unusedSimpArgs false
set_option linter.unusedSectionVars false
open Go.RowKit Go.Sort Go.Lib Go.Proofs.YtkbbmkbkpkmdkaaW.PrintWords
theorem WkG.trans {w0 W W2 : World} {blk off n : Nat} (h : WkG w0 W blk off n) (k : WkG W W2 blk off n) : WkG w0 W2 blk off n := ⟨grownBy_trans h.1 k.1, k.2⟩
theorem WkG.cells {w0 W : World} {blk off n : Nat} (h : WkG w0 W blk off n) : ∃ G : Nat → Int, (∀ t, t < n → W.cell? ⟨blk, off + t, none⟩ = some (.int .u8 (G t))) ∧ (∀ t, t < n → W.frozen? ⟨blk, off + t, none⟩ = false) := by
  obtain ⟨hg, d, hd, hH⟩ := h
  exact WkR.cells hH hd (hd ▸ WkR.refl hH)
section
variable {w W : World} {blk off n : Nat} (S : WkG w W blk off n) (hB : blk < w.heap.size) (hsz : n < 1000000)
include S hB hsz
theorem break_g (cap a b : Nat) (hb : b ≤ n) (h1 : a + 13 ≤ b) (h2 : b ≤ a + 17) :
    Calls Try.prog 67 #[.slice (some ⟨blk, off, none⟩) n cap, .int .i64 a, .int .i64 b] W fun e w' => e = .returned (.tuple #[]) ∧ WkG w w' blk off n := by
  obtain ⟨hg, d, hd, hH⟩ := id S
  subst hd
  exact (break_wk blk off cap a b d W hH hb h1 h2 (Nat.lt_of_lt_of_le hB hg.size) hsz).mono (fun e w' h => ⟨h.1, S.trans h.2⟩)
theorem pivot_g (cap a b : Nat) (hb : b ≤ n) (h1 : a + 13 ≤ b) (h2 : b ≤ a + 17) :
    Calls Try.prog 68 #[.slice (some ⟨blk, off, none⟩) n cap, .int .i64 a, .int .i64 b] W fun e w' =>
      (∃ (z : Nat) (h : Int), e = .returned (.tuple #[.int .i64 z, .int .i64 h]) ∧ a ≤ z ∧ z < b ∧ (h = 0 ∨ h = 1)) ∧ WkG w w' blk off n := by
  obtain ⟨G, hc, hf⟩ := S.cells
  exact (pivot_wk blk off cap n a b G W hc h1 h2 hb (Nat.lt_of_lt_of_le hB S.1.size) hsz).mono (fun e w' h => ⟨h.1, S.below h.2 S.1.size (Nat.lt_of_lt_of_le hB S.1.size)⟩)
theorem partial_g (cap a b : Nat) (hb : b ≤ n) (h1 : a + 13 ≤ b) (h2 : b ≤ a + 17) :
    Calls Try.prog 70 #[.slice (some ⟨blk, off, none⟩) n cap, .int .i64 a, .int .i64 b] W fun e w' => (∃ q : Bool, e = .returned (.bool q)) ∧ WkG w w' blk off n := by
  obtain ⟨hg, d, hd, hH⟩ := id S
  subst hd
  exact (partial_wk blk off cap a b d W hH h1 h2 hb hsz).mono (fun e w' h => ⟨h.1, S.wkr h.2⟩)
theorem parteq_g (cap a b p : Nat) (hab : a < b) (hb : b ≤ n) (hpa : a ≤ p) (hpb : p < b) :
    Calls Try.prog 72 #[.slice (some ⟨blk, off, none⟩) n cap, .int .i64 a, .int .i64 b, .int .i64 p] W fun e w' => (∃ mid : Nat, e = .returned (.int .i64 mid) ∧ a < mid ∧ mid ≤ b) ∧ WkG w w' blk off n := by
  obtain ⟨hg, d, hd, hH⟩ := id S
  subst hd
  exact (parteq_wk blk off cap a b p d W hH hab hb hpa hpb hsz).mono (fun e w' h => ⟨h.1, S.wkr h.2⟩)
theorem part_g (cap a b p : Nat) (hab : a < b) (hb : b ≤ n) (hpa : a ≤ p) (hpb : p < b) :
    Calls Try.prog 73 #[.slice (some ⟨blk, off, none⟩) n cap, .int .i64 a, .int .i64 b, .int .i64 p] W fun e w' => (∃ (mid : Nat) (al : Bool), e = .returned (.tuple #[.int .i64 mid, .bool al]) ∧ a ≤ mid ∧ mid < b) ∧ WkG w w' blk off n := by
  obtain ⟨hg, d, hd, hH⟩ := id S
  subst hd
  exact (part_wk blk off cap a b p d W hH hab hb hpa hpb hsz).mono (fun e w' h => ⟨h.1, S.wkr h.2⟩)
theorem insert_g (cap a b : Nat) (hab : a ≤ b) (hb : b ≤ n) :
    Calls Try.prog 65 #[.slice (some ⟨blk, off, none⟩) n cap, .int .i64 a, .int .i64 b] W fun e w' => e = .returned (.tuple #[]) ∧ WkG w w' blk off n := by
  obtain ⟨hg, d, hd, hH⟩ := id S
  subst hd
  refine (insert_bytes blk off cap a b d W hH hab hb hsz).mono (fun e w' h => ⟨h.1, S.wkr ?_⟩)
  obtain ⟨m, hm⟩ := h.2
  exact ⟨m, _, (insertionSort_holds swo_ltInt d a b hab hb).1.1, hm⟩
set_option maxHeartbeats 1000000 in
set_option maxRecDepth 100000 in
theorem short_g (cap a b : Nat) (lim : Int) (hab : a ≤ b) (hb : b ≤ n) (h12 : b ≤ a + 12) :
    Calls Try.prog 60 #[.slice (some ⟨blk, off, none⟩) n cap, .int .i64 a, .int .i64 b, .int .i64 lim] W fun e w' => e = .returned (.tuple #[]) ∧ WkG w w' blk off n := by
  have e0 : IntKind.i64.wrap ((b : Int) - a) = ((b - a : Nat) : Int) := by rw [IntKind.wrap_i64]; omega
  have l12 : (((b - a : Nat) : Int) ≤ 12) = True := eq_true (by omega)
  have HS := Lib.hid S
  clear S
  go_enter Try.func60, Try.ntmps60
  go_wp2
  go_loopw [1, 2, 3] (fun v1 v2 v3 wr => v1 = .int .i64 a ∧ v2 = .int .i64 b ∧ v3 = .int .i64 lim ∧ wr = W) (fun _ _ _ _ => 0)
  case atStart => exact ⟨rfl, rfl, rfl, rfl⟩
  case round =>
    obtain ⟨rfl, rfl, rfl, rfl⟩ := hrel
    go_wp2_with (go_at_call 65; refine (insert_g HS.out hB hsz cap a b hab hb).mono ?_; rintro e w' ⟨rfl, hw⟩)
    exact bodyPost_ret (v := .tuple #[]) (by simp [results, Try.results60, go_sem]) rfl ⟨rfl, hw⟩
theorem short_r (cap m b : Nat) (lim : Int) (hab : m + 1 ≤ b) (hb : b ≤ n) (h12 : b ≤ m + 1 + 12) :
    Calls Try.prog 60 #[.slice (some ⟨blk, off, none⟩) n cap, .int .i64 ((m : Int) + 1), .int .i64 b, .int .i64 lim] W fun e w' => e = .returned (.tuple #[]) ∧ WkG w w' blk off n := short_g S hB hsz cap (m + 1) b lim hab hb h12
set_option maxHeartbeats 8000000 in
set_option maxRecDepth 100000 in
theorem pdq_g (cap a0 b0 : Nat) (l0 : Int) (hab : a0 ≤ b0) (hb : b0 ≤ n) (h17 : b0 ≤ a0 + 17) (hl0 : (b0 : Int) - a0 ≤ l0 + 12) (hl1 : 0 ≤ l0) (hl2 : l0 ≤ 100) :
    Calls Try.prog 60 #[.slice (some ⟨blk, off, none⟩) n cap, .int .i64 a0, .int .i64 b0, .int .i64 l0] W fun e w' => e = .returned (.tuple #[]) ∧ WkG w w' blk off n := by
  have HS0 := Lib.hid S
  clear S
  go_enter Try.func60, Try.ntmps60
  go_wp2
  go_loopw [1, 2, 3, 8, 9] (fun v1 v2 v3 v8 v9 wr => ∃ (a b : Nat) (lim : Int) (q8 q9 : Bool), v1 = .int .i64 a ∧ v2 = .int .i64 b ∧ v3 = .int .i64 lim ∧ v8 = .bool q8 ∧ v9 = .bool q9 ∧ a ≤ b ∧ b ≤ n ∧ b ≤ a + 17 ∧ (b : Int) - a ≤ lim + 12 ∧ 0 ≤ lim ∧ lim ≤ 100 ∧ WkG w wr blk off n) (fun v1 v2 _ _ _ _ => (intOf v2 - intOf v1).toNat)
  case atStart => exact ⟨a0, b0, l0, true, true, rfl, rfl, rfl, rfl, rfl, hab, hb, h17, hl0, hl1, hl2, HS0.out⟩
  case round =>
    clear hab hb h17 hl0 hl1 hl2 HS0
    obtain ⟨a, b, lim, q8, q9, rfl, rfl, rfl, rfl, rfl, hab, hb, h17, hl0, hl1, hl2, hS_⟩ := hrel
    have HS := Lib.hid hS_
    clear hS_
    have e0 : IntKind.i64.wrap ((b : Int) - a) = ((b - a : Nat) : Int) := by rw [IntKind.wrap_i64]; omega
    by_cases c12 : b ≤ a + 12
    · have l12 : (((b - a : Nat) : Int) ≤ 12) = True := eq_true (by omega)
      go_wp2_with (go_at_call 65; refine (insert_g HS.out hB hsz cap a b hab hb).mono ?_; rintro e w' ⟨rfl, hw⟩)
      exact bodyPost_ret (v := .tuple #[]) (by simp [results, Try.results60, go_sem]) rfl ⟨rfl, hw⟩
    · have l12 : (((b - a : Nat) : Int) ≤ 12) = False := eq_false (by omega)
      have n0 : (lim == 0) = false := by rw [beq_eq_false_iff_ne]; omega
      have g1 : a + 13 ≤ b := by omega
      have el : IntKind.i64.wrap (lim - 1) = lim - 1 := by rw [IntKind.wrap_i64]; omega
      cases q8 <;> cases q9
      all_goals
        go_wp2_with (first
          | (go_at_call 67; refine (break_g HS.out hB hsz cap a b hb g1 h17).mono ?_; rintro e w1 ⟨rfl, hS_⟩; clear HS; have HS := Lib.hid hS_; clear hS_)
          | (go_at_call 68; refine (pivot_g HS.out hB hsz cap a b hb g1 h17).mono ?_; rintro e w2 ⟨⟨z, h, rfl, hz1, hz2, hh⟩, hS_⟩; clear HS; have HS := Lib.hid hS_; clear hS_; have n2 : (h == 2) = false := (by rcases hh with rfl | rfl <;> rfl); clear hh)
          | (go_at_call 70; refine (partial_g HS.out hB hsz cap a b hb g1 h17).mono ?_; rintro e w3 ⟨⟨q, rfl⟩, hS_⟩; clear HS; have HS := Lib.hid hS_; clear hS_))
      all_goals first
        | exact bodyPost_ret (v := .tuple #[]) (by simp [results, Try.results60, go_sem]) rfl ⟨rfl, HS.out⟩
        | skip
      all_goals
        clear n2
        obtain ⟨G, hc, hf⟩ := HS.out.cells
        have zn : z < n := by omega
        by_cases ha : 0 < a
        · have ra : ((0 : Int) < (a : Int)) = True := eq_true (by omega)
          have ea : IntKind.i64.wrap ((a : Int) - 1) = ((a - 1 : Nat) : Int) := by rw [IntKind.wrap_i64]; omega
          have an : a - 1 < n := by omega
          go_quiet (first | (go_at_call 71; refine Calls.quiet_of_same (less_byte _ _ _)))
          have HD := Lib.hid (HS.out.drewN nq)
          clear HS
          have HS := HD
          clear HD
          go_wp2_with (first
            | (go_at_call 72; refine (parteq_g HS.out hB hsz cap a b z (by omega) hb hz1 hz2).mono ?_; rintro e w5 ⟨⟨m, rfl, hm1, hm2⟩, hS_⟩; clear HS; have HS := Lib.hid hS_; clear hS_)
            | (go_at_call 73; refine (part_g HS.out hB hsz cap a b z (by omega) hb hz1 hz2).mono ?_; rintro e w6 ⟨⟨m, al, rfl, hm1, hm2⟩, hS_⟩; clear HS; have HS := Lib.hid hS_; clear hS_; have e1 : IntKind.i64.wrap ((m : Int) - a) = ((m - a : Nat) : Int) := (by rw [IntKind.wrap_i64]; omega); have e2 : IntKind.i64.wrap ((b : Int) - m) = ((b - m : Nat) : Int) := (by rw [IntKind.wrap_i64]; omega))
            | (go_at_call 60; (with_reducible refine (short_g HS.out hB hsz cap a m _ ?s1 ?s2 ?s3).mono ?_); (case s1 => omega); (case s2 => omega); (case s3 => omega); rintro e w7 ⟨rfl, hS_⟩; clear HS; have HS := Lib.hid hS_; clear hS_)
            | (go_at_call 60; (with_reducible refine (short_r HS.out hB hsz cap m b _ ?s1 ?s2 ?s3).mono ?_); (case s1 => omega); (case s2 => omega); (case s3 => omega); rintro e w7 ⟨rfl, hS_⟩; clear HS; have HS := Lib.hid hS_; clear hS_))
          all_goals clear hc hf ra ea an zn
          all_goals clear e0 el
          all_goals first
            | (with_reducible refine ⟨⟨m, b, _, _, _, rfl, rfl, rfl, rfl, rfl, ?_, hb, ?_, ?_, ?_, ?_, HS.out⟩, ?_⟩)
            | ((with_reducible refine ⟨⟨m + 1, b, _, _, _, ?e1, rfl, rfl, rfl, rfl, ?_, hb, ?_, ?_, ?_, ?_, HS.out⟩, ?_⟩); (case e1 => first | rfl | (congr 1) | (congr 1; omega)))
            | (with_reducible refine ⟨⟨a, m, _, _, _, rfl, rfl, rfl, rfl, rfl, ?_, ?_, ?_, ?_, ?_, ?_, HS.out⟩, ?_⟩)
          all_goals first
            | omega
            | (simp only [intOf]; omega)
        · have ra : ((0 : Int) < (a : Int)) = False := eq_false (by omega)
          go_quiet (first | (go_at_call 71; refine Calls.quiet_of_same (less_byte _ _ _)))
          have HD := Lib.hid (HS.out.drewN nq)
          clear HS
          have HS := HD
          clear HD
          go_wp2_with (first
            | (go_at_call 72; refine (parteq_g HS.out hB hsz cap a b z (by omega) hb hz1 hz2).mono ?_; rintro e w5 ⟨⟨m, rfl, hm1, hm2⟩, hS_⟩; clear HS; have HS := Lib.hid hS_; clear hS_)
            | (go_at_call 73; refine (part_g HS.out hB hsz cap a b z (by omega) hb hz1 hz2).mono ?_; rintro e w6 ⟨⟨m, al, rfl, hm1, hm2⟩, hS_⟩; clear HS; have HS := Lib.hid hS_; clear hS_; have e1 : IntKind.i64.wrap ((m : Int) - a) = ((m - a : Nat) : Int) := (by rw [IntKind.wrap_i64]; omega); have e2 : IntKind.i64.wrap ((b : Int) - m) = ((b - m : Nat) : Int) := (by rw [IntKind.wrap_i64]; omega))
            | (go_at_call 60; (with_reducible refine (short_g HS.out hB hsz cap a m _ ?s1 ?s2 ?s3).mono ?_); (case s1 => omega); (case s2 => omega); (case s3 => omega); rintro e w7 ⟨rfl, hS_⟩; clear HS; have HS := Lib.hid hS_; clear hS_)
            | (go_at_call 60; (with_reducible refine (short_r HS.out hB hsz cap m b _ ?s1 ?s2 ?s3).mono ?_); (case s1 => omega); (case s2 => omega); (case s3 => omega); rintro e w7 ⟨rfl, hS_⟩; clear HS; have HS := Lib.hid hS_; clear hS_))
          all_goals clear hc hf ra zn
          all_goals clear e0 el
          all_goals first
            | (with_reducible refine ⟨⟨m, b, _, _, _, rfl, rfl, rfl, rfl, rfl, ?_, hb, ?_, ?_, ?_, ?_, HS.out⟩, ?_⟩)
            | ((with_reducible refine ⟨⟨m + 1, b, _, _, _, ?e1, rfl, rfl, rfl, rfl, ?_, hb, ?_, ?_, ?_, ?_, HS.out⟩, ?_⟩); (case e1 => first | rfl | (congr 1) | (congr 1; omega)))
            | (with_reducible refine ⟨⟨a, m, _, _, _, rfl, rfl, rfl, rfl, rfl, ?_, ?_, ?_, ?_, ?_, ?_, HS.out⟩, ?_⟩)
          all_goals first
            | omega
            | (simp only [intOf]; omega)
end
end Go.Proofs.Ytkbbmkbkpkmdkaa.Ext
