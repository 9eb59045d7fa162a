/- The contract of slices.Grow at []int, called with nil and a number of 0 to 1000000: an empty slice in new memory. Condition: the told function answers nothing elsewhere. -/
import Derived.Test.YtkbbmkbkpkmdkacProg
import Derived.WalkKit
import Derived.KernelRfl
import Derived.Below
import Derived.Lib.Hide
import Derived.Test.YtkbbmkbkpkmdkacWWords
import Derived.Test.YtkbbmkbkpkmdkacWZeros
namespace Go.Proofs.Ytkbbmkbkpkmdkac.Ext
set_option linter.unusedVariables false
open Go.RowKit Go.Proofs.YtkbbmkbkpkmdkacW.PrintWords
theorem gInfo : (Try.prog.info? 3).map (fun i => (i.zero, i.size, i.bytes)) = some (some (.int .i64 0), 1, 8) := by kernel_rfl
def slices_Grow.f (l0 : List Int) (a1 : Int) : Option (List Int) := if l0 = [] then (if 0 ≤ a1 then (if a1 ≤ 1000000 then some [] else none) else none) else none
set_option maxHeartbeats 800000 in
set_option maxRecDepth 100000 in
theorem slices_Grow.calls (A0 : Option Addr) (c0 : Nat) (l0 : List Int) (a1 : Int) (r : List Int) (w : World) (hr0 : Kd.C (Kd.int .i64) w A0 l0.length l0) (hc0 : l0.length ≤ c0) (h : slices_Grow.f l0 a1 = some r) (hA : A0 = none := by rfl) (hC : c0 = 0 := by rfl) :
    Calls Try.prog 27 #[.slice A0 l0.length c0, .int .i64 a1] w fun e w' => ∃ v0_ : Value, e = .returned (v0_) ∧ Kd.R (Kd.int .i64) 3 w' w.heap.size (fun _ => True) v0_ r ∧ Below w.heap.size w w' := by
  subst hA
  subst hC
  unfold slices_Grow.f at h
  by_cases h1 : l0 = []
  · subst h1
    rw [if_pos rfl] at h
    by_cases h2 : 0 ≤ a1
    · rw [if_pos h2] at h
      by_cases h3 : a1 ≤ 1000000
      · rw [if_pos h3] at h
        obtain rfl := Option.some.inj h
        clear h hr0 hc0
        by_cases hz : a1 = 0
        · subst hz
          clear h2 h3
          have hz0 : decide ((0 : Int) > 0) = false := rfl
          go_enter Try.func27, Try.ntmps27
          go_wp2
          go_ret
          exact ⟨_, rfl, Kd.R_nil _ _ _ _ _, Below.refl _ _⟩
        replace h2 : 1 ≤ a1 := by omega
        clear hz
        obtain ⟨i0, hi0, _⟩ := Option.map_eq_some_iff.1 gInfo
        have hcut0 := cut_to (P := Try.prog) 22 3 .i64 Try.underlying22 hi0 none 0 0 0 (by omega) (by omega) (by omega)
        rw [show (0 : Int).toNat = 0 from rfl] at hcut0
        have HI := Lib.hid hi0
        clear hi0
        go_enter Try.func27, Try.ntmps27
        go_wp2_with (at_builtin; refine Kd.R_append_zeros (Kd.int .i64) (w0 := w) w.heap.size rfl (.tmp 20) (.tmp 21) 22 3 3 (.int .i64 0) 8 rfl Try.underlying22 Try.underlying3 gInfo rfl (by decide) (by omega) (.slice none 0 0) [] (0 : Int) a1 (fun _ => True) rfl rfl rfl (fun _ _ => trivial) (Kd.R_nil _ _ _ _ _) (by omega) (Below.refl _ _) (Nat.le_refl _) (by simp; omega) ?_; intro v1 w1 hR hb hg hat)
        obtain ⟨g, cap, rfl, hcap⟩ : ∃ g cap, v1 = .slice (some ⟨g, 0, none⟩) a1.toNat cap ∧ a1.toNat ≤ cap := by
          obtain ⟨_, inner, hown, _⟩ := hR
          rcases hown.2 with ⟨_, h0⟩ | ⟨g, cap, cur, hv, _, _, hl, _⟩
          · simp at h0; omega
          · simp at hv; exact ⟨g, cap, hv, by simpa using hl⟩
        have hT := Kd.R_take (m := 0) hR (by omega)
        rw [List.take_zero] at hT
        have hcut := cut_to (P := Try.prog) 22 3 .i64 Try.underlying22 HI.out (some ⟨g, 0, none⟩) a1.toNat cap 0 (by omega) (by omega) hcap
        rw [show (0 : Int).toNat = 0 from rfl] at hcut
        have HT := Lib.hid hT
        have HB := Lib.hid hb
        clear hT hb hat hg hR HI
        simp only [hcut, Result.andThen_ok]
        go_wp2
        go_ret
        exact ⟨_, rfl, HT.out, HB.out⟩
      · rw [if_neg h3] at h; cases h
    · rw [if_neg h2] at h; cases h
  · rw [if_neg h1] at h; cases h
end Go.Proofs.Ytkbbmkbkpkmdkac.Ext
