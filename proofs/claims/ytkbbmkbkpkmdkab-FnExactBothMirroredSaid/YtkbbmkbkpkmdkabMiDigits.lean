/- The contract of spec.miDigits: how many different bytes; at texts of at most 1000000 bytes, each below 128. -/
import Derived.Test.YtkbbmkbkpkmdkabProg
import Derived.WalkKit
import Derived.KernelRfl
import Derived.Below
import Derived.Laws.RangeString
import Derived.Test.YtkbbmkbkpkmdkabWWords
import Derived.Test.YtkbbmkbkpkmdkabWLast
import Derived.Test.YtkbbmkbkpkmdkabWMore
namespace Go.Proofs.Ytkbbmkbkpkmdkab.Ext
open Go.RowKit Go.Proofs.YtkbbmkbkpkmdkabW.PrintWords Go.Proofs.YtkbbmkbkpkmdkabW.PrintLast Go.Proofs.YtkbbmkbkpkmdkabW.PrintMore
attribute [local go_sem] max2_int min2_int max_two min_two max_three min_three max_four min_four
set_option linter.unusedVariables false
set_option linter.unusedSimpArgs false
theorem bt_get (s : ByteArray) (p : Nat) (hp : p < s.size) : bt s (p : Int) = ((s[p]'hp).toNat : Int) := by
  unfold bt
  simp [hp]
  try rfl
theorem ascii_at {s : ByteArray} (h : (s.data.toList.all fun c => decide (c.toNat < 128)) = true) (p : Nat) (hp : p < s.size) : (s[p]'hp).toNat < 128 := by
  have := List.all_eq_true.1 h (s[p]'hp) (by
    show s.data[p]'hp ∈ s.data.toList
    simp)
  simpa using this
mutual
def spec_miDigits.l0 : Nat → ByteArray → Int → Int → Int → Option (Int)
  | 0, _, _, _, _ => none
  | k + 1, x0, x3, x8, x9 => if x9 < x8 then (spec_miDigits.l1 k x0 x3 x9 true 0 x8 x9) else (some x3)
def spec_miDigits.l1 : Nat → ByteArray → Int → Int → Bool → Int → Int → Int → Option (Int)
  | 0, _, _, _, _, _, _, _ => none
  | k + 1, x0, x3, x4, x5, x6, x8, x9 => if x6 < x4 then (if x5 = true then (if 0 ≤ x6 then (if x6 < (x0.size : Int) then (if 0 ≤ x4 then (if x4 < (x0.size : Int) then (spec_miDigits.l1 k x0 x3 x4 ((bt x0 x6) != (bt x0 x4)) (wrap64 (x6 + 1)) x8 x9) else (none)) else (none)) else (none)) else (none)) else (spec_miDigits.l1 k x0 x3 x4 false (wrap64 (x6 + 1)) x8 x9)) else (if x5 = true then (spec_miDigits.l0 k x0 (wrap64 (x3 + 1)) x8 (wrap64 (x9 + 1))) else (spec_miDigits.l0 k x0 x3 x8 (wrap64 (x9 + 1))))
end
def spec_miDigits.f (k : Nat) (a0 : ByteArray) : Option (Int) := if (a0.data.toList.all fun c => decide (c.toNat < 128)) = true ∧ a0.size ≤ 1000000 then spec_miDigits.l0 k a0 0 (a0.size : Int) 0 else none
theorem spec_miDigits.mono_l : ∀ k, (∀ y0 y1 y2 y3, LeO (spec_miDigits.l0 k y0 y1 y2 y3) (spec_miDigits.l0 (k + 1) y0 y1 y2 y3)) ∧ (∀ y0 y1 y2 y3 y4 y5 y6, LeO (spec_miDigits.l1 k y0 y1 y2 y3 y4 y5 y6) (spec_miDigits.l1 (k + 1) y0 y1 y2 y3 y4 y5 y6))
  | 0 => ⟨fun _ _ _ _ r h => by simp [spec_miDigits.l0] at h, fun _ _ _ _ _ _ _ r h => by simp [spec_miDigits.l1] at h⟩
  | k + 1 => by
    obtain ⟨ih0, ih1⟩ := spec_miDigits.mono_l k
    refine ⟨?_, ?_⟩
    · intro y0 y1 y2 y3
      unfold spec_miDigits.l0
      repeat' first
      | (with_reducible exact ih0 _ _ _ _)
      | (with_reducible exact ih1 _ _ _ _ _ _ _)
      | (with_reducible exact LeO.refl _)
      | (with_reducible exact LeO.none _)
      | (with_reducible refine LeO.ite ?_ ?_)
      | (with_reducible refine LeO.bind ?_ (fun _ => ?_))
      | exact ih0 _ _ _ _
      | exact ih1 _ _ _ _ _ _ _
      | exact LeO.none _
      | refine LeO.ite ?_ ?_
      | refine LeO.bind ?_ (fun _ => ?_)
    · intro y0 y1 y2 y3 y4 y5 y6
      unfold spec_miDigits.l1
      repeat' first
      | (with_reducible exact ih0 _ _ _ _)
      | (with_reducible exact ih1 _ _ _ _ _ _ _)
      | (with_reducible exact LeO.refl _)
      | (with_reducible exact LeO.none _)
      | (with_reducible refine LeO.ite ?_ ?_)
      | (with_reducible refine LeO.bind ?_ (fun _ => ?_))
      | exact ih0 _ _ _ _
      | exact ih1 _ _ _ _ _ _ _
      | exact LeO.none _
      | refine LeO.ite ?_ ?_
      | refine LeO.bind ?_ (fun _ => ?_)
theorem spec_miDigits.mono : ∀ a0 k, LeO (spec_miDigits.f k a0) (spec_miDigits.f (k + 1) a0) := by
  intro a0 k
  obtain ⟨ih0, ih1⟩ := spec_miDigits.mono_l k
  unfold spec_miDigits.f
  repeat' first
      | (with_reducible exact ih0 _ _ _ _)
      | (with_reducible exact ih1 _ _ _ _ _ _ _)
      | (with_reducible exact LeO.refl _)
      | (with_reducible exact LeO.none _)
      | (with_reducible refine LeO.ite ?_ ?_)
      | (with_reducible refine LeO.bind ?_ (fun _ => ?_))
      | exact ih0 _ _ _ _
      | exact ih1 _ _ _ _ _ _ _
      | exact LeO.none _
      | refine LeO.ite ?_ ?_
      | refine LeO.bind ?_ (fun _ => ?_)
set_option maxHeartbeats 8000000 in
set_option maxRecDepth 100000 in
theorem spec_miDigits.calls (k : Nat) (a0 : ByteArray) (r : Int) (w : World) (h : spec_miDigits.f k a0 = some r) :
    Calls Try.prog 22 #[.string a0] w fun e w' => e = .returned (.int .i64 r) ∧ Below w.heap.size w w' := by
  unfold spec_miDigits.f at h
  by_cases hasc : (a0.data.toList.all fun c => decide (c.toNat < 128)) = true ∧ a0.size ≤ 1000000
  case neg => rw [if_neg hasc] at h; cases h
  rw [if_pos hasc] at h
  have HASC := Aside0.mk (ascii_at hasc.1)
  have HSZ := Aside0.mk hasc.2
  clear hasc
  have H : (spec_miDigits.l0 k a0 0 (a0.size : Int) 0) = some r := h
  clear h
  have hrange := run_range_string (P := Try.prog) w 9 a0 Try.underlying9
  have H' := Aside0.mk H
  clear H
  go_enter Try.func22, Try.ntmps22
  go_wp2
  clear hrange
  go_loopg [3] k (fun kq v3 w' => ∃ (x3_1 : Int) (p : Nat) (m : Nat), v3 = .int .i64 x3_1 ∧ Aside0 (spec_miDigits.l0 kq a0 x3_1 (a0.size : Int) (p : Int) = some r) ∧ Aside0 (kq ≤ k) ∧ w' = (w.drewN m).iter a0 p)
  case atStart => exact ⟨0, 0, 0, (by first | rfl | (simp; done) | (simp [*]; done)), H', ⟨Nat.le_refl _⟩, rfl⟩
  case round =>
    clear H'
    obtain ⟨x3_1, p, m1, rfl, HA, HK1, rfl⟩ := hrel
    cases gk with
    | zero => exact absurd HA.out (by simp [spec_miDigits.l0])
    | succ k1 =>
      have H := HA.out
      clear HA
      simp only [spec_miDigits.l0] at H
      by_cases c2 : (p : Int) < (a0.size : Int)
      · rw [if_pos c2] at H
        have c2b0 : decide ((p : Int) < (a0.size : Int)) = true := decide_eq_true c2
        have hpn : p < a0.size := by omega
        clear c2
        have H' := Aside0.mk H
        clear H
        have hnext := run_next_ascii (P := Try.prog) (w.drewN m1) a0 p 0 hpn (HASC.out p hpn)
        have hw1 : wrap64 ((p : Int) + 1) = ((p + 1 : Nat) : Int) := by
          have := HSZ.out
          unfold wrap64; omega
        rw [show (w.drewN m1).heap.size = w.heap.size from rfl] at hnext
        go_wp2
        clear hnext
        go_loopg [5, 6] k1 (fun kq v5 v6 w' => ∃ (x5_2 : Bool) (x6_2 : Int), v5 = .bool x5_2 ∧ v6 = .int .i64 x6_2 ∧ Aside0 (spec_miDigits.l1 kq a0 x3_1 (p : Int) x5_2 x6_2 (a0.size : Int) (p : Int) = some r) ∧ Aside0 (kq ≤ k1) ∧ Drawn0 ((w.drewN m1).iter a0 (p + 1)) w')
        case atStart => exact ⟨(true), (0), (by first | rfl | (simp; done) | (simp [*]; done)), (by first | rfl | (simp; done) | (simp [*]; done)), H', ⟨Nat.le_refl _⟩, by repeat (first | exact Drawn0.refl _ | apply Drawn0.step)⟩
        case round =>
          clear H'
          try clear c2
          try clear c2b0
          try clear p2
          obtain ⟨x5_2, x6_2, rfl, rfl, HA, HK2, ⟨m2, rfl⟩⟩ := hrel
          cases gk with
          | zero => exact absurd HA.out (by simp [spec_miDigits.l1])
          | succ k2 =>
            have H := HA.out
            clear HA
            simp only [spec_miDigits.l1] at H
            by_cases c3 : x6_2 < (p : Int)
            · rw [if_pos c3] at H
              have c3b0 : decide (x6_2 < (p : Int)) = true := decide_eq_true c3
              clear c3
              by_cases c4 : x5_2 = true
              · subst c4
                have H1 : (if 0 ≤ x6_2 then (if x6_2 < (a0.size : Int) then (if 0 ≤ (p : Int) then (if (p : Int) < (a0.size : Int) then (spec_miDigits.l1 k2 a0 x3_1 (p : Int) ((bt a0 x6_2) != (bt a0 (p : Int))) (wrap64 (x6_2 + 1)) (a0.size : Int) (p : Int)) else (none)) else (none)) else (none)) else (none)) = some r := by rw [if_pos rfl] at H; exact H
                clear H
                have H := H1
                clear H1
                by_cases c5 : 0 ≤ x6_2
                · rw [if_pos c5] at H
                  have c5b0 : decide (0 ≤ x6_2) = true := decide_eq_true c5
                  clear c5
                  by_cases c6 : x6_2 < (a0.size : Int)
                  · rw [if_pos c6] at H
                    have c6b0 : decide (x6_2 < (a0.size : Int)) = true := decide_eq_true c6
                    clear c6
                    by_cases c8 : 0 ≤ (p : Int)
                    · rw [if_pos c8] at H
                      have c8b0 : decide (0 ≤ (p : Int)) = true := decide_eq_true c8
                      clear c8
                      by_cases c9 : (p : Int) < (a0.size : Int)
                      · rw [if_pos c9] at H
                        have c9b0 : decide ((p : Int) < (a0.size : Int)) = true := decide_eq_true c9
                        clear c9
                        have H' := Aside0.mk H
                        clear H
                        have p7 : 0 ≤ (x6_2 : Int) := of_decide_eq_true (by first | (with_reducible assumption) | assumption)
                        have q7 : x6_2 < (a0.size : Int) := of_decide_eq_true (by first | (with_reducible assumption) | assumption)
                        have hx7 := bt_at a0 x6_2
                        replace p7 := eq_true p7
                        replace q7 := eq_true q7
                        have p10 : 0 ≤ ((p : Int) : Int) := of_decide_eq_true (by first | (with_reducible assumption) | assumption)
                        have q10 : (p : Int) < (a0.size : Int) := of_decide_eq_true (by first | (with_reducible assumption) | assumption)
                        have hx10 := bt_at a0 (p : Int)
                        replace p10 := eq_true p10
                        replace q10 := eq_true q10
                        go_wp2
                        repeat (go_quiet (fail); try go_wp2)
                        go_roundg k2
                        case measure => have := HK1.out; have := HK2.out; omega
                        case rel => exact ⟨(((bt a0 x6_2) != (bt a0 (p : Int)))), (wrap64 (x6_2 + 1)), (by first | rfl | (simp; done) | (simp [bt_get a0 p hpn]; done) | (simp only [bt_get a0 p hpn]; first | done | rfl | (simp; done) | (simp [*]; done)) | (simp [*]; done)), (by first | rfl | (simp; done) | (simp [*]; done)), H', ⟨by have := HK1.out; have := HK2.out; omega⟩, by repeat (first | exact Drawn0.refl _ | apply Drawn0.step)⟩
                      · rw [if_neg c9] at H
                        exact absurd H (by simp)
                    · rw [if_neg c8] at H
                      exact absurd H (by simp)
                  · rw [if_neg c6] at H
                    exact absurd H (by simp)
                · rw [if_neg c5] at H
                  exact absurd H (by simp)
              · replace c4 := Bool.eq_false_iff.mpr c4
                subst c4
                have H1 : (spec_miDigits.l1 k2 a0 x3_1 (p : Int) false (wrap64 (x6_2 + 1)) (a0.size : Int) (p : Int)) = some r := by rw [if_neg (show ¬ (false = true) by decide)] at H; exact H
                clear H
                have H := H1
                clear H1
                have H' := Aside0.mk H
                clear H
                go_wp2
                repeat (go_quiet (fail); try go_wp2)
                go_roundg k2
                case measure => have := HK1.out; have := HK2.out; omega
                case rel => exact ⟨(false), (wrap64 (x6_2 + 1)), (by first | rfl | (simp; done) | (simp [*]; done)), (by first | rfl | (simp; done) | (simp [*]; done)), H', ⟨by have := HK1.out; have := HK2.out; omega⟩, by repeat (first | exact Drawn0.refl _ | apply Drawn0.step)⟩
            · rw [if_neg c3] at H
              have c3b0 : decide (x6_2 < (p : Int)) = false := decide_eq_false c3
              clear c3
              by_cases c11 : x5_2 = true
              · subst c11
                have H1 : (spec_miDigits.l0 k2 a0 (wrap64 (x3_1 + 1)) (a0.size : Int) (wrap64 ((p : Int) + 1))) = some r := by rw [if_pos rfl] at H; exact H
                clear H
                have H := H1
                clear H1
                have H' := Aside0.mk H
                clear H
                go_wp2
                repeat (go_quiet (fail); try go_wp2)
                go_roundg k2
                case measure => have := HK1.out; have := HK2.out; omega
                case rel => exact ⟨(wrap64 (x3_1 + 1)), p + 1, m1 + m2, (by first | rfl | (simp; done) | (simp [*]; done)), ⟨hw1 ▸ H'.out⟩, ⟨by have := HK1.out; have := HK2.out; omega⟩, by simp [World.iter, World.drewN, World.alloc, Nat.add_assoc]⟩
              · replace c11 := Bool.eq_false_iff.mpr c11
                subst c11
                have H1 : (spec_miDigits.l0 k2 a0 x3_1 (a0.size : Int) (wrap64 ((p : Int) + 1))) = some r := by rw [if_neg (show ¬ (false = true) by decide)] at H; exact H
                clear H
                have H := H1
                clear H1
                have H' := Aside0.mk H
                clear H
                go_wp2
                repeat (go_quiet (fail); try go_wp2)
                go_roundg k2
                case measure => have := HK1.out; have := HK2.out; omega
                case rel => exact ⟨(x3_1), p + 1, m1 + m2, (by first | rfl | (simp; done) | (simp [*]; done)), ⟨hw1 ▸ H'.out⟩, ⟨by have := HK1.out; have := HK2.out; omega⟩, by simp [World.iter, World.drewN, World.alloc, Nat.add_assoc]⟩
      · rw [if_neg c2] at H
        have c2b0 : decide ((p : Int) < (a0.size : Int)) = false := decide_eq_false c2
        clear c2
        obtain rfl := Option.some.inj H
        have hnext := run_next_end (P := Try.prog) (w.drewN m1) a0 p 0 (by simpa using c2b0)
        rw [show (w.drewN m1).heap.size = w.heap.size from rfl] at hnext
        go_wp2
        go_ret
        exact ⟨by first | rfl | (simp; done) | (simp [*]; done), below_alloc (pw_below_drewN (Below.refl _ _) m1) _⟩
end Go.Proofs.Ytkbbmkbkpkmdkab.Ext
