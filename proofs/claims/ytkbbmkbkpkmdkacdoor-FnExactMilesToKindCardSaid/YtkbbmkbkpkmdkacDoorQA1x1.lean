/- What the functions that the law reaches do, each told as a plain Lean function, and proved. No condition beyond each theorem's own. Told by a program of this session out of the translation's own print. -/
import Derived.Test.YtkbbmkbkpkmdkacDoorQA1x0
namespace Go.Proofs.YtkbbmkbkpkmdkacDoor.QA1
open Go.RowKit Go.Proofs.YtkbbmkbkpkmdkacDoorW.PrintWords Go.Proofs.YtkbbmkbkpkmdkacDoorW.PrintLast Go.Proofs.YtkbbmkbkpkmdkacDoorW.PrintMore Go.Proofs.YtkbbmkbkpkmdkacDoor.Ext
attribute [local go_sem] max2_int min2_int max_two min_two max_three min_three max_four min_four   -- for this text's walks alone
set_option linter.unusedVariables false
set_option linter.unusedSimpArgs false

/-! ### impl_upside: function 31 -/
def impl_upside.j0 : Nat → Int → Int → Bool → Option (Int)
  | 0, _, _, _ => none
  | k + 1, x0, x3, x4 => if x4 = true then (some x0) else (if x3 = 54 then (some 57) else (if x3 = 57 then (some 54) else (some 0)))
def impl_upside.f (k : Nat) (a0 : Int) : Option (Int) := if a0 = 48 then (impl_upside.j0 k a0 a0 (a0 == 48)) else (if a0 = 49 then (impl_upside.j0 k a0 a0 (a0 == 49)) else (impl_upside.j0 k a0 a0 (a0 == 56)))
theorem impl_upside.mono_l : ∀ k, (∀ y0 y1 y2, LeO (impl_upside.j0 k y0 y1 y2) (impl_upside.j0 (k + 1) y0 y1 y2))
  | 0 => fun _ _ _ r h => by simp [impl_upside.j0] at h
  | k + 1 => by
    have ih0 := impl_upside.mono_l k
    · intro y0 y1 y2
      unfold impl_upside.j0
      repeat' first
      | (with_reducible exact ih0 _ _ _)
      | (with_reducible exact LeO.refl _)
      | (with_reducible exact LeO.none _)
      | (with_reducible refine LeO.ite ?_ ?_)
      | (with_reducible refine LeO.bind ?_ (fun _ => ?_))
      | exact ih0 _ _ _
      | exact LeO.none _
      | refine LeO.ite ?_ ?_
      | refine LeO.bind ?_ (fun _ => ?_)
theorem impl_upside.mono : ∀ a0 k, LeO (impl_upside.f k a0) (impl_upside.f (k + 1) a0) := by
  intro a0 k
  have ih0 := impl_upside.mono_l k
  unfold impl_upside.f
  repeat' first
      | (with_reducible exact ih0 _ _ _)
      | (with_reducible exact LeO.refl _)
      | (with_reducible exact LeO.none _)
      | (with_reducible refine LeO.ite ?_ ?_)
      | (with_reducible refine LeO.bind ?_ (fun _ => ?_))
      | exact ih0 _ _ _
      | exact LeO.none _
      | refine LeO.ite ?_ ?_
      | refine LeO.bind ?_ (fun _ => ?_)
set_option maxHeartbeats 8000000 in
set_option maxRecDepth 100000 in
theorem impl_upside.calls (k : Nat) (a0 : Int) (r : Int) (w : World) (h : impl_upside.f k a0 = some r) :
    Calls Tryd.prog 31 #[.int .u8 a0] w fun e w' => e = .returned (.int .u8 r) ∧ Drawn0 w w' := by
  have H : (if a0 = 48 then (impl_upside.j0 k a0 a0 (a0 == 48)) else (if a0 = 49 then (impl_upside.j0 k a0 a0 (a0 == 49)) else (impl_upside.j0 k a0 a0 (a0 == 56)))) = some r := h
  clear h
  have HC2 := Aside0.mk H
  clear H
  go_enter Tryd.func31, Tryd.ntmps31
  go_upto_if 4 with (fail)
  go_cut [4] (fun v4 wc => ∃ (kq : Nat) (x4_1 : Bool), v4 = .bool x4_1 ∧ Aside0 (impl_upside.j0 kq a0 a0 x4_1 = some r) ∧ Aside0 (kq ≤ k) ∧ Drawn0 w wc)
  case first =>
    have H := HC2.out
    clear HC2
    by_cases c3 : a0 = 48
    · rw [if_pos c3] at H
      have c3b0 : (a0 == 48) = true := beq_iff_eq.mpr c3
      have c3b1 : (a0 != 48) = false := bne_eq_false_iff_eq.mpr c3
      clear c3
      (first | rw [c3b0] | (simp only [i64_w, i32_w]; rw [c3b0]) | skip)
      have H' := Aside0.mk H
      clear H
      go_wp2
      go_meet
      case rel => exact ⟨_, ((a0 == 48)), (by first | rfl | (simp; done) | (simp [*]; done)), H', ⟨by first | omega | exact Nat.le_refl _⟩, by repeat (first | exact Drawn0.refl _ | apply Drawn0.step)⟩
    · rw [if_neg c3] at H
      have c3b0 : (a0 == 48) = false := beq_eq_false_iff_ne.mpr c3
      have c3b1 : (a0 != 48) = true := bne_iff_ne.mpr c3
      (first | rw [c3b0] | (simp only [i64_w, i32_w]; rw [c3b0]) | skip)
      by_cases c4 : a0 = 49
      · rw [if_pos c4] at H
        have c4b0 : (a0 == 49) = true := beq_iff_eq.mpr c4
        have c4b1 : (a0 != 49) = false := bne_eq_false_iff_eq.mpr c4
        clear c4
        have H' := Aside0.mk H
        clear H
        go_wp2
        go_meet
        case rel => exact ⟨_, ((a0 == 49)), (by first | rfl | (simp; done) | (simp [*]; done)), H', ⟨by first | omega | exact Nat.le_refl _⟩, by repeat (first | exact Drawn0.refl _ | apply Drawn0.step)⟩
      · rw [if_neg c4] at H
        have c4b0 : (a0 == 49) = false := beq_eq_false_iff_ne.mpr c4
        have c4b1 : (a0 != 49) = true := bne_iff_ne.mpr c4
        have H' := Aside0.mk H
        clear H
        go_wp2
        go_meet
        case rel => exact ⟨_, ((a0 == 56)), (by first | rfl | (simp; done) | (simp [*]; done)), H', ⟨by first | omega | exact Nat.le_refl _⟩, by repeat (first | exact Drawn0.refl _ | apply Drawn0.step)⟩
  case rest =>
    clear HC2
    try clear p2
    try clear c3
    try clear c3b0
    try clear c3b1
    try clear c4
    try clear c4b0
    try clear c4b1
    obtain ⟨kq, x4_1, rfl, HA, HJ1, ⟨mc1, rfl⟩⟩ := hcut
    cases kq with
    | zero => exact absurd HA.out (by simp [impl_upside.j0])
    | succ kj1 =>
      have H := HA.out
      clear HA
      simp only [impl_upside.j0] at H
      by_cases c5 : x4_1 = true
      · subst c5
        have H1 : (some a0) = some r := by rw [if_pos rfl] at H; exact H
        clear H
        have H := H1
        clear H1
        obtain rfl := Option.some.inj H
        go_wp2
        go_ret
        exact ⟨by first | rfl | (simp; done) | (simp [*]; done), by repeat (first | exact Drawn0.refl _ | apply Drawn0.step)⟩
      · replace c5 := Bool.eq_false_iff.mpr c5
        subst c5
        have H1 : (if a0 = 54 then (some 57) else (if a0 = 57 then (some 54) else (some 0))) = some r := by rw [if_neg (show ¬ (false = true) by decide)] at H; exact H
        clear H
        have H := H1
        clear H1
        by_cases c6 : a0 = 54
        · rw [if_pos c6] at H
          have c6b0 : (a0 == 54) = true := beq_iff_eq.mpr c6
          have c6b1 : (a0 != 54) = false := bne_eq_false_iff_eq.mpr c6
          clear c6
          obtain rfl := Option.some.inj H
          go_wp2
          go_ret
          exact ⟨by first | rfl | (simp; done) | (simp [*]; done), by repeat (first | exact Drawn0.refl _ | apply Drawn0.step)⟩
        · rw [if_neg c6] at H
          have c6b0 : (a0 == 54) = false := beq_eq_false_iff_ne.mpr c6
          have c6b1 : (a0 != 54) = true := bne_iff_ne.mpr c6
          by_cases c7 : a0 = 57
          · rw [if_pos c7] at H
            have c7b0 : (a0 == 57) = true := beq_iff_eq.mpr c7
            have c7b1 : (a0 != 57) = false := bne_eq_false_iff_eq.mpr c7
            clear c7
            obtain rfl := Option.some.inj H
            go_wp2
            go_ret
            exact ⟨by first | rfl | (simp; done) | (simp [*]; done), by repeat (first | exact Drawn0.refl _ | apply Drawn0.step)⟩
          · rw [if_neg c7] at H
            have c7b0 : (a0 == 57) = false := beq_eq_false_iff_ne.mpr c7
            have c7b1 : (a0 != 57) = true := bne_iff_ne.mpr c7
            obtain rfl := Option.some.inj H
            go_wp2
            go_ret
            exact ⟨by first | rfl | (simp; done) | (simp [*]; done), by repeat (first | exact Drawn0.refl _ | apply Drawn0.step)⟩

/-! ### impl_may: function 16 -/
def impl_may.f (k : Nat) (a0 : Int) (a1 : ByteArray) (a2 : Int) : Option (Bool) := if 0 ≤ (wrap64 ((a1.size : Int) - 1)) then (if (wrap64 ((a1.size : Int) - 1)) < (a1.size : Int) then (if a0 = 97 then (if 0 < (a1.size : Int) then (some ((bt a1 (wrap64 ((a1.size : Int) - 1))) == (bt a1 0))) else (none)) else (if a0 = 109 then (if (wrap64 ((wrap64 (a2 - 1)) - (wrap64 ((a1.size : Int) - 1)))) > (wrap64 ((a1.size : Int) - 1)) then (some true) else (if 0 ≤ (wrap64 ((wrap64 (a2 - 1)) - (wrap64 ((a1.size : Int) - 1)))) then (if (wrap64 ((wrap64 (a2 - 1)) - (wrap64 ((a1.size : Int) - 1)))) < (a1.size : Int) then (some ((bt a1 (wrap64 ((wrap64 (a2 - 1)) - (wrap64 ((a1.size : Int) - 1))))) == (bt a1 (wrap64 ((a1.size : Int) - 1))))) else (none)) else (none))) else (if a0 = 117 then ((impl_upside.f k (bt a1 (wrap64 ((a1.size : Int) - 1)))).bind fun t101 => (if t101 = 0 then (some false) else (if (wrap64 ((wrap64 (a2 - 1)) - (wrap64 ((a1.size : Int) - 1)))) > (wrap64 ((a1.size : Int) - 1)) then (some true) else (if 0 ≤ (wrap64 ((wrap64 (a2 - 1)) - (wrap64 ((a1.size : Int) - 1)))) then (if (wrap64 ((wrap64 (a2 - 1)) - (wrap64 ((a1.size : Int) - 1)))) < (a1.size : Int) then ((impl_upside.f k (bt a1 (wrap64 ((a1.size : Int) - 1)))).bind fun t102 => (some ((bt a1 (wrap64 ((wrap64 (a2 - 1)) - (wrap64 ((a1.size : Int) - 1))))) == t102))) else (none)) else (none))))) else (if a0 = 114 then (if (wrap64 ((a1.size : Int) - 1)) = 0 then (some (decide ((wrap64 ((((bt a1 (wrap64 ((a1.size : Int) - 1))) - 48) % 256) + (wrap64 (a2 - (a1.size : Int))))) ≤ 9))) else (if 0 ≤ (wrap64 ((wrap64 ((a1.size : Int) - 1)) - 1)) then (if (wrap64 ((wrap64 ((a1.size : Int) - 1)) - 1)) < (a1.size : Int) then (if (bt a1 (wrap64 ((wrap64 ((a1.size : Int) - 1)) - 1))) < (bt a1 (wrap64 ((a1.size : Int) - 1))) then (some (decide ((wrap64 ((((bt a1 (wrap64 ((a1.size : Int) - 1))) - 48) % 256) + (wrap64 (a2 - (a1.size : Int))))) ≤ 9))) else (some false)) else (none)) else (none))) else (if a0 = 102 then (if (wrap64 ((a1.size : Int) - 1)) = 0 then (some (decide ((((bt a1 (wrap64 ((a1.size : Int) - 1))) - 48) % 256) ≥ (wrap64 (a2 - (a1.size : Int)))))) else (if 0 ≤ (wrap64 ((wrap64 ((a1.size : Int) - 1)) - 1)) then (if (wrap64 ((wrap64 ((a1.size : Int) - 1)) - 1)) < (a1.size : Int) then (if (bt a1 (wrap64 ((wrap64 ((a1.size : Int) - 1)) - 1))) > (bt a1 (wrap64 ((a1.size : Int) - 1))) then (some (decide ((((bt a1 (wrap64 ((a1.size : Int) - 1))) - 48) % 256) ≥ (wrap64 (a2 - (a1.size : Int)))))) else (some false)) else (none)) else (none))) else (if (wrap64 ((a1.size : Int) - 1)) ≤ (a1.size : Int) then ((strings_IndexByte.f (a1.extract 0 ((wrap64 ((a1.size : Int) - 1)) : Int).toNat) (bt a1 (wrap64 ((a1.size : Int) - 1)))).bind fun t103 => (some (decide (t103 < 0)))) else (none))))))) else (none)) else (none)
theorem impl_may.mono : ∀ a0 a1 a2 k, LeO (impl_may.f k a0 a1 a2) (impl_may.f (k + 1) a0 a1 a2) := by
  intro a0 a1 a2 k
  unfold impl_may.f
  repeat' first
      | (with_reducible exact impl_upside.mono _ _)
      | (with_reducible exact LeO.refl _)
      | (with_reducible exact LeO.none _)
      | (with_reducible refine LeO.ite ?_ ?_)
      | (with_reducible refine LeO.bind ?_ (fun _ => ?_))
      | exact impl_upside.mono _ _
      | exact LeO.none _
      | refine LeO.ite ?_ ?_
      | refine LeO.bind ?_ (fun _ => ?_)
set_option maxHeartbeats 8000000 in
set_option maxRecDepth 100000 in
theorem impl_may.calls (k : Nat) (a0 : Int) (a1 : ByteArray) (a2 : Int) (r : Bool) (w : World) (h : impl_may.f k a0 a1 a2 = some r) :
    Calls Tryd.prog 16 #[.int .u8 a0, .string a1, .int .i64 a2] w fun e w' => e = .returned (.bool r) ∧ Drawn0 w w' := by
  have H : (if 0 ≤ (wrap64 ((a1.size : Int) - 1)) then (if (wrap64 ((a1.size : Int) - 1)) < (a1.size : Int) then (if a0 = 97 then (if 0 < (a1.size : Int) then (some ((bt a1 (wrap64 ((a1.size : Int) - 1))) == (bt a1 0))) else (none)) else (if a0 = 109 then (if (wrap64 ((wrap64 (a2 - 1)) - (wrap64 ((a1.size : Int) - 1)))) > (wrap64 ((a1.size : Int) - 1)) then (some true) else (if 0 ≤ (wrap64 ((wrap64 (a2 - 1)) - (wrap64 ((a1.size : Int) - 1)))) then (if (wrap64 ((wrap64 (a2 - 1)) - (wrap64 ((a1.size : Int) - 1)))) < (a1.size : Int) then (some ((bt a1 (wrap64 ((wrap64 (a2 - 1)) - (wrap64 ((a1.size : Int) - 1))))) == (bt a1 (wrap64 ((a1.size : Int) - 1))))) else (none)) else (none))) else (if a0 = 117 then ((impl_upside.f k (bt a1 (wrap64 ((a1.size : Int) - 1)))).bind fun t101 => (if t101 = 0 then (some false) else (if (wrap64 ((wrap64 (a2 - 1)) - (wrap64 ((a1.size : Int) - 1)))) > (wrap64 ((a1.size : Int) - 1)) then (some true) else (if 0 ≤ (wrap64 ((wrap64 (a2 - 1)) - (wrap64 ((a1.size : Int) - 1)))) then (if (wrap64 ((wrap64 (a2 - 1)) - (wrap64 ((a1.size : Int) - 1)))) < (a1.size : Int) then ((impl_upside.f k (bt a1 (wrap64 ((a1.size : Int) - 1)))).bind fun t102 => (some ((bt a1 (wrap64 ((wrap64 (a2 - 1)) - (wrap64 ((a1.size : Int) - 1))))) == t102))) else (none)) else (none))))) else (if a0 = 114 then (if (wrap64 ((a1.size : Int) - 1)) = 0 then (some (decide ((wrap64 ((((bt a1 (wrap64 ((a1.size : Int) - 1))) - 48) % 256) + (wrap64 (a2 - (a1.size : Int))))) ≤ 9))) else (if 0 ≤ (wrap64 ((wrap64 ((a1.size : Int) - 1)) - 1)) then (if (wrap64 ((wrap64 ((a1.size : Int) - 1)) - 1)) < (a1.size : Int) then (if (bt a1 (wrap64 ((wrap64 ((a1.size : Int) - 1)) - 1))) < (bt a1 (wrap64 ((a1.size : Int) - 1))) then (some (decide ((wrap64 ((((bt a1 (wrap64 ((a1.size : Int) - 1))) - 48) % 256) + (wrap64 (a2 - (a1.size : Int))))) ≤ 9))) else (some false)) else (none)) else (none))) else (if a0 = 102 then (if (wrap64 ((a1.size : Int) - 1)) = 0 then (some (decide ((((bt a1 (wrap64 ((a1.size : Int) - 1))) - 48) % 256) ≥ (wrap64 (a2 - (a1.size : Int)))))) else (if 0 ≤ (wrap64 ((wrap64 ((a1.size : Int) - 1)) - 1)) then (if (wrap64 ((wrap64 ((a1.size : Int) - 1)) - 1)) < (a1.size : Int) then (if (bt a1 (wrap64 ((wrap64 ((a1.size : Int) - 1)) - 1))) > (bt a1 (wrap64 ((a1.size : Int) - 1))) then (some (decide ((((bt a1 (wrap64 ((a1.size : Int) - 1))) - 48) % 256) ≥ (wrap64 (a2 - (a1.size : Int)))))) else (some false)) else (none)) else (none))) else (if (wrap64 ((a1.size : Int) - 1)) ≤ (a1.size : Int) then ((strings_IndexByte.f (a1.extract 0 ((wrap64 ((a1.size : Int) - 1)) : Int).toNat) (bt a1 (wrap64 ((a1.size : Int) - 1)))).bind fun t103 => (some (decide (t103 < 0)))) else (none))))))) else (none)) else (none)) = some r := h
  clear h
  obtain ⟨ji4, hji4⟩ : ∃ j_ : Int, (wrap64 ((a1.size : Int) - 1)) = j_ := ⟨_, rfl⟩
  replace H : (if 0 ≤ (ji4) then (if (ji4) < (a1.size : Int) then (if a0 = 97 then (if 0 < (a1.size : Int) then (some ((bt a1 (ji4)) == (bt a1 0))) else (none)) else (if a0 = 109 then (if (wrap64 ((wrap64 (a2 - 1)) - (ji4))) > (ji4) then (some true) else (if 0 ≤ (wrap64 ((wrap64 (a2 - 1)) - (ji4))) then (if (wrap64 ((wrap64 (a2 - 1)) - (ji4))) < (a1.size : Int) then (some ((bt a1 (wrap64 ((wrap64 (a2 - 1)) - (ji4)))) == (bt a1 (ji4)))) else (none)) else (none))) else (if a0 = 117 then ((impl_upside.f k (bt a1 (ji4))).bind fun t101 => (if t101 = 0 then (some false) else (if (wrap64 ((wrap64 (a2 - 1)) - (ji4))) > (ji4) then (some true) else (if 0 ≤ (wrap64 ((wrap64 (a2 - 1)) - (ji4))) then (if (wrap64 ((wrap64 (a2 - 1)) - (ji4))) < (a1.size : Int) then ((impl_upside.f k (bt a1 (ji4))).bind fun t102 => (some ((bt a1 (wrap64 ((wrap64 (a2 - 1)) - (ji4)))) == t102))) else (none)) else (none))))) else (if a0 = 114 then (if (ji4) = 0 then (some (decide ((wrap64 ((((bt a1 (ji4)) - 48) % 256) + (wrap64 (a2 - (a1.size : Int))))) ≤ 9))) else (if 0 ≤ (wrap64 ((ji4) - 1)) then (if (wrap64 ((ji4) - 1)) < (a1.size : Int) then (if (bt a1 (wrap64 ((ji4) - 1))) < (bt a1 (ji4)) then (some (decide ((wrap64 ((((bt a1 (ji4)) - 48) % 256) + (wrap64 (a2 - (a1.size : Int))))) ≤ 9))) else (some false)) else (none)) else (none))) else (if a0 = 102 then (if (ji4) = 0 then (some (decide ((((bt a1 (ji4)) - 48) % 256) ≥ (wrap64 (a2 - (a1.size : Int)))))) else (if 0 ≤ (wrap64 ((ji4) - 1)) then (if (wrap64 ((ji4) - 1)) < (a1.size : Int) then (if (bt a1 (wrap64 ((ji4) - 1))) > (bt a1 (ji4)) then (some (decide ((((bt a1 (ji4)) - 48) % 256) ≥ (wrap64 (a2 - (a1.size : Int)))))) else (some false)) else (none)) else (none))) else (if (ji4) ≤ (a1.size : Int) then ((strings_IndexByte.f (a1.extract 0 ((ji4) : Int).toNat) (bt a1 (ji4))).bind fun t103 => (some (decide (t103 < 0)))) else (none))))))) else (none)) else (none)) = some r := by first | (rw [hji4] at H; exact H) | (simp only [hji4] at H ⊢; exact H)
  have hji4w : (IntKind.i64.wrap ((a1.size : Int) - 1)) = ji4 := (i64_w _).trans hji4
  by_cases c5 : 0 ≤ (ji4)
  · rw [if_pos c5] at H
    have c5b0 : decide (0 ≤ (ji4)) = true := decide_eq_true c5
    clear c5
    by_cases c6 : (ji4) < (a1.size : Int)
    · rw [if_pos c6] at H
      have c6b0 : decide ((ji4) < (a1.size : Int)) = true := decide_eq_true c6
      clear c6
      by_cases c8 : a0 = 97
      · rw [if_pos c8] at H
        have c8b0 : (a0 == 97) = true := beq_iff_eq.mpr c8
        have c8b1 : (a0 != 97) = false := bne_eq_false_iff_eq.mpr c8
        clear c8
        by_cases c10 : 0 < (a1.size : Int)
        · rw [if_pos c10] at H
          have c10b0 : decide (0 < (a1.size : Int)) = true := decide_eq_true c10
          have c10b1 : decide (0 < a1.size) = true := decide_eq_true (by omega)
          clear c10
          obtain rfl := Option.some.inj H
          have p7 : 0 ≤ ((ji4) : Int) := of_decide_eq_true (by first | (with_reducible assumption) | assumption)
          have q7 : (ji4) < (a1.size : Int) := of_decide_eq_true (by first | (with_reducible assumption) | assumption)
          have hx7 := bt_at a1 (ji4)
          replace p7 := eq_true p7
          replace q7 := eq_true q7
          have p9 : 0 ≤ ((ji4) : Int) := of_decide_eq_true (by first | (with_reducible assumption) | assumption)
          have q9 : (ji4) < (a1.size : Int) := of_decide_eq_true (by first | (with_reducible assumption) | assumption)
          have hx9 := bt_at a1 (ji4)
          replace p9 := eq_true p9
          replace q9 := eq_true q9
          have p11 : 0 ≤ (0 : Int) := (by omega)
          have q11 : 0 < a1.size := (by have : (0 : Int) < (a1.size : Int) := of_decide_eq_true (by first | (with_reducible assumption) | assumption); omega)
          have hx11 : ∀ h : 0 < a1.size, ((a1[0]'h).toNat : Int) = bt a1 0 := bt_at a1 0
          clear p11
          have qi11 : (0 < (a1.size : Int)) = True := eq_true (of_decide_eq_true (by first | (with_reducible assumption) | assumption))
          replace q11 := eq_true q11
          go_enter Tryd.func16, Tryd.ntmps16
          go_wp2
          repeat (go_quiet (fail); try go_wp2)
          go_ret
          exact ⟨by first | rfl | (simp; done) | (simp only [← hji4] <;> (first | rfl | simp)) | (simp [*]; done), by repeat (first | exact Drawn0.refl _ | apply Drawn0.step)⟩
        · rw [if_neg c10] at H
          exact absurd H (by simp)
      · rw [if_neg c8] at H
        have c8b0 : (a0 == 97) = false := beq_eq_false_iff_ne.mpr c8
        have c8b1 : (a0 != 97) = true := bne_iff_ne.mpr c8
        by_cases c12 : a0 = 109
        · rw [if_pos c12] at H
          have c12b0 : (a0 == 109) = true := beq_iff_eq.mpr c12
          have c12b1 : (a0 != 109) = false := bne_eq_false_iff_eq.mpr c12
          clear c12
          by_cases c13 : (wrap64 ((wrap64 (a2 - 1)) - (ji4))) > (ji4)
          · rw [if_pos c13] at H
            have c13b0 : decide ((ji4) < (wrap64 ((wrap64 (a2 - 1)) - (ji4)))) = true := decide_eq_true c13
            clear c13
            obtain rfl := Option.some.inj H
            have p7 : 0 ≤ ((ji4) : Int) := of_decide_eq_true (by first | (with_reducible assumption) | assumption)
            have q7 : (ji4) < (a1.size : Int) := of_decide_eq_true (by first | (with_reducible assumption) | assumption)
            have hx7 := bt_at a1 (ji4)
            replace p7 := eq_true p7
            replace q7 := eq_true q7
            go_enter Tryd.func16, Tryd.ntmps16
            go_wp2
            repeat (go_quiet (fail); try go_wp2)
            go_ret
            exact ⟨by first | rfl | (simp; done) | (simp only [← hji4] <;> (first | rfl | simp)) | (simp [*]; done), by repeat (first | exact Drawn0.refl _ | apply Drawn0.step)⟩
          · rw [if_neg c13] at H
            have c13b0 : decide ((ji4) < (wrap64 ((wrap64 (a2 - 1)) - (ji4)))) = false := decide_eq_false c13
            clear c13
            obtain ⟨ji14, hji14⟩ : ∃ j_ : Int, (wrap64 ((wrap64 (a2 - 1)) - (ji4))) = j_ := ⟨_, rfl⟩
            replace H : (if 0 ≤ (ji14) then (if (ji14) < (a1.size : Int) then (some ((bt a1 (ji14)) == (bt a1 (ji4)))) else (none)) else (none)) = some r := by first | (rw [hji14] at H; exact H) | (simp only [hji14] at H ⊢; exact H)
            (try rw [hji14] at c13b0)
            have hji14w : (IntKind.i64.wrap ((wrap64 (a2 - 1)) - (ji4))) = ji14 := (i64_w _).trans hji14
            try have hji14v : (IntKind.i64.wrap ((IntKind.i64.wrap (a2 - 1)) - (ji4))) = ji14 := by simp only [i64_w]; exact hji14
            by_cases c15 : 0 ≤ (ji14)
            · rw [if_pos c15] at H
              have c15b0 : decide (0 ≤ (ji14)) = true := decide_eq_true c15
              clear c15
              by_cases c16 : (ji14) < (a1.size : Int)
              · rw [if_pos c16] at H
                have c16b0 : decide ((ji14) < (a1.size : Int)) = true := decide_eq_true c16
                clear c16
                obtain rfl := Option.some.inj H
                have p7 : 0 ≤ ((ji4) : Int) := of_decide_eq_true (by first | (with_reducible assumption) | assumption)
                have q7 : (ji4) < (a1.size : Int) := of_decide_eq_true (by first | (with_reducible assumption) | assumption)
                have hx7 := bt_at a1 (ji4)
                replace p7 := eq_true p7
                replace q7 := eq_true q7
                have p17 : 0 ≤ ((ji14) : Int) := of_decide_eq_true (by first | (with_reducible assumption) | assumption)
                have q17 : (ji14) < (a1.size : Int) := of_decide_eq_true (by first | (with_reducible assumption) | assumption)
                have hx17 := bt_at a1 (ji14)
                replace p17 := eq_true p17
                replace q17 := eq_true q17
                have p18 : 0 ≤ ((ji4) : Int) := of_decide_eq_true (by first | (with_reducible assumption) | assumption)
                have q18 : (ji4) < (a1.size : Int) := of_decide_eq_true (by first | (with_reducible assumption) | assumption)
                have hx18 := bt_at a1 (ji4)
                replace p18 := eq_true p18
                replace q18 := eq_true q18
                go_enter Tryd.func16, Tryd.ntmps16
                go_wp2
                repeat (go_quiet (fail); try go_wp2)
                go_ret
                exact ⟨by first | rfl | (simp; done) | (simp only [← hji4, ← hji14] <;> (first | rfl | simp)) | (simp [*]; done), by repeat (first | exact Drawn0.refl _ | apply Drawn0.step)⟩
              · rw [if_neg c16] at H
                exact absurd H (by simp)
            · rw [if_neg c15] at H
              exact absurd H (by simp)
        · rw [if_neg c12] at H
          have c12b0 : (a0 == 109) = false := beq_eq_false_iff_ne.mpr c12
          have c12b1 : (a0 != 109) = true := bne_iff_ne.mpr c12
          by_cases c19 : a0 = 117
          · rw [if_pos c19] at H
            have c19b0 : (a0 == 117) = true := beq_iff_eq.mpr c19
            have c19b1 : (a0 != 117) = false := bne_eq_false_iff_eq.mpr c19
            clear c19
            replace H := Option.bind_eq_some_iff.mp H
            obtain ⟨t101, A210, H⟩ := H
            replace H : (if t101 = 0 then (some false) else (if (wrap64 ((wrap64 (a2 - 1)) - (ji4))) > (ji4) then (some true) else (if 0 ≤ (wrap64 ((wrap64 (a2 - 1)) - (ji4))) then (if (wrap64 ((wrap64 (a2 - 1)) - (ji4))) < (a1.size : Int) then ((impl_upside.f k (bt a1 (ji4))).bind fun t102 => (some ((bt a1 (wrap64 ((wrap64 (a2 - 1)) - (ji4)))) == t102))) else (none)) else (none)))) = some r := H
            have A21 := Aside0.mk A210
            clear A210
            by_cases c22 : t101 = 0
            · rw [if_pos c22] at H
              have c22b0 : (t101 == 0) = true := beq_iff_eq.mpr c22
              have c22b1 : (t101 != 0) = false := bne_eq_false_iff_eq.mpr c22
              clear c22
              obtain rfl := Option.some.inj H
              have p7 : 0 ≤ ((ji4) : Int) := of_decide_eq_true (by first | (with_reducible assumption) | assumption)
              have q7 : (ji4) < (a1.size : Int) := of_decide_eq_true (by first | (with_reducible assumption) | assumption)
              have hx7 := bt_at a1 (ji4)
              replace p7 := eq_true p7
              replace q7 := eq_true q7
              have p20 : 0 ≤ ((ji4) : Int) := of_decide_eq_true (by first | (with_reducible assumption) | assumption)
              have q20 : (ji4) < (a1.size : Int) := of_decide_eq_true (by first | (with_reducible assumption) | assumption)
              have hx20 := bt_at a1 (ji4)
              replace p20 := eq_true p20
              replace q20 := eq_true q20
              go_enter Tryd.func16, Tryd.ntmps16
              go_wp2_with (first | (go_at_call 31; (with_reducible refine (impl_upside.calls k (bt a1 (ji4)) t101 _ A21.out).mono ?_); rintro e w' ⟨rfl, ⟨nd, rfl⟩⟩; (try first | exact ⟨rfl, _, World.drewN_drewN _ _ _⟩ | exact ⟨rfl, _, Eq.trans (World.drewN_drewN _ _ _) (congrArg (World.drewN _) (Nat.add_assoc _ _ _))⟩)))
              repeat (go_quiet (first | (go_at_call 31; (with_reducible refine (impl_upside.calls k (bt a1 (ji4)) t101 _ A21.out).mono ?_); rintro e w' ⟨rfl, ⟨nd, rfl⟩⟩; (try first | exact ⟨rfl, _, World.drewN_drewN _ _ _⟩ | exact ⟨rfl, _, Eq.trans (World.drewN_drewN _ _ _) (congrArg (World.drewN _) (Nat.add_assoc _ _ _))⟩))); try go_wp2_with (first | (go_at_call 31; (with_reducible refine (impl_upside.calls k (bt a1 (ji4)) t101 _ A21.out).mono ?_); rintro e w' ⟨rfl, ⟨nd, rfl⟩⟩; (try first | exact ⟨rfl, _, World.drewN_drewN _ _ _⟩ | exact ⟨rfl, _, Eq.trans (World.drewN_drewN _ _ _) (congrArg (World.drewN _) (Nat.add_assoc _ _ _))⟩))))
              go_ret
              exact ⟨by first | rfl | (simp; done) | (simp only [← hji4] <;> (first | rfl | simp)) | (simp [*]; done), by repeat (first | exact Drawn0.refl _ | apply Drawn0.step)⟩
            · rw [if_neg c22] at H
              have c22b0 : (t101 == 0) = false := beq_eq_false_iff_ne.mpr c22
              have c22b1 : (t101 != 0) = true := bne_iff_ne.mpr c22
              by_cases c23 : (wrap64 ((wrap64 (a2 - 1)) - (ji4))) > (ji4)
              · rw [if_pos c23] at H
                have c23b0 : decide ((ji4) < (wrap64 ((wrap64 (a2 - 1)) - (ji4)))) = true := decide_eq_true c23
                clear c23
                obtain rfl := Option.some.inj H
                have p7 : 0 ≤ ((ji4) : Int) := of_decide_eq_true (by first | (with_reducible assumption) | assumption)
                have q7 : (ji4) < (a1.size : Int) := of_decide_eq_true (by first | (with_reducible assumption) | assumption)
                have hx7 := bt_at a1 (ji4)
                replace p7 := eq_true p7
                replace q7 := eq_true q7
                have p20 : 0 ≤ ((ji4) : Int) := of_decide_eq_true (by first | (with_reducible assumption) | assumption)
                have q20 : (ji4) < (a1.size : Int) := of_decide_eq_true (by first | (with_reducible assumption) | assumption)
                have hx20 := bt_at a1 (ji4)
                replace p20 := eq_true p20
                replace q20 := eq_true q20
                go_enter Tryd.func16, Tryd.ntmps16
                go_wp2_with (first | (go_at_call 31; (with_reducible refine (impl_upside.calls k (bt a1 (ji4)) t101 _ A21.out).mono ?_); rintro e w' ⟨rfl, ⟨nd, rfl⟩⟩; (try first | exact ⟨rfl, _, World.drewN_drewN _ _ _⟩ | exact ⟨rfl, _, Eq.trans (World.drewN_drewN _ _ _) (congrArg (World.drewN _) (Nat.add_assoc _ _ _))⟩)))
                repeat (go_quiet (first | (go_at_call 31; (with_reducible refine (impl_upside.calls k (bt a1 (ji4)) t101 _ A21.out).mono ?_); rintro e w' ⟨rfl, ⟨nd, rfl⟩⟩; (try first | exact ⟨rfl, _, World.drewN_drewN _ _ _⟩ | exact ⟨rfl, _, Eq.trans (World.drewN_drewN _ _ _) (congrArg (World.drewN _) (Nat.add_assoc _ _ _))⟩))); try go_wp2_with (first | (go_at_call 31; (with_reducible refine (impl_upside.calls k (bt a1 (ji4)) t101 _ A21.out).mono ?_); rintro e w' ⟨rfl, ⟨nd, rfl⟩⟩; (try first | exact ⟨rfl, _, World.drewN_drewN _ _ _⟩ | exact ⟨rfl, _, Eq.trans (World.drewN_drewN _ _ _) (congrArg (World.drewN _) (Nat.add_assoc _ _ _))⟩))))
                go_ret
                exact ⟨by first | rfl | (simp; done) | (simp only [← hji4] <;> (first | rfl | simp)) | (simp [*]; done), by repeat (first | exact Drawn0.refl _ | apply Drawn0.step)⟩
              · rw [if_neg c23] at H
                have c23b0 : decide ((ji4) < (wrap64 ((wrap64 (a2 - 1)) - (ji4)))) = false := decide_eq_false c23
                clear c23
                try clear hji14w
                obtain ⟨ji24, hji24⟩ : ∃ j_ : Int, (wrap64 ((wrap64 (a2 - 1)) - (ji4))) = j_ := ⟨_, rfl⟩
                replace H : (if 0 ≤ (ji24) then (if (ji24) < (a1.size : Int) then ((impl_upside.f k (bt a1 (ji4))).bind fun t102 => (some ((bt a1 (ji24)) == t102))) else (none)) else (none)) = some r := by first | (rw [hji24] at H; exact H) | (simp only [hji24] at H ⊢; exact H)
                (try rw [hji24] at c23b0)
                (try rw [hji24] at A21)
                have hji24w : (IntKind.i64.wrap ((wrap64 (a2 - 1)) - (ji4))) = ji24 := (i64_w _).trans hji24
                try have hji24v : (IntKind.i64.wrap ((IntKind.i64.wrap (a2 - 1)) - (ji4))) = ji24 := by simp only [i64_w]; exact hji24
                by_cases c25 : 0 ≤ (ji24)
                · rw [if_pos c25] at H
                  have c25b0 : decide (0 ≤ (ji24)) = true := decide_eq_true c25
                  clear c25
                  by_cases c26 : (ji24) < (a1.size : Int)
                  · rw [if_pos c26] at H
                    have c26b0 : decide ((ji24) < (a1.size : Int)) = true := decide_eq_true c26
                    clear c26
                    replace H := Option.bind_eq_some_iff.mp H
                    obtain ⟨t102, A290, H⟩ := H
                    replace H : (some ((bt a1 (ji24)) == t102)) = some r := H
                    have A29 := Aside0.mk A290
                    clear A290
                    obtain rfl := Option.some.inj H
                    have p7 : 0 ≤ ((ji4) : Int) := of_decide_eq_true (by first | (with_reducible assumption) | assumption)
                    have q7 : (ji4) < (a1.size : Int) := of_decide_eq_true (by first | (with_reducible assumption) | assumption)
                    have hx7 := bt_at a1 (ji4)
                    replace p7 := eq_true p7
                    replace q7 := eq_true q7
                    have p20 : 0 ≤ ((ji4) : Int) := of_decide_eq_true (by first | (with_reducible assumption) | assumption)
                    have q20 : (ji4) < (a1.size : Int) := of_decide_eq_true (by first | (with_reducible assumption) | assumption)
                    have hx20 := bt_at a1 (ji4)
                    replace p20 := eq_true p20
                    replace q20 := eq_true q20
                    try obtain rfl : t101 = t102 := Option.some.inj (A21.out.symm.trans A29.out)
                    go_enter Tryd.func16, Tryd.ntmps16
                    go_wp2_with (first | (go_at_call 31; (with_reducible refine (impl_upside.calls k (bt a1 (ji4)) t101 _ A21.out).mono ?_); rintro e w' ⟨rfl, ⟨nd, rfl⟩⟩; (try first | exact ⟨rfl, _, World.drewN_drewN _ _ _⟩ | exact ⟨rfl, _, Eq.trans (World.drewN_drewN _ _ _) (congrArg (World.drewN _) (Nat.add_assoc _ _ _))⟩); have p27 : 0 ≤ ((ji24) : Int) := of_decide_eq_true (by first | (with_reducible assumption) | assumption); have q27 : (ji24) < (a1.size : Int) := of_decide_eq_true (by first | (with_reducible assumption) | assumption); have hx27 := bt_at a1 (ji24); replace p27 := eq_true p27; replace q27 := eq_true q27; have p28 : 0 ≤ ((ji4) : Int) := of_decide_eq_true (by first | (with_reducible assumption) | assumption); have q28 : (ji4) < (a1.size : Int) := of_decide_eq_true (by first | (with_reducible assumption) | assumption); have hx28 := bt_at a1 (ji4); replace p28 := eq_true p28; replace q28 := eq_true q28) | (go_at_call 31; (with_reducible refine (impl_upside.calls k (bt a1 (ji4)) t102 _ A29.out).mono ?_); rintro e w' ⟨rfl, ⟨nd, rfl⟩⟩; (try first | exact ⟨rfl, _, World.drewN_drewN _ _ _⟩ | exact ⟨rfl, _, Eq.trans (World.drewN_drewN _ _ _) (congrArg (World.drewN _) (Nat.add_assoc _ _ _))⟩)))
                    repeat (go_quiet (first | (go_at_call 31; (with_reducible refine (impl_upside.calls k (bt a1 (ji4)) t101 _ A21.out).mono ?_); rintro e w' ⟨rfl, ⟨nd, rfl⟩⟩; (try first | exact ⟨rfl, _, World.drewN_drewN _ _ _⟩ | exact ⟨rfl, _, Eq.trans (World.drewN_drewN _ _ _) (congrArg (World.drewN _) (Nat.add_assoc _ _ _))⟩); have p27 : 0 ≤ ((ji24) : Int) := of_decide_eq_true (by first | (with_reducible assumption) | assumption); have q27 : (ji24) < (a1.size : Int) := of_decide_eq_true (by first | (with_reducible assumption) | assumption); have hx27 := bt_at a1 (ji24); replace p27 := eq_true p27; replace q27 := eq_true q27; have p28 : 0 ≤ ((ji4) : Int) := of_decide_eq_true (by first | (with_reducible assumption) | assumption); have q28 : (ji4) < (a1.size : Int) := of_decide_eq_true (by first | (with_reducible assumption) | assumption); have hx28 := bt_at a1 (ji4); replace p28 := eq_true p28; replace q28 := eq_true q28) | (go_at_call 31; (with_reducible refine (impl_upside.calls k (bt a1 (ji4)) t102 _ A29.out).mono ?_); rintro e w' ⟨rfl, ⟨nd, rfl⟩⟩; (try first | exact ⟨rfl, _, World.drewN_drewN _ _ _⟩ | exact ⟨rfl, _, Eq.trans (World.drewN_drewN _ _ _) (congrArg (World.drewN _) (Nat.add_assoc _ _ _))⟩))); try go_wp2_with (first | (go_at_call 31; (with_reducible refine (impl_upside.calls k (bt a1 (ji4)) t101 _ A21.out).mono ?_); rintro e w' ⟨rfl, ⟨nd, rfl⟩⟩; (try first | exact ⟨rfl, _, World.drewN_drewN _ _ _⟩ | exact ⟨rfl, _, Eq.trans (World.drewN_drewN _ _ _) (congrArg (World.drewN _) (Nat.add_assoc _ _ _))⟩); have p27 : 0 ≤ ((ji24) : Int) := of_decide_eq_true (by first | (with_reducible assumption) | assumption); have q27 : (ji24) < (a1.size : Int) := of_decide_eq_true (by first | (with_reducible assumption) | assumption); have hx27 := bt_at a1 (ji24); replace p27 := eq_true p27; replace q27 := eq_true q27; have p28 : 0 ≤ ((ji4) : Int) := of_decide_eq_true (by first | (with_reducible assumption) | assumption); have q28 : (ji4) < (a1.size : Int) := of_decide_eq_true (by first | (with_reducible assumption) | assumption); have hx28 := bt_at a1 (ji4); replace p28 := eq_true p28; replace q28 := eq_true q28) | (go_at_call 31; (with_reducible refine (impl_upside.calls k (bt a1 (ji4)) t102 _ A29.out).mono ?_); rintro e w' ⟨rfl, ⟨nd, rfl⟩⟩; (try first | exact ⟨rfl, _, World.drewN_drewN _ _ _⟩ | exact ⟨rfl, _, Eq.trans (World.drewN_drewN _ _ _) (congrArg (World.drewN _) (Nat.add_assoc _ _ _))⟩))))
                    go_ret
                    exact ⟨by first | rfl | (simp; done) | (simp only [← hji4, ← hji24] <;> (first | rfl | simp)) | (simp [*]; done), by repeat (first | exact Drawn0.refl _ | apply Drawn0.step)⟩
                  · rw [if_neg c26] at H
                    exact absurd H (by simp)
                · rw [if_neg c25] at H
                  exact absurd H (by simp)
          · rw [if_neg c19] at H
            have c19b0 : (a0 == 117) = false := beq_eq_false_iff_ne.mpr c19
            have c19b1 : (a0 != 117) = true := bne_iff_ne.mpr c19
            by_cases c30 : a0 = 114
            · rw [if_pos c30] at H
              have c30b0 : (a0 == 114) = true := beq_iff_eq.mpr c30
              have c30b1 : (a0 != 114) = false := bne_eq_false_iff_eq.mpr c30
              clear c30
              by_cases c31 : (ji4) = 0
              · rw [if_pos c31] at H
                have c31b0 : ((ji4) == 0) = true := beq_iff_eq.mpr c31
                have c31b1 : ((ji4) != 0) = false := bne_eq_false_iff_eq.mpr c31
                clear c31
                obtain rfl := Option.some.inj H
                have p7 : 0 ≤ ((ji4) : Int) := of_decide_eq_true (by first | (with_reducible assumption) | assumption)
                have q7 : (ji4) < (a1.size : Int) := of_decide_eq_true (by first | (with_reducible assumption) | assumption)
                have hx7 := bt_at a1 (ji4)
                replace p7 := eq_true p7
                replace q7 := eq_true q7
                go_enter Tryd.func16, Tryd.ntmps16
                go_wp2
                repeat (go_quiet (fail); try go_wp2)
                go_ret
                exact ⟨by first | rfl | (simp; done) | (simp only [← hji4] <;> (first | rfl | simp)) | (simp [*]; done), by repeat (first | exact Drawn0.refl _ | apply Drawn0.step)⟩
              · rw [if_neg c31] at H
                have c31b0 : ((ji4) == 0) = false := beq_eq_false_iff_ne.mpr c31
                have c31b1 : ((ji4) != 0) = true := bne_iff_ne.mpr c31
                obtain ⟨ji32, hji32⟩ : ∃ j_ : Int, (wrap64 ((ji4) - 1)) = j_ := ⟨_, rfl⟩
                replace H : (if 0 ≤ (ji32) then (if (ji32) < (a1.size : Int) then (if (bt a1 (ji32)) < (bt a1 (ji4)) then (some (decide ((wrap64 ((((bt a1 (ji4)) - 48) % 256) + (wrap64 (a2 - (a1.size : Int))))) ≤ 9))) else (some false)) else (none)) else (none)) = some r := by first | (rw [hji32] at H; exact H) | (simp only [hji32] at H ⊢; exact H)
                have hji32w : (IntKind.i64.wrap ((ji4) - 1)) = ji32 := (i64_w _).trans hji32
                by_cases c33 : 0 ≤ (ji32)
                · rw [if_pos c33] at H
                  have c33b0 : decide (0 ≤ (ji32)) = true := decide_eq_true c33
                  clear c33
                  by_cases c34 : (ji32) < (a1.size : Int)
                  · rw [if_pos c34] at H
                    have c34b0 : decide ((ji32) < (a1.size : Int)) = true := decide_eq_true c34
                    clear c34
                    by_cases c37 : (bt a1 (ji32)) < (bt a1 (ji4))
                    · rw [if_pos c37] at H
                      have c37b0 : decide ((bt a1 (ji32)) < (bt a1 (ji4))) = true := decide_eq_true c37
                      clear c37
                      obtain rfl := Option.some.inj H
                      have p7 : 0 ≤ ((ji4) : Int) := of_decide_eq_true (by first | (with_reducible assumption) | assumption)
                      have q7 : (ji4) < (a1.size : Int) := of_decide_eq_true (by first | (with_reducible assumption) | assumption)
                      have hx7 := bt_at a1 (ji4)
                      replace p7 := eq_true p7
                      replace q7 := eq_true q7
                      have p35 : 0 ≤ ((ji32) : Int) := of_decide_eq_true (by first | (with_reducible assumption) | assumption)
                      have q35 : (ji32) < (a1.size : Int) := of_decide_eq_true (by first | (with_reducible assumption) | assumption)
                      have hx35 := bt_at a1 (ji32)
                      replace p35 := eq_true p35
                      replace q35 := eq_true q35
                      have p36 : 0 ≤ ((ji4) : Int) := of_decide_eq_true (by first | (with_reducible assumption) | assumption)
                      have q36 : (ji4) < (a1.size : Int) := of_decide_eq_true (by first | (with_reducible assumption) | assumption)
                      have hx36 := bt_at a1 (ji4)
                      replace p36 := eq_true p36
                      replace q36 := eq_true q36
                      go_enter Tryd.func16, Tryd.ntmps16
                      go_wp2
                      repeat (go_quiet (fail); try go_wp2)
                      go_ret
                      exact ⟨by first | rfl | (simp; done) | (simp only [← hji4, ← hji32] <;> (first | rfl | simp)) | (simp [*]; done), by repeat (first | exact Drawn0.refl _ | apply Drawn0.step)⟩
                    · rw [if_neg c37] at H
                      have c37b0 : decide ((bt a1 (ji32)) < (bt a1 (ji4))) = false := decide_eq_false c37
                      clear c37
                      obtain rfl := Option.some.inj H
                      have p7 : 0 ≤ ((ji4) : Int) := of_decide_eq_true (by first | (with_reducible assumption) | assumption)
                      have q7 : (ji4) < (a1.size : Int) := of_decide_eq_true (by first | (with_reducible assumption) | assumption)
                      have hx7 := bt_at a1 (ji4)
                      replace p7 := eq_true p7
                      replace q7 := eq_true q7
                      have p35 : 0 ≤ ((ji32) : Int) := of_decide_eq_true (by first | (with_reducible assumption) | assumption)
                      have q35 : (ji32) < (a1.size : Int) := of_decide_eq_true (by first | (with_reducible assumption) | assumption)
                      have hx35 := bt_at a1 (ji32)
                      replace p35 := eq_true p35
                      replace q35 := eq_true q35
                      have p36 : 0 ≤ ((ji4) : Int) := of_decide_eq_true (by first | (with_reducible assumption) | assumption)
                      have q36 : (ji4) < (a1.size : Int) := of_decide_eq_true (by first | (with_reducible assumption) | assumption)
                      have hx36 := bt_at a1 (ji4)
                      replace p36 := eq_true p36
                      replace q36 := eq_true q36
                      go_enter Tryd.func16, Tryd.ntmps16
                      go_wp2
                      repeat (go_quiet (fail); try go_wp2)
                      go_ret
                      exact ⟨by first | rfl | (simp; done) | (simp only [← hji4, ← hji32] <;> (first | rfl | simp)) | (simp [*]; done), by repeat (first | exact Drawn0.refl _ | apply Drawn0.step)⟩
                  · rw [if_neg c34] at H
                    exact absurd H (by simp)
                · rw [if_neg c33] at H
                  exact absurd H (by simp)
            · rw [if_neg c30] at H
              have c30b0 : (a0 == 114) = false := beq_eq_false_iff_ne.mpr c30
              have c30b1 : (a0 != 114) = true := bne_iff_ne.mpr c30
              by_cases c38 : a0 = 102
              · rw [if_pos c38] at H
                have c38b0 : (a0 == 102) = true := beq_iff_eq.mpr c38
                have c38b1 : (a0 != 102) = false := bne_eq_false_iff_eq.mpr c38
                clear c38
                by_cases c39 : (ji4) = 0
                · rw [if_pos c39] at H
                  have c39b0 : ((ji4) == 0) = true := beq_iff_eq.mpr c39
                  have c39b1 : ((ji4) != 0) = false := bne_eq_false_iff_eq.mpr c39
                  clear c39
                  obtain rfl := Option.some.inj H
                  have p7 : 0 ≤ ((ji4) : Int) := of_decide_eq_true (by first | (with_reducible assumption) | assumption)
                  have q7 : (ji4) < (a1.size : Int) := of_decide_eq_true (by first | (with_reducible assumption) | assumption)
                  have hx7 := bt_at a1 (ji4)
                  replace p7 := eq_true p7
                  replace q7 := eq_true q7
                  go_enter Tryd.func16, Tryd.ntmps16
                  go_wp2
                  repeat (go_quiet (fail); try go_wp2)
                  go_ret
                  exact ⟨by first | rfl | (simp; done) | (simp only [← hji4] <;> (first | rfl | simp)) | (simp [*]; done), by repeat (first | exact Drawn0.refl _ | apply Drawn0.step)⟩
                · rw [if_neg c39] at H
                  have c39b0 : ((ji4) == 0) = false := beq_eq_false_iff_ne.mpr c39
                  have c39b1 : ((ji4) != 0) = true := bne_iff_ne.mpr c39
                  try clear hji32w
                  obtain ⟨ji40, hji40⟩ : ∃ j_ : Int, (wrap64 ((ji4) - 1)) = j_ := ⟨_, rfl⟩
                  replace H : (if 0 ≤ (ji40) then (if (ji40) < (a1.size : Int) then (if (bt a1 (ji40)) > (bt a1 (ji4)) then (some (decide ((((bt a1 (ji4)) - 48) % 256) ≥ (wrap64 (a2 - (a1.size : Int)))))) else (some false)) else (none)) else (none)) = some r := by first | (rw [hji40] at H; exact H) | (simp only [hji40] at H ⊢; exact H)
                  have hji40w : (IntKind.i64.wrap ((ji4) - 1)) = ji40 := (i64_w _).trans hji40
                  by_cases c41 : 0 ≤ (ji40)
                  · rw [if_pos c41] at H
                    have c41b0 : decide (0 ≤ (ji40)) = true := decide_eq_true c41
                    clear c41
                    by_cases c42 : (ji40) < (a1.size : Int)
                    · rw [if_pos c42] at H
                      have c42b0 : decide ((ji40) < (a1.size : Int)) = true := decide_eq_true c42
                      clear c42
                      by_cases c45 : (bt a1 (ji40)) > (bt a1 (ji4))
                      · rw [if_pos c45] at H
                        have c45b0 : decide ((bt a1 (ji4)) < (bt a1 (ji40))) = true := decide_eq_true c45
                        clear c45
                        obtain rfl := Option.some.inj H
                        have p7 : 0 ≤ ((ji4) : Int) := of_decide_eq_true (by first | (with_reducible assumption) | assumption)
                        have q7 : (ji4) < (a1.size : Int) := of_decide_eq_true (by first | (with_reducible assumption) | assumption)
                        have hx7 := bt_at a1 (ji4)
                        replace p7 := eq_true p7
                        replace q7 := eq_true q7
                        have p43 : 0 ≤ ((ji40) : Int) := of_decide_eq_true (by first | (with_reducible assumption) | assumption)
                        have q43 : (ji40) < (a1.size : Int) := of_decide_eq_true (by first | (with_reducible assumption) | assumption)
                        have hx43 := bt_at a1 (ji40)
                        replace p43 := eq_true p43
                        replace q43 := eq_true q43
                        have p44 : 0 ≤ ((ji4) : Int) := of_decide_eq_true (by first | (with_reducible assumption) | assumption)
                        have q44 : (ji4) < (a1.size : Int) := of_decide_eq_true (by first | (with_reducible assumption) | assumption)
                        have hx44 := bt_at a1 (ji4)
                        replace p44 := eq_true p44
                        replace q44 := eq_true q44
                        go_enter Tryd.func16, Tryd.ntmps16
                        go_wp2
                        repeat (go_quiet (fail); try go_wp2)
                        go_ret
                        exact ⟨by first | rfl | (simp; done) | (simp only [← hji4, ← hji40] <;> (first | rfl | simp)) | (simp [*]; done), by repeat (first | exact Drawn0.refl _ | apply Drawn0.step)⟩
                      · rw [if_neg c45] at H
                        have c45b0 : decide ((bt a1 (ji4)) < (bt a1 (ji40))) = false := decide_eq_false c45
                        clear c45
                        obtain rfl := Option.some.inj H
                        have p7 : 0 ≤ ((ji4) : Int) := of_decide_eq_true (by first | (with_reducible assumption) | assumption)
                        have q7 : (ji4) < (a1.size : Int) := of_decide_eq_true (by first | (with_reducible assumption) | assumption)
                        have hx7 := bt_at a1 (ji4)
                        replace p7 := eq_true p7
                        replace q7 := eq_true q7
                        have p43 : 0 ≤ ((ji40) : Int) := of_decide_eq_true (by first | (with_reducible assumption) | assumption)
                        have q43 : (ji40) < (a1.size : Int) := of_decide_eq_true (by first | (with_reducible assumption) | assumption)
                        have hx43 := bt_at a1 (ji40)
                        replace p43 := eq_true p43
                        replace q43 := eq_true q43
                        have p44 : 0 ≤ ((ji4) : Int) := of_decide_eq_true (by first | (with_reducible assumption) | assumption)
                        have q44 : (ji4) < (a1.size : Int) := of_decide_eq_true (by first | (with_reducible assumption) | assumption)
                        have hx44 := bt_at a1 (ji4)
                        replace p44 := eq_true p44
                        replace q44 := eq_true q44
                        go_enter Tryd.func16, Tryd.ntmps16
                        go_wp2
                        repeat (go_quiet (fail); try go_wp2)
                        go_ret
                        exact ⟨by first | rfl | (simp; done) | (simp only [← hji4, ← hji40] <;> (first | rfl | simp)) | (simp [*]; done), by repeat (first | exact Drawn0.refl _ | apply Drawn0.step)⟩
                    · rw [if_neg c42] at H
                      exact absurd H (by simp)
                  · rw [if_neg c41] at H
                    exact absurd H (by simp)
              · rw [if_neg c38] at H
                have c38b0 : (a0 == 102) = false := beq_eq_false_iff_ne.mpr c38
                have c38b1 : (a0 != 102) = true := bne_iff_ne.mpr c38
                have c46b0 := eq_true (of_decide_eq_true (by first | (with_reducible assumption) | assumption) : 0 ≤ (ji4))
                by_cases c47 : (ji4) ≤ (a1.size : Int)
                · rw [if_pos c47] at H
                  have c47b0 := eq_true c47
                  have c47b1 : decide ((ji4) ≤ (a1.size : Int)) = true := decide_eq_true c47
                  clear c47
                  replace H := Option.bind_eq_some_iff.mp H
                  obtain ⟨t103, A490, H⟩ := H
                  replace H : (some (decide (t103 < 0))) = some r := H
                  have A49 := Aside0.mk A490
                  clear A490
                  obtain rfl := Option.some.inj H
                  have p7 : 0 ≤ ((ji4) : Int) := of_decide_eq_true (by first | (with_reducible assumption) | assumption)
                  have q7 : (ji4) < (a1.size : Int) := of_decide_eq_true (by first | (with_reducible assumption) | assumption)
                  have hx7 := bt_at a1 (ji4)
                  replace p7 := eq_true p7
                  replace q7 := eq_true q7
                  have p48 : 0 ≤ ((ji4) : Int) := of_decide_eq_true (by first | (with_reducible assumption) | assumption)
                  have q48 : (ji4) < (a1.size : Int) := of_decide_eq_true (by first | (with_reducible assumption) | assumption)
                  have hx48 := bt_at a1 (ji4)
                  replace p48 := eq_true p48
                  replace q48 := eq_true q48
                  go_enter Tryd.func16, Tryd.ntmps16
                  go_wp2_with (first | (go_at_call 32; (with_reducible refine (strings_IndexByte.calls (a1.extract 0 ((ji4) : Int).toNat) (bt a1 (ji4)) t103 _ A49.out).mono ?_); rintro e w' ⟨rfl, ⟨nd, rfl⟩⟩; (try first | exact ⟨rfl, _, World.drewN_drewN _ _ _⟩ | exact ⟨rfl, _, Eq.trans (World.drewN_drewN _ _ _) (congrArg (World.drewN _) (Nat.add_assoc _ _ _))⟩)))
                  repeat (go_quiet (first | (go_at_call 32; (with_reducible refine (strings_IndexByte.calls (a1.extract 0 ((ji4) : Int).toNat) (bt a1 (ji4)) t103 _ A49.out).mono ?_); rintro e w' ⟨rfl, ⟨nd, rfl⟩⟩; (try first | exact ⟨rfl, _, World.drewN_drewN _ _ _⟩ | exact ⟨rfl, _, Eq.trans (World.drewN_drewN _ _ _) (congrArg (World.drewN _) (Nat.add_assoc _ _ _))⟩))); try go_wp2_with (first | (go_at_call 32; (with_reducible refine (strings_IndexByte.calls (a1.extract 0 ((ji4) : Int).toNat) (bt a1 (ji4)) t103 _ A49.out).mono ?_); rintro e w' ⟨rfl, ⟨nd, rfl⟩⟩; (try first | exact ⟨rfl, _, World.drewN_drewN _ _ _⟩ | exact ⟨rfl, _, Eq.trans (World.drewN_drewN _ _ _) (congrArg (World.drewN _) (Nat.add_assoc _ _ _))⟩))))
                  go_ret
                  exact ⟨by first | rfl | (simp; done) | (simp only [← hji4] <;> (first | rfl | simp)) | (simp [*]; done), by repeat (first | exact Drawn0.refl _ | apply Drawn0.step)⟩
                · rw [if_neg c47] at H
                  exact absurd H (by simp)
    · rw [if_neg c6] at H
      exact absurd H (by simp)
  · rw [if_neg c5] at H
    exact absurd H (by simp)

/-- THE ONE PURE STATEMENT of impl_may: yours. -/
def impl_may.Pure : Prop := ∀ (a0 : Int) (a1 : ByteArray) (a2 : Int), (Lit.int .u8 a0).wf = true → a1.size ≤ 140737488351232 → (Lit.int .i64 a2).wf = true → ∃ k, impl_may.f k a0 a1 a2 = some true
theorem impl_may.walk (P : impl_may.Pure) (a0 : Int) (a1 : ByteArray) (a2 : Int) (w : World) (w0 : (Lit.int .u8 a0).wf = true) (w1 : a1.size ≤ 140737488351232) (w2 : (Lit.int .i64 a2).wf = true) :
    Calls Tryd.prog 16 #[.int .u8 a0, .string a1, .int .i64 a2] w fun e w' => e = .returned (.bool true) ∧ Below w.heap.size w w' := by
  obtain ⟨k, h⟩ := P a0 a1 a2 w0 w1 w2
  refine (impl_may.calls k a0 a1 a2 true w h).mono ?_
  rintro e w' ⟨rfl, hd⟩
  exact ⟨rfl, hd.below⟩

end Go.Proofs.YtkbbmkbkpkmdkacDoor.QA1
