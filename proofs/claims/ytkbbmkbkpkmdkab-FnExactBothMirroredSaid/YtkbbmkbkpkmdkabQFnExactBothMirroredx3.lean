/- What the functions that the law reaches do, each told as a plain Lean function, and proved. No condition beyond each theorem's own. Told by a program of this session out of the translation's own print. -/
import Derived.Test.YtkbbmkbkpkmdkabQFnExactBothMirroredx0
import Derived.Test.YtkbbmkbkpkmdkabQFnExactBothMirroredx2
namespace Go.Proofs.Ytkbbmkbkpkmdkab.QFnExactBothMirrored
open Go.RowKit Go.Proofs.YtkbbmkbkpkmdkabW.PrintWords Go.Proofs.YtkbbmkbkpkmdkabW.PrintLast Go.Proofs.YtkbbmkbkpkmdkabW.PrintMore Go.Proofs.Ytkbbmkbkpkmdkab.Ext Go.Proofs.Ytkbbmkbkpkmdkab.Ext Go.Proofs.Ytkbbmkbkpkmdkab.Ext
attribute [local go_sem] max2_int min2_int max_two min_two max_three min_three max_four min_four   -- for this text's walks alone
set_option linter.unusedVariables false
set_option linter.unusedSimpArgs false

/-! ### spec_miCan: function 65 -/
mutual
def spec_miCan.l0 : Nat → Int → ByteArray → ByteArray → Int → Int → Option (Bool)
  | 0, _, _, _, _, _ => none
  | k + 1, x0, x1, x2, x7, x8 => if x8 < x7 then (if 0 ≤ x8 then (if x8 ≤ (wrap64 (x8 + 1)) then (if (wrap64 (x8 + 1)) ≤ (x1.size : Int) then (if x2.toList = ([117] : List UInt8) then ((spec_miUpside.f k (x1.extract (x8 : Int).toNat ((wrap64 (x8 + 1)) : Int).toNat)).bind fun bt123 => (if bt123.2 = true then (if (wrap64 ((wrap64 (2 * x8)) + 1)) = x0 then (spec_miCan.j1 k x0 x1 x2 x7 x8 bt123.1 (bt123.1.toList != (x1.extract (x8 : Int).toNat ((wrap64 (x8 + 1)) : Int).toNat).toList)) else (spec_miCan.j1 k x0 x1 x2 x7 x8 bt123.1 false)) else (spec_miCan.j1 k x0 x1 x2 x7 x8 bt123.1 true))) else (if (wrap64 ((wrap64 (x0 - 1)) - x8)) < x7 then (if 0 ≤ (wrap64 ((wrap64 (x0 - 1)) - x8)) then (if (wrap64 ((wrap64 (x0 - 1)) - x8)) ≤ (wrap64 ((wrap64 ((wrap64 (x0 - 1)) - x8)) + 1)) then (if (wrap64 ((wrap64 ((wrap64 (x0 - 1)) - x8)) + 1)) ≤ (x1.size : Int) then (if (x1.extract ((wrap64 ((wrap64 (x0 - 1)) - x8)) : Int).toNat ((wrap64 ((wrap64 ((wrap64 (x0 - 1)) - x8)) + 1)) : Int).toNat).toList = (x1.extract (x8 : Int).toNat ((wrap64 (x8 + 1)) : Int).toNat).toList then (spec_miCan.l0 k x0 x1 x2 x7 (wrap64 (x8 + 1))) else (some false)) else (none)) else (none)) else (none)) else (spec_miCan.l0 k x0 x1 x2 x7 (wrap64 (x8 + 1))))) else (none)) else (none)) else (none)) else (some true)
def spec_miCan.j1 : Nat → Int → ByteArray → ByteArray → Int → Int → ByteArray → Bool → Option (Bool)
  | 0, _, _, _, _, _, _, _ => none
  | k + 1, x0, x1, x2, x7, x8, x10, x104 => if x104 = true then (some false) else (if (wrap64 ((wrap64 (x0 - 1)) - x8)) < x7 then (if 0 ≤ (wrap64 ((wrap64 (x0 - 1)) - x8)) then (if (wrap64 ((wrap64 (x0 - 1)) - x8)) ≤ (wrap64 ((wrap64 ((wrap64 (x0 - 1)) - x8)) + 1)) then (if (wrap64 ((wrap64 ((wrap64 (x0 - 1)) - x8)) + 1)) ≤ (x1.size : Int) then (if (x1.extract ((wrap64 ((wrap64 (x0 - 1)) - x8)) : Int).toNat ((wrap64 ((wrap64 ((wrap64 (x0 - 1)) - x8)) + 1)) : Int).toNat).toList = x10.toList then (spec_miCan.l0 k x0 x1 x2 x7 (wrap64 (x8 + 1))) else (some false)) else (none)) else (none)) else (none)) else (spec_miCan.l0 k x0 x1 x2 x7 (wrap64 (x8 + 1))))
end
def spec_miCan.f (k : Nat) (a0 : Int) (a1 : ByteArray) (a2 : ByteArray) : Option (Bool) := if (a1.size : Int) = a0 then ((spec_miIs.f k a1 a2).bind fun t118 => (some t118)) else (if a2.toList = ([97] : List UInt8) then ((spec_miDigits.f k a1).bind fun t119 => (some (decide (t119 ≤ 1)))) else (if a2.toList = ([100] : List UInt8) then ((spec_miDigits.f k a1).bind fun t120 => (some (t120 == (a1.size : Int)))) else (if a2.toList = ([114] : List UInt8) then ((spec_miIs.f k a1 (⟨#[114]⟩ : ByteArray)).bind fun t121 => (if t121 = true then (if (a1.size : Int) = 0 then (some true) else (if 0 ≤ (wrap64 ((a1.size : Int) - 1)) then (if (wrap64 ((a1.size : Int) - 1)) < (a1.size : Int) then (some (decide (((57 - (bt a1 (wrap64 ((a1.size : Int) - 1)))) % 256) ≥ (wrap64 (a0 - (a1.size : Int)))))) else (none)) else (none))) else (some false))) else (if a2.toList = ([102] : List UInt8) then ((spec_miIs.f k a1 (⟨#[102]⟩ : ByteArray)).bind fun t122 => (if t122 = true then (if (a1.size : Int) = 0 then (some true) else (if 0 ≤ (wrap64 ((a1.size : Int) - 1)) then (if (wrap64 ((a1.size : Int) - 1)) < (a1.size : Int) then (some (decide ((((bt a1 (wrap64 ((a1.size : Int) - 1))) - 48) % 256) ≥ (wrap64 (a0 - (a1.size : Int)))))) else (none)) else (none))) else (some false))) else (spec_miCan.l0 k a0 a1 a2 (a1.size : Int) 0)))))
theorem spec_miCan.mono_l : ∀ k, (∀ y0 y1 y2 y3 y4, LeO (spec_miCan.l0 k y0 y1 y2 y3 y4) (spec_miCan.l0 (k + 1) y0 y1 y2 y3 y4)) ∧ (∀ y0 y1 y2 y3 y4 y5 y6, LeO (spec_miCan.j1 k y0 y1 y2 y3 y4 y5 y6) (spec_miCan.j1 (k + 1) y0 y1 y2 y3 y4 y5 y6))
  | 0 => ⟨fun _ _ _ _ _ r h => by simp [spec_miCan.l0] at h, fun _ _ _ _ _ _ _ r h => by simp [spec_miCan.j1] at h⟩
  | k + 1 => by
    obtain ⟨ih0, ih1⟩ := spec_miCan.mono_l k
    refine ⟨?_, ?_⟩
    · intro y0 y1 y2 y3 y4
      unfold spec_miCan.l0
      repeat' first
      | (with_reducible exact ih0 _ _ _ _ _)
      | (with_reducible exact ih1 _ _ _ _ _ _ _)
      | (with_reducible exact spec_miDigits.mono _ _)
      | (with_reducible exact spec_miIs.mono _ _ _)
      | (with_reducible exact spec_miUpside.mono _ _)
      | (with_reducible exact LeO.refl _)
      | (with_reducible exact LeO.none _)
      | (with_reducible refine LeO.ite ?_ ?_)
      | (with_reducible refine LeO.bind ?_ (fun _ => ?_))
      | exact ih0 _ _ _ _ _
      | exact ih1 _ _ _ _ _ _ _
      | exact spec_miDigits.mono _ _
      | exact spec_miIs.mono _ _ _
      | exact spec_miUpside.mono _ _
      | exact LeO.none _
      | refine LeO.ite ?_ ?_
      | refine LeO.bind ?_ (fun _ => ?_)
    · intro y0 y1 y2 y3 y4 y5 y6
      unfold spec_miCan.j1
      repeat' first
      | (with_reducible exact ih0 _ _ _ _ _)
      | (with_reducible exact ih1 _ _ _ _ _ _ _)
      | (with_reducible exact spec_miDigits.mono _ _)
      | (with_reducible exact spec_miIs.mono _ _ _)
      | (with_reducible exact spec_miUpside.mono _ _)
      | (with_reducible exact LeO.refl _)
      | (with_reducible exact LeO.none _)
      | (with_reducible refine LeO.ite ?_ ?_)
      | (with_reducible refine LeO.bind ?_ (fun _ => ?_))
      | exact ih0 _ _ _ _ _
      | exact ih1 _ _ _ _ _ _ _
      | exact spec_miDigits.mono _ _
      | exact spec_miIs.mono _ _ _
      | exact spec_miUpside.mono _ _
      | exact LeO.none _
      | refine LeO.ite ?_ ?_
      | refine LeO.bind ?_ (fun _ => ?_)
theorem spec_miCan.mono : ∀ a0 a1 a2 k, LeO (spec_miCan.f k a0 a1 a2) (spec_miCan.f (k + 1) a0 a1 a2) := by
  intro a0 a1 a2 k
  obtain ⟨ih0, ih1⟩ := spec_miCan.mono_l k
  unfold spec_miCan.f
  repeat' first
      | (with_reducible exact ih0 _ _ _ _ _)
      | (with_reducible exact ih1 _ _ _ _ _ _ _)
      | (with_reducible exact spec_miDigits.mono _ _)
      | (with_reducible exact spec_miIs.mono _ _ _)
      | (with_reducible exact spec_miUpside.mono _ _)
      | (with_reducible exact LeO.refl _)
      | (with_reducible exact LeO.none _)
      | (with_reducible refine LeO.ite ?_ ?_)
      | (with_reducible refine LeO.bind ?_ (fun _ => ?_))
      | exact ih0 _ _ _ _ _
      | exact ih1 _ _ _ _ _ _ _
      | exact spec_miDigits.mono _ _
      | exact spec_miIs.mono _ _ _
      | exact spec_miUpside.mono _ _
      | exact LeO.none _
      | refine LeO.ite ?_ ?_
      | refine LeO.bind ?_ (fun _ => ?_)
set_option maxHeartbeats 8000000 in
set_option maxRecDepth 100000 in
theorem spec_miCan.calls (k : Nat) (a0 : Int) (a1 : ByteArray) (a2 : ByteArray) (r : Bool) (w : World) (h : spec_miCan.f k a0 a1 a2 = some r) :
    Calls Try.prog 65 #[.int .i64 a0, .string a1, .string a2] w fun e w' => e = .returned (.bool r) ∧ Below w.heap.size w w' := by
  have HB := Aside0.mk (Below.refl w.heap.size w)
  have H : (if (a1.size : Int) = a0 then ((spec_miIs.f k a1 a2).bind fun t118 => (some t118)) else (if a2.toList = ([97] : List UInt8) then ((spec_miDigits.f k a1).bind fun t119 => (some (decide (t119 ≤ 1)))) else (if a2.toList = ([100] : List UInt8) then ((spec_miDigits.f k a1).bind fun t120 => (some (t120 == (a1.size : Int)))) else (if a2.toList = ([114] : List UInt8) then ((spec_miIs.f k a1 (⟨#[114]⟩ : ByteArray)).bind fun t121 => (if t121 = true then (if (a1.size : Int) = 0 then (some true) else (if 0 ≤ (wrap64 ((a1.size : Int) - 1)) then (if (wrap64 ((a1.size : Int) - 1)) < (a1.size : Int) then (some (decide (((57 - (bt a1 (wrap64 ((a1.size : Int) - 1)))) % 256) ≥ (wrap64 (a0 - (a1.size : Int)))))) else (none)) else (none))) else (some false))) else (if a2.toList = ([102] : List UInt8) then ((spec_miIs.f k a1 (⟨#[102]⟩ : ByteArray)).bind fun t122 => (if t122 = true then (if (a1.size : Int) = 0 then (some true) else (if 0 ≤ (wrap64 ((a1.size : Int) - 1)) then (if (wrap64 ((a1.size : Int) - 1)) < (a1.size : Int) then (some (decide ((((bt a1 (wrap64 ((a1.size : Int) - 1))) - 48) % 256) ≥ (wrap64 (a0 - (a1.size : Int)))))) else (none)) else (none))) else (some false))) else (spec_miCan.l0 k a0 a1 a2 (a1.size : Int) 0)))))) = some r := h
  clear h
  by_cases c4 : (a1.size : Int) = a0
  · rw [if_pos c4] at H
    have c4b0 : ((a1.size : Int) == a0) = true := beq_iff_eq.mpr c4
    have c4b1 : ((a1.size : Int) != a0) = false := bne_eq_false_iff_eq.mpr c4
    clear c4
    replace H := Option.bind_eq_some_iff.mp H
    obtain ⟨t118, A50, H⟩ := H
    replace H : (some t118) = some r := H
    have A5 := Aside0.mk A50
    clear A50
    obtain rfl := Option.some.inj H
    go_enter Try.func65, Try.ntmps65
    go_wp2_with (first | ((with_reducible refine gate_callee (f := 43) rfl ?_); refine goesL_ (some 19) rfl rfl Try.func43 (by kernel_rfl) rfl #[.string a1, .string a2] rfl (by (try simp only [List.map_toArray, List.map_cons, List.map_nil]); first | done | rfl | (simp only [List.length_drop, List.length_take]; rfl)) ?_; (with_reducible refine (spec_miIs.calls k a1 a2 t118 _ A5.out).mono ?_); rintro e w6 ⟨rfl, hb⟩; refine ⟨_, rfl, ?_⟩; have n0_ := Aside0.mk (below_step (by repeat (first | (with_reducible first | exact HB.out | apply below_alloc | apply pw_below_drewN | apply below_drew1) | exact HB.out)) hb); clear HB; have HB := n0_; clear n0_; (try clear hb); (try clear hb2); (try clear hk); (try clear hi)))
    go_ret
    exact ⟨by first | rfl | (simp [errW_none, errW_some] <;> rfl) | (simp [*, errW_none, errW_some] <;> rfl), by repeat (first | (with_reducible first | exact HB.out | apply below_alloc | apply pw_below_drewN | apply below_drew1) | exact HB.out)⟩
  · rw [if_neg c4] at H
    have c4b0 : ((a1.size : Int) == a0) = false := beq_eq_false_iff_ne.mpr c4
    have c4b1 : ((a1.size : Int) != a0) = true := bne_iff_ne.mpr c4
    by_cases c7 : a2.toList = ([97] : List UInt8)
    · rw [if_pos c7] at H
      have c7b0 : (a2.toList == ([97] : List UInt8)) = true := beq_iff_eq.mpr c7
      have c7b1 : (a2.toList != ([97] : List UInt8)) = false := bne_eq_false_iff_eq.mpr c7
      clear c7
      replace H := Option.bind_eq_some_iff.mp H
      obtain ⟨t119, A80, H⟩ := H
      replace H : (some (decide (t119 ≤ 1))) = some r := H
      have A8 := Aside0.mk A80
      clear A80
      obtain rfl := Option.some.inj H
      go_enter Try.func65, Try.ntmps65
      go_wp2_with (first | ((with_reducible refine gate_callee (f := 22) rfl ?_); refine goesL_ (some 26) rfl rfl Try.func22 (by kernel_rfl) rfl #[.string a1] rfl (by (try simp only [List.map_toArray, List.map_cons, List.map_nil]); first | done | rfl | (simp only [List.length_drop, List.length_take]; rfl)) ?_; (with_reducible refine (spec_miDigits.calls k a1 t119 _ A8.out).mono ?_); rintro e w9 ⟨rfl, hb⟩; refine ⟨_, rfl, ?_⟩; have n0_ := Aside0.mk (below_step (by repeat (first | (with_reducible first | exact HB.out | apply below_alloc | apply pw_below_drewN | apply below_drew1) | exact HB.out)) hb); clear HB; have HB := n0_; clear n0_; (try clear hb); (try clear hb2); (try clear hk); (try clear hi)))
      go_ret
      exact ⟨by first | rfl | (simp [errW_none, errW_some] <;> rfl) | (simp [*, errW_none, errW_some] <;> rfl), by repeat (first | (with_reducible first | exact HB.out | apply below_alloc | apply pw_below_drewN | apply below_drew1) | exact HB.out)⟩
    · rw [if_neg c7] at H
      have c7b0 : (a2.toList == ([97] : List UInt8)) = false := beq_eq_false_iff_ne.mpr c7
      have c7b1 : (a2.toList != ([97] : List UInt8)) = true := bne_iff_ne.mpr c7
      by_cases c10 : a2.toList = ([100] : List UInt8)
      · rw [if_pos c10] at H
        have c10b0 : (a2.toList == ([100] : List UInt8)) = true := beq_iff_eq.mpr c10
        have c10b1 : (a2.toList != ([100] : List UInt8)) = false := bne_eq_false_iff_eq.mpr c10
        clear c10
        replace H := Option.bind_eq_some_iff.mp H
        obtain ⟨t120, A110, H⟩ := H
        replace H : (some (t120 == (a1.size : Int))) = some r := H
        have A11 := Aside0.mk A110
        clear A110
        obtain rfl := Option.some.inj H
        go_enter Try.func65, Try.ntmps65
        go_wp2_with (first | ((with_reducible refine gate_callee (f := 22) rfl ?_); refine goesL_ (some 31) rfl rfl Try.func22 (by kernel_rfl) rfl #[.string a1] rfl (by (try simp only [List.map_toArray, List.map_cons, List.map_nil]); first | done | rfl | (simp only [List.length_drop, List.length_take]; rfl)) ?_; (with_reducible refine (spec_miDigits.calls k a1 t120 _ A11.out).mono ?_); rintro e w12 ⟨rfl, hb⟩; refine ⟨_, rfl, ?_⟩; have n0_ := Aside0.mk (below_step (by repeat (first | (with_reducible first | exact HB.out | apply below_alloc | apply pw_below_drewN | apply below_drew1) | exact HB.out)) hb); clear HB; have HB := n0_; clear n0_; (try clear hb); (try clear hb2); (try clear hk); (try clear hi)))
        go_ret
        exact ⟨by first | rfl | (simp [errW_none, errW_some] <;> rfl) | (simp [*, errW_none, errW_some] <;> rfl), by repeat (first | (with_reducible first | exact HB.out | apply below_alloc | apply pw_below_drewN | apply below_drew1) | exact HB.out)⟩
      · rw [if_neg c10] at H
        have c10b0 : (a2.toList == ([100] : List UInt8)) = false := beq_eq_false_iff_ne.mpr c10
        have c10b1 : (a2.toList != ([100] : List UInt8)) = true := bne_iff_ne.mpr c10
        by_cases c13 : a2.toList = ([114] : List UInt8)
        · rw [if_pos c13] at H
          have c13b0 : (a2.toList == ([114] : List UInt8)) = true := beq_iff_eq.mpr c13
          have c13b1 : (a2.toList != ([114] : List UInt8)) = false := bne_eq_false_iff_eq.mpr c13
          clear c13
          replace H := Option.bind_eq_some_iff.mp H
          obtain ⟨t121, A140, H⟩ := H
          replace H : (if t121 = true then (if (a1.size : Int) = 0 then (some true) else (if 0 ≤ (wrap64 ((a1.size : Int) - 1)) then (if (wrap64 ((a1.size : Int) - 1)) < (a1.size : Int) then (some (decide (((57 - (bt a1 (wrap64 ((a1.size : Int) - 1)))) % 256) ≥ (wrap64 (a0 - (a1.size : Int)))))) else (none)) else (none))) else (some false)) = some r := H
          have A14 := Aside0.mk A140
          clear A140
          by_cases c15 : t121 = true
          · subst c15
            have H1 : (if (a1.size : Int) = 0 then (some true) else (if 0 ≤ (wrap64 ((a1.size : Int) - 1)) then (if (wrap64 ((a1.size : Int) - 1)) < (a1.size : Int) then (some (decide (((57 - (bt a1 (wrap64 ((a1.size : Int) - 1)))) % 256) ≥ (wrap64 (a0 - (a1.size : Int)))))) else (none)) else (none))) = some r := by rw [if_pos rfl] at H; exact H
            clear H
            have H := H1
            clear H1
            by_cases c16 : (a1.size : Int) = 0
            · rw [if_pos c16] at H
              have c16b0 : ((a1.size : Int) == 0) = true := beq_iff_eq.mpr c16
              have c16b1 : ((a1.size : Int) != 0) = false := bne_eq_false_iff_eq.mpr c16
              clear c16
              obtain rfl := Option.some.inj H
              go_enter Try.func65, Try.ntmps65
              go_wp2_with (first | ((with_reducible refine gate_callee (f := 43) rfl ?_); refine goesL_ (some 37) rfl rfl Try.func43 (by kernel_rfl) rfl #[.string a1, .string (⟨#[114]⟩ : ByteArray)] rfl (by (try simp only [List.map_toArray, List.map_cons, List.map_nil]); first | done | rfl | (simp only [List.length_drop, List.length_take]; rfl)) ?_; (with_reducible refine (spec_miIs.calls k a1 (⟨#[114]⟩ : ByteArray) true _ A14.out).mono ?_); rintro e w17 ⟨rfl, hb⟩; refine ⟨_, rfl, ?_⟩; have n0_ := Aside0.mk (below_step (by repeat (first | (with_reducible first | exact HB.out | apply below_alloc | apply pw_below_drewN | apply below_drew1) | exact HB.out)) hb); clear HB; have HB := n0_; clear n0_; (try clear hb); (try clear hb2); (try clear hk); (try clear hi)))
              go_ret
              exact ⟨by first | rfl | (simp [errW_none, errW_some] <;> rfl) | (simp [*, errW_none, errW_some] <;> rfl), by repeat (first | (with_reducible first | exact HB.out | apply below_alloc | apply pw_below_drewN | apply below_drew1) | exact HB.out)⟩
            · rw [if_neg c16] at H
              have c16b0 : ((a1.size : Int) == 0) = false := beq_eq_false_iff_ne.mpr c16
              have c16b1 : ((a1.size : Int) != 0) = true := bne_iff_ne.mpr c16
              obtain ⟨ji18, hji18⟩ : ∃ j_ : Int, (wrap64 ((a1.size : Int) - 1)) = j_ := ⟨_, rfl⟩
              replace H : (if 0 ≤ (ji18) then (if (ji18) < (a1.size : Int) then (some (decide (((57 - (bt a1 (ji18))) % 256) ≥ (wrap64 (a0 - (a1.size : Int)))))) else (none)) else (none)) = some r := by first | (rw [hji18] at H; exact H) | (simp only [hji18] at H ⊢; exact H)
              (try rw [hji18] at A14)
              have hji18w : (IntKind.i64.wrap ((a1.size : Int) - 1)) = ji18 := (i64_w _).trans hji18
              by_cases c19 : 0 ≤ (ji18)
              · rw [if_pos c19] at H
                have c19b0 : decide (0 ≤ (ji18)) = true := decide_eq_true c19
                clear c19
                by_cases c20 : (ji18) < (a1.size : Int)
                · rw [if_pos c20] at H
                  have c20b0 : decide ((ji18) < (a1.size : Int)) = true := decide_eq_true c20
                  clear c20
                  obtain rfl := Option.some.inj H
                  go_enter Try.func65, Try.ntmps65
                  go_wp2_with (first | ((with_reducible refine gate_callee (f := 43) rfl ?_); refine goesL_ (some 37) rfl rfl Try.func43 (by kernel_rfl) rfl #[.string a1, .string (⟨#[114]⟩ : ByteArray)] rfl (by (try simp only [List.map_toArray, List.map_cons, List.map_nil]); first | done | rfl | (simp only [List.length_drop, List.length_take]; rfl)) ?_; (with_reducible refine (spec_miIs.calls k a1 (⟨#[114]⟩ : ByteArray) true _ A14.out).mono ?_); rintro e w22 ⟨rfl, hb⟩; refine ⟨_, rfl, ?_⟩; have n0_ := Aside0.mk (below_step (by repeat (first | (with_reducible first | exact HB.out | apply below_alloc | apply pw_below_drewN | apply below_drew1) | exact HB.out)) hb); clear HB; have HB := n0_; clear n0_; (try clear hb); (try clear hb2); (try clear hk); (try clear hi); have p21 : 0 ≤ ((ji18) : Int) := of_decide_eq_true (by first | (with_reducible assumption) | assumption); have q21 : (ji18) < (a1.size : Int) := of_decide_eq_true (by first | (with_reducible assumption) | assumption); have hx21 := bt_at a1 (ji18); replace p21 := eq_true p21; replace q21 := eq_true q21))
                  go_ret
                  exact ⟨by first | rfl | (simp [errW_none, errW_some] <;> rfl) | (simp only [← hji18]; first | rfl | (simp [errW_none, errW_some] <;> rfl)) | (simp [*, errW_none, errW_some] <;> rfl), by repeat (first | (with_reducible first | exact HB.out | apply below_alloc | apply pw_below_drewN | apply below_drew1) | exact HB.out)⟩
                · rw [if_neg c20] at H
                  exact absurd H (by simp)
              · rw [if_neg c19] at H
                exact absurd H (by simp)
          · replace c15 := Bool.eq_false_iff.mpr c15
            subst c15
            have H1 : (some false) = some r := by rw [if_neg (show ¬ (false = true) by decide)] at H; exact H
            clear H
            have H := H1
            clear H1
            obtain rfl := Option.some.inj H
            go_enter Try.func65, Try.ntmps65
            go_wp2_with (first | ((with_reducible refine gate_callee (f := 43) rfl ?_); refine goesL_ (some 37) rfl rfl Try.func43 (by kernel_rfl) rfl #[.string a1, .string (⟨#[114]⟩ : ByteArray)] rfl (by (try simp only [List.map_toArray, List.map_cons, List.map_nil]); first | done | rfl | (simp only [List.length_drop, List.length_take]; rfl)) ?_; (with_reducible refine (spec_miIs.calls k a1 (⟨#[114]⟩ : ByteArray) false _ A14.out).mono ?_); rintro e w23 ⟨rfl, hb⟩; refine ⟨_, rfl, ?_⟩; have n0_ := Aside0.mk (below_step (by repeat (first | (with_reducible first | exact HB.out | apply below_alloc | apply pw_below_drewN | apply below_drew1) | exact HB.out)) hb); clear HB; have HB := n0_; clear n0_; (try clear hb); (try clear hb2); (try clear hk); (try clear hi)))
            go_ret
            exact ⟨by first | rfl | (simp [errW_none, errW_some] <;> rfl) | (simp [*, errW_none, errW_some] <;> rfl), by repeat (first | (with_reducible first | exact HB.out | apply below_alloc | apply pw_below_drewN | apply below_drew1) | exact HB.out)⟩
        · rw [if_neg c13] at H
          have c13b0 : (a2.toList == ([114] : List UInt8)) = false := beq_eq_false_iff_ne.mpr c13
          have c13b1 : (a2.toList != ([114] : List UInt8)) = true := bne_iff_ne.mpr c13
          by_cases c24 : a2.toList = ([102] : List UInt8)
          · rw [if_pos c24] at H
            have c24b0 : (a2.toList == ([102] : List UInt8)) = true := beq_iff_eq.mpr c24
            have c24b1 : (a2.toList != ([102] : List UInt8)) = false := bne_eq_false_iff_eq.mpr c24
            clear c24
            replace H := Option.bind_eq_some_iff.mp H
            obtain ⟨t122, A250, H⟩ := H
            replace H : (if t122 = true then (if (a1.size : Int) = 0 then (some true) else (if 0 ≤ (wrap64 ((a1.size : Int) - 1)) then (if (wrap64 ((a1.size : Int) - 1)) < (a1.size : Int) then (some (decide ((((bt a1 (wrap64 ((a1.size : Int) - 1))) - 48) % 256) ≥ (wrap64 (a0 - (a1.size : Int)))))) else (none)) else (none))) else (some false)) = some r := H
            have A25 := Aside0.mk A250
            clear A250
            by_cases c26 : t122 = true
            · subst c26
              have H1 : (if (a1.size : Int) = 0 then (some true) else (if 0 ≤ (wrap64 ((a1.size : Int) - 1)) then (if (wrap64 ((a1.size : Int) - 1)) < (a1.size : Int) then (some (decide ((((bt a1 (wrap64 ((a1.size : Int) - 1))) - 48) % 256) ≥ (wrap64 (a0 - (a1.size : Int)))))) else (none)) else (none))) = some r := by rw [if_pos rfl] at H; exact H
              clear H
              have H := H1
              clear H1
              by_cases c27 : (a1.size : Int) = 0
              · rw [if_pos c27] at H
                have c27b0 : ((a1.size : Int) == 0) = true := beq_iff_eq.mpr c27
                have c27b1 : ((a1.size : Int) != 0) = false := bne_eq_false_iff_eq.mpr c27
                clear c27
                obtain rfl := Option.some.inj H
                go_enter Try.func65, Try.ntmps65
                go_wp2_with (first | ((with_reducible refine gate_callee (f := 43) rfl ?_); refine goesL_ (some 57) rfl rfl Try.func43 (by kernel_rfl) rfl #[.string a1, .string (⟨#[102]⟩ : ByteArray)] rfl (by (try simp only [List.map_toArray, List.map_cons, List.map_nil]); first | done | rfl | (simp only [List.length_drop, List.length_take]; rfl)) ?_; (with_reducible refine (spec_miIs.calls k a1 (⟨#[102]⟩ : ByteArray) true _ A25.out).mono ?_); rintro e w28 ⟨rfl, hb⟩; refine ⟨_, rfl, ?_⟩; have n0_ := Aside0.mk (below_step (by repeat (first | (with_reducible first | exact HB.out | apply below_alloc | apply pw_below_drewN | apply below_drew1) | exact HB.out)) hb); clear HB; have HB := n0_; clear n0_; (try clear hb); (try clear hb2); (try clear hk); (try clear hi)))
                go_ret
                exact ⟨by first | rfl | (simp [errW_none, errW_some] <;> rfl) | (simp [*, errW_none, errW_some] <;> rfl), by repeat (first | (with_reducible first | exact HB.out | apply below_alloc | apply pw_below_drewN | apply below_drew1) | exact HB.out)⟩
              · rw [if_neg c27] at H
                have c27b0 : ((a1.size : Int) == 0) = false := beq_eq_false_iff_ne.mpr c27
                have c27b1 : ((a1.size : Int) != 0) = true := bne_iff_ne.mpr c27
                try clear hji18w
                obtain ⟨ji29, hji29⟩ : ∃ j_ : Int, (wrap64 ((a1.size : Int) - 1)) = j_ := ⟨_, rfl⟩
                replace H : (if 0 ≤ (ji29) then (if (ji29) < (a1.size : Int) then (some (decide ((((bt a1 (ji29)) - 48) % 256) ≥ (wrap64 (a0 - (a1.size : Int)))))) else (none)) else (none)) = some r := by first | (rw [hji29] at H; exact H) | (simp only [hji29] at H ⊢; exact H)
                (try rw [hji29] at A25)
                have hji29w : (IntKind.i64.wrap ((a1.size : Int) - 1)) = ji29 := (i64_w _).trans hji29
                by_cases c30 : 0 ≤ (ji29)
                · rw [if_pos c30] at H
                  have c30b0 : decide (0 ≤ (ji29)) = true := decide_eq_true c30
                  clear c30
                  by_cases c31 : (ji29) < (a1.size : Int)
                  · rw [if_pos c31] at H
                    have c31b0 : decide ((ji29) < (a1.size : Int)) = true := decide_eq_true c31
                    clear c31
                    obtain rfl := Option.some.inj H
                    go_enter Try.func65, Try.ntmps65
                    go_wp2_with (first | ((with_reducible refine gate_callee (f := 43) rfl ?_); refine goesL_ (some 57) rfl rfl Try.func43 (by kernel_rfl) rfl #[.string a1, .string (⟨#[102]⟩ : ByteArray)] rfl (by (try simp only [List.map_toArray, List.map_cons, List.map_nil]); first | done | rfl | (simp only [List.length_drop, List.length_take]; rfl)) ?_; (with_reducible refine (spec_miIs.calls k a1 (⟨#[102]⟩ : ByteArray) true _ A25.out).mono ?_); rintro e w33 ⟨rfl, hb⟩; refine ⟨_, rfl, ?_⟩; have n0_ := Aside0.mk (below_step (by repeat (first | (with_reducible first | exact HB.out | apply below_alloc | apply pw_below_drewN | apply below_drew1) | exact HB.out)) hb); clear HB; have HB := n0_; clear n0_; (try clear hb); (try clear hb2); (try clear hk); (try clear hi); have p32 : 0 ≤ ((ji29) : Int) := of_decide_eq_true (by first | (with_reducible assumption) | assumption); have q32 : (ji29) < (a1.size : Int) := of_decide_eq_true (by first | (with_reducible assumption) | assumption); have hx32 := bt_at a1 (ji29); replace p32 := eq_true p32; replace q32 := eq_true q32))
                    go_ret
                    exact ⟨by first | rfl | (simp [errW_none, errW_some] <;> rfl) | (simp only [← hji29]; first | rfl | (simp [errW_none, errW_some] <;> rfl)) | (simp [*, errW_none, errW_some] <;> rfl), by repeat (first | (with_reducible first | exact HB.out | apply below_alloc | apply pw_below_drewN | apply below_drew1) | exact HB.out)⟩
                  · rw [if_neg c31] at H
                    exact absurd H (by simp)
                · rw [if_neg c30] at H
                  exact absurd H (by simp)
            · replace c26 := Bool.eq_false_iff.mpr c26
              subst c26
              have H1 : (some false) = some r := by rw [if_neg (show ¬ (false = true) by decide)] at H; exact H
              clear H
              have H := H1
              clear H1
              obtain rfl := Option.some.inj H
              go_enter Try.func65, Try.ntmps65
              go_wp2_with (first | ((with_reducible refine gate_callee (f := 43) rfl ?_); refine goesL_ (some 57) rfl rfl Try.func43 (by kernel_rfl) rfl #[.string a1, .string (⟨#[102]⟩ : ByteArray)] rfl (by (try simp only [List.map_toArray, List.map_cons, List.map_nil]); first | done | rfl | (simp only [List.length_drop, List.length_take]; rfl)) ?_; (with_reducible refine (spec_miIs.calls k a1 (⟨#[102]⟩ : ByteArray) false _ A25.out).mono ?_); rintro e w34 ⟨rfl, hb⟩; refine ⟨_, rfl, ?_⟩; have n0_ := Aside0.mk (below_step (by repeat (first | (with_reducible first | exact HB.out | apply below_alloc | apply pw_below_drewN | apply below_drew1) | exact HB.out)) hb); clear HB; have HB := n0_; clear n0_; (try clear hb); (try clear hb2); (try clear hk); (try clear hi)))
              go_ret
              exact ⟨by first | rfl | (simp [errW_none, errW_some] <;> rfl) | (simp [*, errW_none, errW_some] <;> rfl), by repeat (first | (with_reducible first | exact HB.out | apply below_alloc | apply pw_below_drewN | apply below_drew1) | exact HB.out)⟩
          · rw [if_neg c24] at H
            have c24b0 : (a2.toList == ([102] : List UInt8)) = false := beq_eq_false_iff_ne.mpr c24
            have c24b1 : (a2.toList != ([102] : List UInt8)) = true := bne_iff_ne.mpr c24
            have H' := Aside0.mk H
            clear H
            go_enter Try.func65, Try.ntmps65
            go_wp2
            go_loopg [8] k (fun kq v8 w' => ∃ (x8_1 : Int), v8 = .int .i64 x8_1 ∧ Aside0 (spec_miCan.l0 kq a0 a1 a2 (a1.size : Int) x8_1 = some r) ∧ Aside0 (kq ≤ k) ∧ Aside0 (Below w.heap.size w w'))
            case atStart => exact ⟨(0), (by first | rfl | (simp; done) | (simp [*]; done)), H', ⟨Nat.le_refl _⟩, ⟨by repeat (first | (with_reducible first | exact HB.out | apply below_alloc | apply pw_below_drewN | apply below_drew1) | exact HB.out)⟩⟩
            case round =>
              clear H'
              try clear c1
              try clear c2
              try clear p2
              try clear q2
              try clear hx2
              try clear c3
              try clear p3
              try clear q3
              try clear hx3
              try clear c4
              try clear c4b0
              try clear c4b1
              try clear c6
              try clear p6
              try clear c7
              try clear c7b0
              try clear c7b1
              try clear c10
              try clear c10b0
              try clear c10b1
              try clear c13
              try clear c13b0
              try clear c13b1
              try clear c15
              try clear c16
              try clear c16b0
              try clear c16b1
              try clear c19
              try clear c19b0
              try clear c20
              try clear c20b0
              try clear p21
              try clear q21
              try clear hx21
              try clear c22
              try clear c24
              try clear c24b0
              try clear c24b1
              try clear c26
              try clear c27
              try clear c27b0
              try clear c27b1
              try clear c30
              try clear c30b0
              try clear c31
              try clear c31b0
              try clear p32
              try clear q32
              try clear hx32
              try clear p21
              try clear p32
              try clear q21
              try clear q32
              obtain ⟨x8_1, rfl, HA, HK1, HB⟩ := hrel
              cases gk with
              | zero => exact absurd HA.out (by simp [spec_miCan.l0])
              | succ k1 =>
                have H := HA.out
                clear HA
                simp only [spec_miCan.l0] at H
                by_cases c35 : x8_1 < (a1.size : Int)
                · rw [if_pos c35] at H
                  have c35b0 : decide (x8_1 < (a1.size : Int)) = true := decide_eq_true c35
                  clear c35
                  by_cases c36 : 0 ≤ x8_1
                  · rw [if_pos c36] at H
                    have c36b0 := eq_true c36
                    have c36b1 : decide (0 ≤ x8_1) = true := decide_eq_true c36
                    clear c36
                    by_cases c37 : x8_1 ≤ (wrap64 (x8_1 + 1))
                    · rw [if_pos c37] at H
                      have c37b0 := eq_true c37
                      have c37b1 : decide (x8_1 ≤ (wrap64 (x8_1 + 1))) = true := decide_eq_true c37
                      by_cases c38 : (wrap64 (x8_1 + 1)) ≤ (a1.size : Int)
                      · rw [if_pos c38] at H
                        have c38b0 := eq_true c38
                        have c38b1 : decide ((wrap64 (x8_1 + 1)) ≤ (a1.size : Int)) = true := decide_eq_true c38
                        by_cases c39 : a2.toList = ([117] : List UInt8)
                        · rw [if_pos c39] at H
                          have c39b0 : (a2.toList == ([117] : List UInt8)) = true := beq_iff_eq.mpr c39
                          have c39b1 : (a2.toList != ([117] : List UInt8)) = false := bne_eq_false_iff_eq.mpr c39
                          clear c39
                          replace H := Option.bind_eq_some_iff.mp H
                          obtain ⟨⟨t123, t124⟩, A400, H⟩ := H
                          replace H : (if t124 = true then (if (wrap64 ((wrap64 (2 * x8_1)) + 1)) = a0 then (spec_miCan.j1 k1 a0 a1 a2 (a1.size : Int) x8_1 t123 (t123.toList != (a1.extract (x8_1 : Int).toNat ((wrap64 (x8_1 + 1)) : Int).toNat).toList)) else (spec_miCan.j1 k1 a0 a1 a2 (a1.size : Int) x8_1 t123 false)) else (spec_miCan.j1 k1 a0 a1 a2 (a1.size : Int) x8_1 t123 true)) = some r := H
                          have A40 := Aside0.mk A400
                          clear A400
                          have HC41 := Aside0.mk H
                          clear H
                          go_upto_region 19 with (first | ((with_reducible refine gate_callee (f := 55) rfl ?_); refine goesL_ (some 88) rfl rfl Try.func55 (by kernel_rfl) rfl #[.string (a1.extract (x8_1 : Int).toNat ((wrap64 (x8_1 + 1)) : Int).toNat)] rfl (by (try simp only [List.map_toArray, List.map_cons, List.map_nil]); first | done | rfl | (simp only [List.length_drop, List.length_take]; rfl)) ?_; (with_reducible refine (spec_miUpside.calls k1 (a1.extract (x8_1 : Int).toNat ((wrap64 (x8_1 + 1)) : Int).toNat) t123 t124 _ A40.out).mono ?_); rintro e w' ⟨rfl, ⟨nd, rfl⟩⟩; refine ⟨_, rfl, ?_⟩))
                          (try simp only [Act.put, List.setIfInBounds_toArray, List.set_cons_zero, List.set_cons_succ])
                          go_cut [104] (fun v104 wc => ∃ (kq : Nat) (x104_40 : Bool), v104 = .bool x104_40 ∧ Aside0 (spec_miCan.j1 kq a0 a1 a2 (a1.size : Int) x8_1 t123 x104_40 = some r) ∧ Aside0 (kq ≤ k1) ∧ Aside0 (Below w.heap.size w wc))
                          case first =>
                            have H := HC41.out
                            clear HC41
                            by_cases c42 : t124 = true
                            · subst c42
                              have H1 : (if (wrap64 ((wrap64 (2 * x8_1)) + 1)) = a0 then (spec_miCan.j1 k1 a0 a1 a2 (a1.size : Int) x8_1 t123 (t123.toList != (a1.extract (x8_1 : Int).toNat ((wrap64 (x8_1 + 1)) : Int).toNat).toList)) else (spec_miCan.j1 k1 a0 a1 a2 (a1.size : Int) x8_1 t123 false)) = some r := by rw [if_pos rfl] at H; exact H
                              clear H
                              have H := H1
                              clear H1
                              by_cases c43 : (wrap64 ((wrap64 (2 * x8_1)) + 1)) = a0
                              · rw [if_pos c43] at H
                                have c43b0 : ((wrap64 ((wrap64 (2 * x8_1)) + 1)) == a0) = true := beq_iff_eq.mpr c43
                                have c43b1 : ((wrap64 ((wrap64 (2 * x8_1)) + 1)) != a0) = false := bne_eq_false_iff_eq.mpr c43
                                clear c43
                                (first | rw [c43b0] | (simp only [i64_w, i32_w]; rw [c43b0]) | skip)
                                have H' := Aside0.mk H
                                clear H
                                go_wp2
                                go_meet
                                case rel => exact ⟨_, ((t123.toList != (a1.extract (x8_1 : Int).toNat ((wrap64 (x8_1 + 1)) : Int).toNat).toList)), (by first | rfl | (simp; done) | (simp [*]; done)), H', ⟨by have := HK1.out; first | omega | exact Nat.le_refl _⟩, ⟨by repeat (first | (with_reducible first | exact HB.out | apply below_alloc | apply pw_below_drewN | apply below_drew1) | exact HB.out)⟩⟩
                              · rw [if_neg c43] at H
                                have c43b0 : ((wrap64 ((wrap64 (2 * x8_1)) + 1)) == a0) = false := beq_eq_false_iff_ne.mpr c43
                                have c43b1 : ((wrap64 ((wrap64 (2 * x8_1)) + 1)) != a0) = true := bne_iff_ne.mpr c43
                                (first | rw [c43b0] | (simp only [i64_w, i32_w]; rw [c43b0]) | skip)
                                have H' := Aside0.mk H
                                clear H
                                go_wp2
                                go_meet
                                case rel => exact ⟨_, (false), (by first | rfl | (simp; done) | (simp [*]; done)), H', ⟨by have := HK1.out; first | omega | exact Nat.le_refl _⟩, ⟨by repeat (first | (with_reducible first | exact HB.out | apply below_alloc | apply pw_below_drewN | apply below_drew1) | exact HB.out)⟩⟩
                            · replace c42 := Bool.eq_false_iff.mpr c42
                              subst c42
                              have H1 : (spec_miCan.j1 k1 a0 a1 a2 (a1.size : Int) x8_1 t123 true) = some r := by rw [if_neg (show ¬ (false = true) by decide)] at H; exact H
                              clear H
                              have H := H1
                              clear H1
                              have H' := Aside0.mk H
                              clear H
                              go_wp2
                              go_meet
                              case rel => exact ⟨_, (true), (by first | rfl | (simp; done) | (simp [*]; done)), H', ⟨by have := HK1.out; first | omega | exact Nat.le_refl _⟩, ⟨by repeat (first | (with_reducible first | exact HB.out | apply below_alloc | apply pw_below_drewN | apply below_drew1) | exact HB.out)⟩⟩
                          case rest =>
                            clear HC41
                            try clear c1
                            try clear c2
                            try clear p2
                            try clear q2
                            try clear hx2
                            try clear c3
                            try clear p3
                            try clear q3
                            try clear hx3
                            try clear c4
                            try clear c4b0
                            try clear c4b1
                            try clear c5
                            try clear c6
                            try clear p6
                            try clear c7
                            try clear c7b0
                            try clear c7b1
                            try clear c10
                            try clear c10b0
                            try clear c10b1
                            try clear c13
                            try clear c13b0
                            try clear c13b1
                            try clear c15
                            try clear c16
                            try clear c16b0
                            try clear c16b1
                            try clear c19
                            try clear c19b0
                            try clear c20
                            try clear c20b0
                            try clear p21
                            try clear q21
                            try clear hx21
                            try clear c22
                            try clear c24
                            try clear c24b0
                            try clear c24b1
                            try clear c26
                            try clear c27
                            try clear c27b0
                            try clear c27b1
                            try clear c30
                            try clear c30b0
                            try clear c31
                            try clear c31b0
                            try clear p32
                            try clear q32
                            try clear hx32
                            try clear c35
                            try clear c35b0
                            try clear c36
                            try clear c36b0
                            try clear c36b1
                            try clear c37
                            try clear c37b0
                            try clear c37b1
                            try clear c38
                            try clear c38b0
                            try clear c38b1
                            try clear c39
                            try clear c39b0
                            try clear c39b1
                            try clear c42
                            try clear c43
                            try clear c43b0
                            try clear c43b1
                            try clear p2
                            try clear p21
                            try clear p3
                            try clear p32
                            try clear p6
                            try clear q2
                            try clear q21
                            try clear q3
                            try clear q32
                            obtain ⟨kq, x104_40, rfl, HA, HJ40, HB⟩ := hcut
                            cases kq with
                            | zero => exact absurd HA.out (by simp [spec_miCan.j1])
                            | succ kj40 =>
                              have H := HA.out
                              clear HA
                              simp only [spec_miCan.j1] at H
                              by_cases c44 : x104_40 = true
                              · subst c44
                                have H1 : (some false) = some r := by rw [if_pos rfl] at H; exact H
                                clear H
                                have H := H1
                                clear H1
                                obtain rfl := Option.some.inj H
                                go_wp2
                                go_ret
                                exact ⟨by first | rfl | (simp [errW_none, errW_some] <;> rfl) | (simp [*, errW_none, errW_some] <;> rfl), by repeat (first | (with_reducible first | exact HB.out | apply below_alloc | apply pw_below_drewN | apply below_drew1) | exact HB.out)⟩
                              · replace c44 := Bool.eq_false_iff.mpr c44
                                subst c44
                                have H1 : (if (wrap64 ((wrap64 (a0 - 1)) - x8_1)) < (a1.size : Int) then (if 0 ≤ (wrap64 ((wrap64 (a0 - 1)) - x8_1)) then (if (wrap64 ((wrap64 (a0 - 1)) - x8_1)) ≤ (wrap64 ((wrap64 ((wrap64 (a0 - 1)) - x8_1)) + 1)) then (if (wrap64 ((wrap64 ((wrap64 (a0 - 1)) - x8_1)) + 1)) ≤ (a1.size : Int) then (if (a1.extract ((wrap64 ((wrap64 (a0 - 1)) - x8_1)) : Int).toNat ((wrap64 ((wrap64 ((wrap64 (a0 - 1)) - x8_1)) + 1)) : Int).toNat).toList = t123.toList then (spec_miCan.l0 kj40 a0 a1 a2 (a1.size : Int) (wrap64 (x8_1 + 1))) else (some false)) else (none)) else (none)) else (none)) else (spec_miCan.l0 kj40 a0 a1 a2 (a1.size : Int) (wrap64 (x8_1 + 1)))) = some r := by rw [if_neg (show ¬ (false = true) by decide)] at H; exact H
                                clear H
                                have H := H1
                                clear H1
                                by_cases c45 : (wrap64 ((wrap64 (a0 - 1)) - x8_1)) < (a1.size : Int)
                                · rw [if_pos c45] at H
                                  have c45b0 : decide ((wrap64 ((wrap64 (a0 - 1)) - x8_1)) < (a1.size : Int)) = true := decide_eq_true c45
                                  clear c45
                                  obtain ⟨ji46, hji46⟩ : ∃ j_ : Int, (wrap64 ((wrap64 (a0 - 1)) - x8_1)) = j_ := ⟨_, rfl⟩
                                  replace H : (if 0 ≤ (ji46) then (if (ji46) ≤ (wrap64 ((ji46) + 1)) then (if (wrap64 ((ji46) + 1)) ≤ (a1.size : Int) then (if (a1.extract ((ji46) : Int).toNat ((wrap64 ((ji46) + 1)) : Int).toNat).toList = t123.toList then (spec_miCan.l0 kj40 a0 a1 a2 (a1.size : Int) (wrap64 (x8_1 + 1))) else (some false)) else (none)) else (none)) else (none)) = some r := by first | (rw [hji46] at H; exact H) | (simp only [hji46] at H ⊢; exact H)
                                  (try rw [hji46] at c45b0)
                                  have hji46w : (IntKind.i64.wrap ((wrap64 (a0 - 1)) - x8_1)) = ji46 := (i64_w _).trans hji46
                                  try have hji46v : (IntKind.i64.wrap ((IntKind.i64.wrap (a0 - 1)) - x8_1)) = ji46 := by simp only [i64_w]; exact hji46
                                  by_cases c47 : 0 ≤ (ji46)
                                  · rw [if_pos c47] at H
                                    have c47b0 := eq_true c47
                                    have c47b1 : decide (0 ≤ (ji46)) = true := decide_eq_true c47
                                    clear c47
                                    by_cases c48 : (ji46) ≤ (wrap64 ((ji46) + 1))
                                    · rw [if_pos c48] at H
                                      have c48b0 := eq_true c48
                                      have c48b1 : decide ((ji46) ≤ (wrap64 ((ji46) + 1))) = true := decide_eq_true c48
                                      by_cases c49 : (wrap64 ((ji46) + 1)) ≤ (a1.size : Int)
                                      · rw [if_pos c49] at H
                                        have c49b0 := eq_true c49
                                        have c49b1 : decide ((wrap64 ((ji46) + 1)) ≤ (a1.size : Int)) = true := decide_eq_true c49
                                        by_cases c50 : (a1.extract ((ji46) : Int).toNat ((wrap64 ((ji46) + 1)) : Int).toNat).toList = t123.toList
                                        · rw [if_pos c50] at H
                                          have c50b0 : ((a1.extract ((ji46) : Int).toNat ((wrap64 ((ji46) + 1)) : Int).toNat).toList == t123.toList) = true := beq_iff_eq.mpr c50
                                          have c50b1 : ((a1.extract ((ji46) : Int).toNat ((wrap64 ((ji46) + 1)) : Int).toNat).toList != t123.toList) = false := bne_eq_false_iff_eq.mpr c50
                                          clear c50
                                          have H' := Aside0.mk H
                                          clear H
                                          go_wp2
                                          go_roundg kj40
                                          case measure => have := HK1.out; have := HJ40.out; omega
                                          case rel => exact ⟨(wrap64 (x8_1 + 1)), (by first | rfl | (simp; done) | (simp [*]; done)), H', ⟨by have := HK1.out; have := HJ40.out; omega⟩, ⟨by repeat (first | (with_reducible first | exact HB.out | apply below_alloc | apply pw_below_drewN | apply below_drew1) | exact HB.out)⟩⟩
                                        · rw [if_neg c50] at H
                                          have c50b0 : ((a1.extract ((ji46) : Int).toNat ((wrap64 ((ji46) + 1)) : Int).toNat).toList == t123.toList) = false := beq_eq_false_iff_ne.mpr c50
                                          have c50b1 : ((a1.extract ((ji46) : Int).toNat ((wrap64 ((ji46) + 1)) : Int).toNat).toList != t123.toList) = true := bne_iff_ne.mpr c50
                                          obtain rfl := Option.some.inj H
                                          go_wp2
                                          go_ret
                                          exact ⟨by first | rfl | (simp [errW_none, errW_some] <;> rfl) | (simp only [← hji46]; first | rfl | (simp [errW_none, errW_some] <;> rfl)) | (simp [*, errW_none, errW_some] <;> rfl), by repeat (first | (with_reducible first | exact HB.out | apply below_alloc | apply pw_below_drewN | apply below_drew1) | exact HB.out)⟩
                                      · rw [if_neg c49] at H
                                        exact absurd H (by simp)
                                    · rw [if_neg c48] at H
                                      exact absurd H (by simp)
                                  · rw [if_neg c47] at H
                                    exact absurd H (by simp)
                                · rw [if_neg c45] at H
                                  have c45b0 : decide ((wrap64 ((wrap64 (a0 - 1)) - x8_1)) < (a1.size : Int)) = false := decide_eq_false c45
                                  clear c45
                                  have H' := Aside0.mk H
                                  clear H
                                  go_wp2
                                  go_roundg kj40
                                  case measure => have := HK1.out; have := HJ40.out; omega
                                  case rel => exact ⟨(wrap64 (x8_1 + 1)), (by first | rfl | (simp; done) | (simp [*]; done)), H', ⟨by have := HK1.out; have := HJ40.out; omega⟩, ⟨by repeat (first | (with_reducible first | exact HB.out | apply below_alloc | apply pw_below_drewN | apply below_drew1) | exact HB.out)⟩⟩
                        · rw [if_neg c39] at H
                          have c39b0 : (a2.toList == ([117] : List UInt8)) = false := beq_eq_false_iff_ne.mpr c39
                          have c39b1 : (a2.toList != ([117] : List UInt8)) = true := bne_iff_ne.mpr c39
                          by_cases c51 : (wrap64 ((wrap64 (a0 - 1)) - x8_1)) < (a1.size : Int)
                          · rw [if_pos c51] at H
                            have c51b0 : decide ((wrap64 ((wrap64 (a0 - 1)) - x8_1)) < (a1.size : Int)) = true := decide_eq_true c51
                            clear c51
                            obtain ⟨ji52, hji52⟩ : ∃ j_ : Int, (wrap64 ((wrap64 (a0 - 1)) - x8_1)) = j_ := ⟨_, rfl⟩
                            replace H : (if 0 ≤ (ji52) then (if (ji52) ≤ (wrap64 ((ji52) + 1)) then (if (wrap64 ((ji52) + 1)) ≤ (a1.size : Int) then (if (a1.extract ((ji52) : Int).toNat ((wrap64 ((ji52) + 1)) : Int).toNat).toList = (a1.extract (x8_1 : Int).toNat ((wrap64 (x8_1 + 1)) : Int).toNat).toList then (spec_miCan.l0 k1 a0 a1 a2 (a1.size : Int) (wrap64 (x8_1 + 1))) else (some false)) else (none)) else (none)) else (none)) = some r := by first | (rw [hji52] at H; exact H) | (simp only [hji52] at H ⊢; exact H)
                            (try rw [hji52] at c51b0)
                            have hji52w : (IntKind.i64.wrap ((wrap64 (a0 - 1)) - x8_1)) = ji52 := (i64_w _).trans hji52
                            try have hji52v : (IntKind.i64.wrap ((IntKind.i64.wrap (a0 - 1)) - x8_1)) = ji52 := by simp only [i64_w]; exact hji52
                            by_cases c53 : 0 ≤ (ji52)
                            · rw [if_pos c53] at H
                              have c53b0 := eq_true c53
                              have c53b1 : decide (0 ≤ (ji52)) = true := decide_eq_true c53
                              clear c53
                              by_cases c54 : (ji52) ≤ (wrap64 ((ji52) + 1))
                              · rw [if_pos c54] at H
                                have c54b0 := eq_true c54
                                have c54b1 : decide ((ji52) ≤ (wrap64 ((ji52) + 1))) = true := decide_eq_true c54
                                by_cases c55 : (wrap64 ((ji52) + 1)) ≤ (a1.size : Int)
                                · rw [if_pos c55] at H
                                  have c55b0 := eq_true c55
                                  have c55b1 : decide ((wrap64 ((ji52) + 1)) ≤ (a1.size : Int)) = true := decide_eq_true c55
                                  by_cases c56 : (a1.extract ((ji52) : Int).toNat ((wrap64 ((ji52) + 1)) : Int).toNat).toList = (a1.extract (x8_1 : Int).toNat ((wrap64 (x8_1 + 1)) : Int).toNat).toList
                                  · rw [if_pos c56] at H
                                    have c56b0 : ((a1.extract ((ji52) : Int).toNat ((wrap64 ((ji52) + 1)) : Int).toNat).toList == (a1.extract (x8_1 : Int).toNat ((wrap64 (x8_1 + 1)) : Int).toNat).toList) = true := beq_iff_eq.mpr c56
                                    have c56b1 : ((a1.extract ((ji52) : Int).toNat ((wrap64 ((ji52) + 1)) : Int).toNat).toList != (a1.extract (x8_1 : Int).toNat ((wrap64 (x8_1 + 1)) : Int).toNat).toList) = false := bne_eq_false_iff_eq.mpr c56
                                    clear c56
                                    have H' := Aside0.mk H
                                    clear H
                                    go_wp2
                                    go_roundg k1
                                    case measure => have := HK1.out; omega
                                    case rel => exact ⟨(wrap64 (x8_1 + 1)), (by first | rfl | (simp; done) | (simp [*]; done)), H', ⟨by have := HK1.out; omega⟩, ⟨by repeat (first | (with_reducible first | exact HB.out | apply below_alloc | apply pw_below_drewN | apply below_drew1) | exact HB.out)⟩⟩
                                  · rw [if_neg c56] at H
                                    have c56b0 : ((a1.extract ((ji52) : Int).toNat ((wrap64 ((ji52) + 1)) : Int).toNat).toList == (a1.extract (x8_1 : Int).toNat ((wrap64 (x8_1 + 1)) : Int).toNat).toList) = false := beq_eq_false_iff_ne.mpr c56
                                    have c56b1 : ((a1.extract ((ji52) : Int).toNat ((wrap64 ((ji52) + 1)) : Int).toNat).toList != (a1.extract (x8_1 : Int).toNat ((wrap64 (x8_1 + 1)) : Int).toNat).toList) = true := bne_iff_ne.mpr c56
                                    obtain rfl := Option.some.inj H
                                    go_wp2
                                    go_ret
                                    exact ⟨by first | rfl | (simp [errW_none, errW_some] <;> rfl) | (simp only [← hji52]; first | rfl | (simp [errW_none, errW_some] <;> rfl)) | (simp [*, errW_none, errW_some] <;> rfl), by repeat (first | (with_reducible first | exact HB.out | apply below_alloc | apply pw_below_drewN | apply below_drew1) | exact HB.out)⟩
                                · rw [if_neg c55] at H
                                  exact absurd H (by simp)
                              · rw [if_neg c54] at H
                                exact absurd H (by simp)
                            · rw [if_neg c53] at H
                              exact absurd H (by simp)
                          · rw [if_neg c51] at H
                            have c51b0 : decide ((wrap64 ((wrap64 (a0 - 1)) - x8_1)) < (a1.size : Int)) = false := decide_eq_false c51
                            clear c51
                            have H' := Aside0.mk H
                            clear H
                            go_wp2
                            go_roundg k1
                            case measure => have := HK1.out; omega
                            case rel => exact ⟨(wrap64 (x8_1 + 1)), (by first | rfl | (simp; done) | (simp [*]; done)), H', ⟨by have := HK1.out; omega⟩, ⟨by repeat (first | (with_reducible first | exact HB.out | apply below_alloc | apply pw_below_drewN | apply below_drew1) | exact HB.out)⟩⟩
                      · rw [if_neg c38] at H
                        exact absurd H (by simp)
                    · rw [if_neg c37] at H
                      exact absurd H (by simp)
                  · rw [if_neg c36] at H
                    exact absurd H (by simp)
                · rw [if_neg c35] at H
                  have c35b0 : decide (x8_1 < (a1.size : Int)) = false := decide_eq_false c35
                  clear c35
                  obtain rfl := Option.some.inj H
                  go_wp2
                  go_ret
                  exact ⟨by first | rfl | (simp [errW_none, errW_some] <;> rfl) | (simp [*, errW_none, errW_some] <;> rfl), by repeat (first | (with_reducible first | exact HB.out | apply below_alloc | apply pw_below_drewN | apply below_drew1) | exact HB.out)⟩

end Go.Proofs.Ytkbbmkbkpkmdkab.QFnExactBothMirrored
