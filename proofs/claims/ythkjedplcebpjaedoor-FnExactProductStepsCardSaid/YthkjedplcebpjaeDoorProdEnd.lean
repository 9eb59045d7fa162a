/- The contract of impl.ProductEnd: the digit that is left when the product of the digits is taken again and again, and how often. Condition: the table of powers of ten reads as it was laid. -/
import Derived.Test.YthkjedplcebpjaeDoorDigProd
import Derived.Test.YthkjedplcebpjaeDoorQA1x1
namespace Go.Proofs.YthkjedplcebpjaeDoor.Ext
set_option linter.unusedVariables false
open Go.RowKit Go.Shelf Go.Sort Go.Lib Go.Proofs.YthkjedplcebpjaeDoorW.PrintWords Go.Proofs.YthkjedplcebpjaeDoorW.PrintLast Go.Proofs.YthkjedplcebpjaeDoorW.PrintMore
def untilF : Nat → Int → Int → Option (Int × Int)
  | 0, _, _ => none
  | k + 1, n, t => if n > 9 then (impl_digitProduct.f n).bind fun m => untilF k m (wrap64 (t + 1)) else some (n, t)
theorem untilF.mono_l : ∀ k n t, LeO (untilF k n t) (untilF (k + 1) n t)
  | 0, n, t => fun r h => by simp [untilF] at h
  | k + 1, n, t => by
    rw [untilF, untilF]
    exact LeO.ite (LeO.bind (LeO.refl _) (fun _ => untilF.mono_l k _ _)) (LeO.refl _)
set_option maxHeartbeats 4000000 in
set_option maxRecDepth 100000 in
theorem impl_untilOne.calls (k : Nat) (a0 r1 r2 : Int) (w : World) (h : untilF k a0 0 = some (r1, r2)) (hT : Tab w) :
    Calls Tryd.prog 31 #[.int .i64 a0, .func (.func 32) #[] #[]] w fun e w' => e = .returned (.tuple #[.int .i64 r1, .int .i64 r2]) ∧ Below w.heap.size w w' := by
  have HT0 := Aside0.mk hT
  clear hT
  have HB := Aside0.mk (Below.refl w.heap.size w)
  have H' := Aside0.mk h
  clear h
  go_enter Tryd.func31, Tryd.ntmps31
  go_wp2
  go_loopg [0, 6] k (fun kq v0 v6 w' => ∃ (n t : Int), v0 = .int .i64 n ∧ v6 = .int .i64 t ∧ Aside0 (untilF kq n t = some (r1, r2)) ∧ Aside0 (kq ≤ k) ∧ Aside0 (Below w.heap.size w w'))
  case atStart => exact ⟨a0, 0, rfl, rfl, H', ⟨Nat.le_refl _⟩, HB⟩
  case round =>
    clear H' HB
    obtain ⟨n, t, rfl, rfl, HA, HK, HB3⟩ := hrel
    cases gk with
    | zero => exact absurd HA.out (by simp [untilF])
    | succ k1 =>
      have H := HA.out
      clear HA
      simp only [untilF] at H
      by_cases c1 : n > 9
      · rw [if_pos c1] at H
        have cb : decide (9 < n) = true := decide_eq_true c1
        clear c1
        replace H := Option.bind_eq_some_iff.mp H
        obtain ⟨m, A90, H⟩ := H
        have A9 := Aside0.mk A90
        clear A90
        have H' := Aside0.mk H
        clear H
        go_wp2_with (go_at_call 32; refine (impl_digitProduct.calls n m _ A9.out (Tab.at_ HT0.out HB3.out)).mono ?_; rintro e w5 ⟨rfl, hb⟩; have n0_ := Aside0.mk (below_step HB3.out hb); clear HB3; have HB3 := n0_; clear n0_ hb)
        go_roundg k1
        case measure => have := HK.out; omega
        case rel => exact ⟨m, wrap64 (t + 1), (by first | rfl | (simp; done) | (simp [*]; done)), (by first | rfl | (simp; done) | (simp [*]; done)), H', ⟨by have := HK.out; omega⟩, HB3⟩
      · rw [if_neg c1] at H
        have cb : decide (9 < n) = false := decide_eq_false c1
        clear c1
        injection Option.some.inj H with e1 e2
        subst e1
        subst e2
        clear H
        go_wp2
        go_ret2
        exact ⟨by first | rfl | (simp; done), HB3.out⟩
def impl_ProductEnd.f (k : Nat) (a0 : Int) : Option (Int × Int × Bool) := (Go.Proofs.YthkjedplcebpjaeDoor.QA1.impl_isWritten.f a0).bind fun t => if t = true then (untilF k a0 0).bind fun p => some (p.1, p.2, true) else some (0, 0, false)
theorem impl_ProductEnd.mono : ∀ a0 k, LeO (impl_ProductEnd.f k a0) (impl_ProductEnd.f (k + 1) a0) := by
  intro a0 k
  unfold impl_ProductEnd.f
  exact LeO.bind (LeO.refl _) (fun _ => LeO.ite (LeO.bind (untilF.mono_l k _ _) (fun _ => LeO.refl _)) (LeO.refl _))
set_option maxHeartbeats 4000000 in
set_option maxRecDepth 100000 in
theorem impl_ProductEnd.calls (k : Nat) (a0 : Int) (r1 : Int) (r2 : Int) (r3 : Bool) (w : World) (h : impl_ProductEnd.f k a0 = some (r1, r2, r3)) (hT : Tab w) :
    Calls Tryd.prog 17 #[.int .i64 a0] w fun e w' => e = .returned (.tuple #[.int .i64 r1, .int .i64 r2, .bool r3]) ∧ Below w.heap.size w w' := by
  have HT0 := Aside0.mk hT
  clear hT
  have HB := Aside0.mk (Below.refl w.heap.size w)
  unfold impl_ProductEnd.f at h
  replace h := Option.bind_eq_some_iff.mp h
  obtain ⟨t, A, H⟩ := h
  have A2 := Aside0.mk A
  clear A
  by_cases c3 : t = true
  · subst c3
    rw [if_pos rfl] at H
    replace H := Option.bind_eq_some_iff.mp H
    obtain ⟨⟨p1, p2⟩, A, H⟩ := H
    have A4 := Aside0.mk A
    clear A
    simp only [Option.some.injEq, Prod.mk.injEq] at H
    obtain ⟨rfl, rfl, rfl⟩ := H
    go_enter Tryd.func17, Tryd.ntmps17
    go_wp2_with (first | (go_at_call 30; refine (Go.Proofs.YthkjedplcebpjaeDoor.QA1.impl_isWritten.calls a0 true _ A2.out).mono ?_; rintro e w' ⟨rfl, ⟨nd, rfl⟩⟩) | (go_at_call 31; refine (impl_untilOne.calls k a0 p1 p2 _ A4.out (Tab.at_ HT0.out (by repeat (first | (with_reducible first | exact HB.out | apply below_alloc | apply pw_below_drewN | apply below_drew1) | exact HB.out)))).mono ?_; rintro e w5 ⟨rfl, hb⟩; have n0_ := Aside0.mk (below_step (by repeat (first | (with_reducible first | exact HB.out | apply below_alloc | apply pw_below_drewN | apply below_drew1) | exact HB.out)) hb); clear HB; have HB := n0_; clear n0_ hb))
    first | go_ret3 | go_ret2 | exact bodyPost_ret (v := .tuple #[.int .i64 p1, .int .i64 p2, .bool true]) (by simp [results, Tryd.results17, go_sem]) rfl ⟨rfl, HB.out⟩
    all_goals exact ⟨by first | rfl | (simp; done), by repeat (first | (with_reducible first | exact HB.out | apply below_alloc | apply pw_below_drewN | apply below_drew1) | exact HB.out)⟩
  · replace c3 := Bool.eq_false_iff.mpr c3
    subst c3
    rw [if_neg (by decide)] at H
    simp only [Option.some.injEq, Prod.mk.injEq] at H
    obtain ⟨rfl, rfl, rfl⟩ := H
    go_enter Tryd.func17, Tryd.ntmps17
    go_wp2_with (go_at_call 30; refine (Go.Proofs.YthkjedplcebpjaeDoor.QA1.impl_isWritten.calls a0 false _ A2.out).mono ?_; rintro e w' ⟨rfl, ⟨nd, rfl⟩⟩)
    first | go_ret3 | go_ret2 | exact bodyPost_ret (v := .tuple #[.int .i64 0, .int .i64 0, .bool false]) (by simp [results, Tryd.results17, go_sem]) rfl ⟨rfl, by repeat (first | (with_reducible first | exact HB.out | apply below_alloc | apply pw_below_drewN | apply below_drew1) | exact HB.out)⟩
    all_goals exact ⟨by first | rfl | (simp; done), by repeat (first | (with_reducible first | exact HB.out | apply below_alloc | apply pw_below_drewN | apply below_drew1) | exact HB.out)⟩
end Go.Proofs.YthkjedplcebpjaeDoor.Ext
