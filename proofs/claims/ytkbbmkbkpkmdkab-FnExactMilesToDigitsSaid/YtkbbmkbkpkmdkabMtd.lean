/- The contract of impl.MilesToDigits: what nextAround and milesTo answer, put together. No condition beyond the told function's own answer. -/
import Derived.Test.YtkbbmkbkpkmdkabSrchD
import Derived.Test.YtkbbmkbkpkmdkabDiffers
import Derived.Test.YtkbbmkbkpkmdkabQA2x1
namespace Go.Proofs.Ytkbbmkbkpkmdkab.Ext
set_option linter.unusedVariables false
set_option linter.unusedSimpArgs false
open Go.RowKit Go.Shelf Go.Lib Go.Proofs.YtkbbmkbkpkmdkabW.PrintWords Go.Proofs.YtkbbmkbkpkmdkabW.PrintLast Go.Proofs.YtkbbmkbkpkmdkabW.PrintMore
def mayD (many : Int) (n : Nat) (s : ByteArray) : Option Bool := (impl_differs.f s).bind fun d => if d ≤ many then some (decide (wrap64 (wrap64 (d + (n : Int)) - (s.size : Int)) ≥ many)) else some false
set_option maxHeartbeats 4000000 in
set_option maxRecDepth 100000 in
theorem mtd1_calls (reading s : ByteArray) (many : Int) (r : Bool) (Ba Bb : Nat) (w : World) (ha : w.cell? ⟨Ba, 0, none⟩ = some (.int .i64 many)) (hb : w.cell? ⟨Bb, 0, none⟩ = some (.string reading))
    (hlt : Ba < w.heap.size ∧ Bb < w.heap.size) (h : mayD many reading.size s = some r) :
    Calls Try.prog 31 #[.string s, .pointer (some ⟨Ba, 0, none⟩), .pointer (some ⟨Bb, 0, none⟩)] w fun e w' => e = .returned (.bool r) ∧ Below w.heap.size w w' := by
  unfold mayD at h
  replace h := Option.bind_eq_some_iff.mp h
  obtain ⟨d, A0, H⟩ := h
  have A := Aside0.mk A0
  have HC : Aside0 (∀ w1, Below w.heap.size w w1 → w1.cell? ⟨Ba, 0, none⟩ = some (.int .i64 many) ∧ w1.cell? ⟨Bb, 0, none⟩ = some (.string reading)) := ⟨fun w1 hb1 => ⟨(hb1.cell hlt.1).trans ha, (hb1.cell hlt.2).trans hb⟩⟩
  clear A0 ha hb hlt
  by_cases c : d ≤ many
  · rw [if_pos c] at H
    obtain rfl := Option.some.inj H
    have cb : decide (d ≤ many) = true := decide_eq_true c
    clear H c
    go_enter Try.func31, Try.ntmps31
    go_wp2_with (go_at_call 24; (with_reducible refine (impl_differs.calls s d _ A.out).mono ?_); rintro e w5 ⟨rfl, HB5⟩; obtain ⟨hx1, hx2⟩ := HC.out _ HB5)
    first | go_ret3 | go_ret2 | go_ret
    all_goals exact ⟨by first | rfl | (simp; done) | (simp [*]; done), by assumption⟩
  · rw [if_neg c] at H
    obtain rfl := Option.some.inj H
    have cb : decide (d ≤ many) = false := decide_eq_false c
    clear H c
    go_enter Try.func31, Try.ntmps31
    go_wp2_with (go_at_call 24; (with_reducible refine (impl_differs.calls s d _ A.out).mono ?_); rintro e w5 ⟨rfl, HB5⟩; obtain ⟨hx1, hx2⟩ := HC.out _ HB5)
    first | go_ret3 | go_ret2 | go_ret
    all_goals exact ⟨by first | rfl | (simp; done) | (simp [*]; done), by assumption⟩
def impl_MilesToDigits.f (k : Nat) (a0 : ByteArray) (a1 : Int) : Option (Int × Bool) := (Go.Proofs.Ytkbbmkbkpkmdkab.QA1.impl_IsReading.f k a0).bind fun t => if t = true then (Go.Proofs.Ytkbbmkbkpkmdkab.QA1.impl_within.f a1 1 9).bind fun t2 => (if t2 = true then (nextAroundF (mayD a1 a0.size) k a0).bind fun p => (if p.2 = true then (Go.Proofs.Ytkbbmkbkpkmdkab.QA2.impl_milesTo.f k a0 p.1).bind fun m => some (m, true) else some (0, false)) else some (0, false)) else some (0, false)
theorem impl_MilesToDigits.mono : ∀ a0 a1 k, LeO (impl_MilesToDigits.f k a0 a1) (impl_MilesToDigits.f (k + 1) a0 a1) := by
  intro a0 a1 k
  unfold impl_MilesToDigits.f
  exact LeO.bind (Go.Proofs.Ytkbbmkbkpkmdkab.QA1.impl_IsReading.mono _ _) (fun _ => LeO.ite (LeO.bind (LeO.refl _) (fun _ => LeO.ite (LeO.bind (nextAroundF.mono_l (fun b => LeO.refl _) _ _) (fun _ => LeO.ite (LeO.bind (Go.Proofs.Ytkbbmkbkpkmdkab.QA2.impl_milesTo.mono _ _ _) (fun _ => LeO.refl _)) (LeO.refl _))) (LeO.refl _))) (LeO.refl _))
set_option maxHeartbeats 4000000 in
set_option maxRecDepth 100000 in
theorem impl_MilesToDigits.calls (k : Nat) (a0 : ByteArray) (a1 : Int) (r1 : Int) (r2 : Bool) (w : World) (h : impl_MilesToDigits.f k a0 a1 = some (r1, r2)) :
    Calls Try.prog 12 #[.string a0, .int .i64 a1] w fun e w' => e = .returned (.tuple #[.int .i64 r1, .bool r2]) ∧ Below w.heap.size w w' := by
  unfold impl_MilesToDigits.f at h
  replace h := Option.bind_eq_some_iff.mp h
  obtain ⟨t, A0, H⟩ := h
  have A := Aside0.mk A0
  clear A0
  have hmf : ∀ (fn : Fn) (first cap : Array Value) (w : World), (Instr.makeFunc fn first cap).run Try.prog w = .ok (.func fn first cap) w := fun _ _ _ _ => rfl
  have hc1 : ((w.alloc (.cells #[.string a0] 9)).alloc (.cells #[.int .i64 a1] 3)).cell? ⟨w.heap.size, 0, none⟩ = some (.string a0) := by
    rw [World.cell?_alloc_past _ _ _ (by simp only [World.size_alloc]; omega), World.cell?_alloc_at _ _ _ _ rfl]
    rfl
  have hc2 : ((w.alloc (.cells #[.string a0] 9)).alloc (.cells #[.int .i64 a1] 3)).cell? ⟨w.heap.size + 1, 0, none⟩ = some (.int .i64 a1) := by
    rw [World.cell?_alloc_at _ _ _ _ (by simp only [World.size_alloc])]
    rfl
  have hsz : ((w.alloc (.cells #[.string a0] 9)).alloc (.cells #[.int .i64 a1] 3)).heap.size = w.heap.size + 2 := by simp only [World.size_alloc]
  have HX6 : Aside0 (Below w.heap.size w ((w.alloc (.cells #[.string a0] 9)).alloc (.cells #[.int .i64 a1] 3))) := ⟨((Below.refl _ w).alloc (Nat.le_refl _) _).alloc (by simp only [World.size_alloc]; omega) _⟩
  have HCC : Aside0 (∀ w1, Below ((w.alloc (.cells #[.string a0] 9)).alloc (.cells #[.int .i64 a1] 3)).heap.size ((w.alloc (.cells #[.string a0] 9)).alloc (.cells #[.int .i64 a1] 3)) w1 → w1.cell? ⟨w.heap.size, 0, none⟩ = some (.string a0) ∧ w1.cell? ⟨w.heap.size + 1, 0, none⟩ = some (.int .i64 a1) ∧ w.heap.size + 1 < w1.heap.size) :=
    ⟨fun w1 hb => ⟨(hb.cell (by rw [hsz]; show w.heap.size < w.heap.size + 2; omega)).trans hc1, (hb.cell (by rw [hsz]; show w.heap.size + 1 < w.heap.size + 2; omega)).trans hc2, by have := hb.size; omega⟩⟩
  clear hsz
  cases t with
  | false =>
    simp only [Bool.false_eq_true, if_false, reduceIte, Option.some.injEq, Prod.mk.injEq] at H
    obtain ⟨rfl, rfl⟩ := H
    go_enter Try.func12, Try.ntmps12
    go_wp2_with (go_at_call 23; (with_reducible refine (Go.Proofs.Ytkbbmkbkpkmdkab.QA1.impl_IsReading.calls k a0 false _ A.out).mono ?_); rintro e w' ⟨rfl, ⟨nd, rfl⟩⟩)
    first | go_ret3 | go_ret2
    all_goals exact ⟨by first | rfl | (simp; done), pw_below_drewN HX6.out nd⟩
  | true =>
    simp only [if_true, reduceIte] at H
    replace H := Option.bind_eq_some_iff.mp H
    obtain ⟨t2, T0, H⟩ := H
    have TT := Aside0.mk T0
    clear T0
    cases t2 with
    | false =>
      simp only [Bool.false_eq_true, if_false, reduceIte, Option.some.injEq, Prod.mk.injEq] at H
      obtain ⟨rfl, rfl⟩ := H
      go_enter Try.func12, Try.ntmps12
      go_wp2_with (first | (go_at_call 23; (with_reducible refine (Go.Proofs.Ytkbbmkbkpkmdkab.QA1.impl_IsReading.calls k a0 true _ A.out).mono ?_); rintro e w' ⟨rfl, ⟨nd, rfl⟩⟩) | (go_at_call 29; (with_reducible refine (Go.Proofs.Ytkbbmkbkpkmdkab.QA1.impl_within.calls a1 1 9 false _ TT.out).mono ?_); rintro e w' ⟨rfl, ⟨nd2, rfl⟩⟩))
      first | go_ret3 | go_ret2
      all_goals exact ⟨by first | rfl | (simp; done), by repeat (first | (with_reducible first | exact HX6.out | apply below_alloc | apply pw_below_drewN | apply below_drew1) | exact HX6.out)⟩
    | true =>
      simp only [if_true, reduceIte] at H
      replace H := Option.bind_eq_some_iff.mp H
      obtain ⟨⟨q1, q2⟩, F0, H⟩ := H
      have F := Aside0.mk F0
      clear F0
      have HMM : Aside0 (∀ w0, Below ((w.alloc (.cells #[.string a0] 9)).alloc (.cells #[.int .i64 a1] 3)).heap.size ((w.alloc (.cells #[.string a0] 9)).alloc (.cells #[.int .i64 a1] 3)) w0 → Aside0 (∀ s r w1, mayD a1 a0.size s = some r → Below w0.heap.size w0 w1 → Calls Try.prog 31 #[.string s, .pointer (some ⟨w.heap.size + 1, 0, none⟩), .pointer (some ⟨w.heap.size, 0, none⟩)] w1 fun e w' => e = .returned (.bool r) ∧ Below w1.heap.size w1 w')) :=
        ⟨fun w0 hb0 => ⟨fun s r w1 hm hb => mtd1_calls a0 s a1 r (w.heap.size + 1) w.heap.size w1 (HCC.out _ (below_step hb0 hb)).2.1 (HCC.out _ (below_step hb0 hb)).1 ⟨(HCC.out _ (below_step hb0 hb)).2.2, by have := (HCC.out _ (below_step hb0 hb)).2.2; omega⟩ hm⟩⟩
      cases q2 with
      | false =>
        simp only [Bool.false_eq_true, if_false, reduceIte, Option.some.injEq, Prod.mk.injEq] at H
        obtain ⟨rfl, rfl⟩ := H
        go_enter Try.func12, Try.ntmps12
        go_wp2_with (first | (go_at_call 23; (with_reducible refine (Go.Proofs.Ytkbbmkbkpkmdkab.QA1.impl_IsReading.calls k a0 true _ A.out).mono ?_); rintro e w' ⟨rfl, ⟨nd, rfl⟩⟩) | (go_at_call 29; (with_reducible refine (Go.Proofs.Ytkbbmkbkpkmdkab.QA1.impl_within.calls a1 1 9 true _ TT.out).mono ?_); rintro e w' ⟨rfl, ⟨nd2, rfl⟩⟩) | (go_at_call 30; (refine (impl_nextAround.calls a0 _ _ (mayD a1 a0.size) k q1 false _ F.out (HMM.out _ (by repeat (first | (with_reducible first | exact Below.refl _ _ | apply pw_below_drewN) | exact Below.refl _ _)))).mono ?_); rintro e w7 ⟨rfl, hb7⟩; have HB7 := below_step (by repeat (first | (with_reducible first | exact HX6.out | apply pw_below_drewN) | exact HX6.out)) hb7; clear hb7))
        first | go_ret3 | go_ret2
        all_goals exact ⟨by first | rfl | (simp; done), by assumption⟩
      | true =>
        simp only [if_true, reduceIte] at H
        replace H := Option.bind_eq_some_iff.mp H
        obtain ⟨mm, M0, H⟩ := H
        simp only [Option.some.injEq, Prod.mk.injEq] at H
        obtain ⟨rfl, rfl⟩ := H
        have MM := Aside0.mk M0
        clear M0
        go_enter Try.func12, Try.ntmps12
        go_wp2_with (first | (go_at_call 23; (with_reducible refine (Go.Proofs.Ytkbbmkbkpkmdkab.QA1.impl_IsReading.calls k a0 true _ A.out).mono ?_); rintro e w' ⟨rfl, ⟨nd, rfl⟩⟩) | (go_at_call 29; (with_reducible refine (Go.Proofs.Ytkbbmkbkpkmdkab.QA1.impl_within.calls a1 1 9 true _ TT.out).mono ?_); rintro e w' ⟨rfl, ⟨nd2, rfl⟩⟩) | (go_at_call 30; (refine (impl_nextAround.calls a0 _ _ (mayD a1 a0.size) k q1 true _ F.out (HMM.out _ (by repeat (first | (with_reducible first | exact Below.refl _ _ | apply pw_below_drewN) | exact Below.refl _ _)))).mono ?_); rintro e w7 ⟨rfl, hb7⟩; have HB6 : Below ((w.alloc (.cells #[.string a0] 9)).alloc (.cells #[.int .i64 a1] 3)).heap.size ((w.alloc (.cells #[.string a0] 9)).alloc (.cells #[.int .i64 a1] 3)) w7 := below_step (by repeat (first | (with_reducible first | exact Below.refl _ _ | apply pw_below_drewN) | exact Below.refl _ _)) hb7; obtain ⟨hd1, hd2, hd3⟩ := HCC.out _ HB6; have HB7 := below_step HX6.out HB6; clear hb7 hd3) | (go_at_call 32; (with_reducible refine (Go.Proofs.Ytkbbmkbkpkmdkab.QA2.impl_milesTo.calls k a0 q1 mm _ MM.out).mono ?_); rintro e w' ⟨rfl, ⟨nd3, rfl⟩⟩))
        first | go_ret3 | go_ret2
        all_goals exact ⟨by first | rfl | (simp; done), pw_below_drewN HB7 _⟩
end Go.Proofs.Ytkbbmkbkpkmdkab.Ext
