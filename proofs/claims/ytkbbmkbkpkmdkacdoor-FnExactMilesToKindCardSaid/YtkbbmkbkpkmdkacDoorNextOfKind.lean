/- The contract of impl.NextOfKind: what AddMiles, isKind and nextAround answer, put together. Condition: the table of powers of ten reads as it was laid. -/
import Derived.Test.YtkbbmkbkpkmdkacDoorSrchN
import Derived.Test.YtkbbmkbkpkmdkacDoorQA2x1
import Derived.Test.YtkbbmkbkpkmdkacDoorQA3x1
namespace Go.Proofs.YtkbbmkbkpkmdkacDoor.Ext
set_option linter.unusedVariables false
set_option linter.unusedSimpArgs false
open Go.RowKit Go.Shelf Go.Lib Go.Proofs.YtkbbmkbkpkmdkacDoorW.PrintWords Go.Proofs.YtkbbmkbkpkmdkacDoorW.PrintLast Go.Proofs.YtkbbmkbkpkmdkacDoorW.PrintMore
set_option maxHeartbeats 4000000 in
set_option maxRecDepth 100000 in
theorem nok1_calls (k : Nat) (reading kindS s : ByteArray) (r : Bool) (Ba Bb : Nat) (w : World) (ha : w.cell? ⟨Ba, 0, none⟩ = some (.string kindS)) (hb : w.cell? ⟨Bb, 0, none⟩ = some (.string reading)) (h0 : 0 < kindS.size)
    (h : Go.Proofs.YtkbbmkbkpkmdkacDoor.QA1.impl_may.f k (bt kindS 0) s (reading.size : Int) = some r) :
    Calls Tryd.prog 15 #[.string s, .pointer (some ⟨Ba, 0, none⟩), .pointer (some ⟨Bb, 0, none⟩)] w fun e w' => e = .returned (.bool r) ∧ Below w.heap.size w w' := by
  have A := Aside0.mk h
  clear h
  have HB := Aside0.mk (Below.refl w.heap.size w)
  have p0 : ((0 : Int) < (kindS.size : Int)) = True := eq_true (by omega)
  have hx0 : ∀ h : 0 < kindS.size, ((kindS[0]'h).toNat : Int) = bt kindS 0 := fun h => bt_at kindS 0 h
  go_enter Tryd.func15, Tryd.ntmps15
  go_wp2
  go_quiet ((go_at_call 16; refine (Go.Proofs.YtkbbmkbkpkmdkacDoor.QA1.impl_may.calls k (bt kindS 0) s (reading.size : Int) r _ A.out).mono ?_; rintro e w5 ⟨rfl, ⟨nd, rfl⟩⟩; exact ⟨rfl, _, World.drewN_drewN _ _ _⟩))
  try go_wp2
  first | go_ret3 | go_ret2 | go_ret
  all_goals exact ⟨by first | rfl | (simp; done), by repeat (first | (with_reducible first | exact HB.out | apply below_alloc | apply pw_below_drewN | apply below_drew1) | exact HB.out)⟩
def impl_NextOfKind.f (k : Nat) (a0 a1 : ByteArray) : Option (ByteArray × Bool) := (Go.Proofs.YtkbbmkbkpkmdkacDoor.QA2.impl_AddMiles.f k a0 1).bind fun p => if p.2 = true then (Go.Proofs.YtkbbmkbkpkmdkacDoor.QA3.impl_isKind.f a1).bind fun t => (if t = true then (if 0 < a1.size then nextAroundF (fun s => Go.Proofs.YtkbbmkbkpkmdkacDoor.QA1.impl_may.f k (bt a1 0) s (a0.size : Int)) k p.1 else none) else some ((⟨#[]⟩ : ByteArray), false)) else some ((⟨#[]⟩ : ByteArray), false)
theorem impl_NextOfKind.mono : ∀ a0 a1 k, LeO (impl_NextOfKind.f k a0 a1) (impl_NextOfKind.f (k + 1) a0 a1) := by
  intro a0 a1 k
  unfold impl_NextOfKind.f
  exact LeO.bind (Go.Proofs.YtkbbmkbkpkmdkacDoor.QA2.impl_AddMiles.mono _ _ _) (fun _ => LeO.ite (LeO.bind (LeO.refl _) (fun _ => LeO.ite (LeO.ite (nextAroundF.mono_l (fun b => Go.Proofs.YtkbbmkbkpkmdkacDoor.QA1.impl_may.mono _ _ _ _) _ _) (LeO.none _)) (LeO.refl _))) (LeO.refl _))
set_option maxHeartbeats 4000000 in
set_option maxRecDepth 100000 in
theorem impl_NextOfKind.calls (k : Nat) (a0 a1 : ByteArray) (r1 : ByteArray) (r2 : Bool) (w : World) (h : impl_NextOfKind.f k a0 a1 = some (r1, r2)) (hT : Tab w) :
    Calls Tryd.prog 6 #[.string a0, .string a1] w fun e w' => e = .returned (.tuple #[.string r1, .bool r2]) ∧ Below w.heap.size w w' := by
  unfold impl_NextOfKind.f at h
  replace h := Option.bind_eq_some_iff.mp h
  obtain ⟨⟨q1, q2⟩, A0, H⟩ := h
  have A := Aside0.mk A0
  clear A0
  have hmf : ∀ (fn : Fn) (first cap : Array Value) (w : World), (Instr.makeFunc fn first cap).run Tryd.prog w = .ok (.func fn first cap) w := fun _ _ _ _ => rfl
  have hc1 : ((w.alloc (.cells #[.string a0] 9)).alloc (.cells #[.string a1] 9)).cell? ⟨w.heap.size, 0, none⟩ = some (.string a0) := by
    rw [World.cell?_alloc_past _ _ _ (by simp only [World.size_alloc]; omega), World.cell?_alloc_at _ _ _ _ rfl]
    rfl
  have hc2 : ((w.alloc (.cells #[.string a0] 9)).alloc (.cells #[.string a1] 9)).cell? ⟨w.heap.size + 1, 0, none⟩ = some (.string a1) := by
    rw [World.cell?_alloc_at _ _ _ _ (by simp only [World.size_alloc])]
    rfl
  have hsz : ((w.alloc (.cells #[.string a0] 9)).alloc (.cells #[.string a1] 9)).heap.size = w.heap.size + 2 := by simp only [World.size_alloc]
  have HX6 : Aside0 (Below w.heap.size w ((w.alloc (.cells #[.string a0] 9)).alloc (.cells #[.string a1] 9))) := ⟨((Below.refl _ w).alloc (Nat.le_refl _) _).alloc (by simp only [World.size_alloc]; omega) _⟩
  have HTT := Aside0.mk (Tab.at_ hT HX6.out)
  have HCC : Aside0 (∀ w1, Below ((w.alloc (.cells #[.string a0] 9)).alloc (.cells #[.string a1] 9)).heap.size ((w.alloc (.cells #[.string a0] 9)).alloc (.cells #[.string a1] 9)) w1 → w1.cell? ⟨w.heap.size, 0, none⟩ = some (.string a0) ∧ w1.cell? ⟨w.heap.size + 1, 0, none⟩ = some (.string a1)) :=
    ⟨fun w1 hb => ⟨(hb.cell (by rw [hsz]; show w.heap.size < w.heap.size + 2; omega)).trans hc1, (hb.cell (by rw [hsz]; show w.heap.size + 1 < w.heap.size + 2; omega)).trans hc2⟩⟩
  clear hsz hT
  cases q2 with
  | false =>
    simp only [Bool.false_eq_true, if_false, reduceIte, Option.some.injEq, Prod.mk.injEq] at H
    obtain ⟨rfl, rfl⟩ := H
    go_enter Tryd.func6, Tryd.ntmps6
    go_wp2_with (go_at_call 12; (with_reducible refine (Go.Proofs.YtkbbmkbkpkmdkacDoor.QA2.impl_AddMiles.calls k a0 1 q1 false _ A.out HTT.out).mono ?_); rintro e w5 ⟨rfl, HB5⟩)
    first | go_ret3 | go_ret2
    all_goals exact ⟨by first | rfl | (simp; done), below_step HX6.out (by assumption)⟩
  | true =>
    simp only [if_true, reduceIte] at H
    replace H := Option.bind_eq_some_iff.mp H
    obtain ⟨t, T0, H⟩ := H
    have TT := Aside0.mk T0
    clear T0
    cases t with
    | false =>
      simp only [Bool.false_eq_true, if_false, reduceIte, Option.some.injEq, Prod.mk.injEq] at H
      obtain ⟨rfl, rfl⟩ := H
      go_enter Tryd.func6, Tryd.ntmps6
      go_wp2_with (first | (go_at_call 12; (with_reducible refine (Go.Proofs.YtkbbmkbkpkmdkacDoor.QA2.impl_AddMiles.calls k a0 1 q1 true _ A.out HTT.out).mono ?_); rintro e w5 ⟨rfl, HB5⟩; obtain ⟨hd1, hd2⟩ := HCC.out _ HB5) | (go_at_call 13; (with_reducible refine (Go.Proofs.YtkbbmkbkpkmdkacDoor.QA3.impl_isKind.calls a1 false _ TT.out).mono ?_); rintro e w6 ⟨rfl, ⟨nd, rfl⟩⟩))
      first | go_ret3 | go_ret2
      all_goals exact ⟨by first | rfl | (simp; done), pw_below_drewN (below_step HX6.out HB5) nd⟩
    | true =>
      simp only [if_true, reduceIte] at H
      split at H
      case isFalse => cases H
      rename_i hk0
      have F := Aside0.mk H
      have HK0 := Aside0.mk hk0
      clear H hk0
      go_enter Tryd.func6, Tryd.ntmps6
      go_wp2_with (first | (go_at_call 12; (with_reducible refine (Go.Proofs.YtkbbmkbkpkmdkacDoor.QA2.impl_AddMiles.calls k a0 1 q1 true _ A.out HTT.out).mono ?_); rintro e w5 ⟨rfl, HB5⟩; obtain ⟨hd1, hd2⟩ := HCC.out _ HB5) | (go_at_call 13; (with_reducible refine (Go.Proofs.YtkbbmkbkpkmdkacDoor.QA3.impl_isKind.calls a1 true _ TT.out).mono ?_); rintro e w6 ⟨rfl, ⟨nd, rfl⟩⟩) | (go_at_call 14; (with_reducible refine (impl_nextAround.calls q1 _ _ (fun s => Go.Proofs.YtkbbmkbkpkmdkacDoor.QA1.impl_may.f k (bt a1 0) s (a0.size : Int)) k r1 r2 _ F.out ⟨fun s r w1 hm hb => nok1_calls k a0 a1 s r (w.heap.size + 1) w.heap.size w1 (HCC.out _ (below_step (pw_below_drewN HB5 nd) hb)).2 (HCC.out _ (below_step (pw_below_drewN HB5 nd) hb)).1 HK0.out hm⟩).mono ?_); rintro e w7 ⟨rfl, hb7⟩; have HB7 := below_step (pw_below_drewN (below_step HX6.out HB5) nd) hb7; clear hb7))
      first | go_ret3 | go_ret2
      all_goals exact ⟨by first | rfl | (simp; done), HB7⟩
end Go.Proofs.YtkbbmkbkpkmdkacDoor.Ext
