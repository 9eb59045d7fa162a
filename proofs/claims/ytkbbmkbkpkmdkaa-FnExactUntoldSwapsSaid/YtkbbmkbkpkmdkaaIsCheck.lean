/- The contract of impl.IsCheck: it tells whether there are 2 to 12 weights, a modulus of 2 to 11, and each weight lies in 0 .. modulus - 1. No condition. -/
import Derived.Test.YtkbbmkbkpkmdkaaProg
import Derived.WalkKit
import Derived.KernelRfl
import Derived.Below
import Derived.Lib.Hide
import Derived.Lib.SliceRun
import Derived.Shelf.SlGeneric
import Derived.Shelf.SlicesE.IndexFunc
import Derived.Test.YtkbbmkbkpkmdkaaWWords
namespace Go.Proofs.Ytkbbmkbkpkmdkaa.Ext
set_option linter.unusedVariables false
open Go.RowKit Go.Shelf Go.Sort Go.Lib Go.Proofs.YtkbbmkbkpkmdkaaW.PrintWords
def lContains_ren : Go.Shelf.Ren := ⟨fun | 6 => 58 | 8 => 47 | n => n, fun | 22 => 25 | 23 => 3 | 25 => 41 | 3 => 3 | 4 => 4 | 0 => 0 | n => n, fun | n => n⟩
theorem lContains : Go.Proofs.SlLaysH.n8 Try.prog lContains_ren := {
  mixed := by kernel_rfl
  f6 := ⟨Try.f58.name, by decide, Try.func58.trans (congrArg some (by kernel_rfl))⟩
  f8 := ⟨Try.f47.name, by decide, Try.func47.trans (congrArg some (by kernel_rfl))⟩
  t0 := Try.underlying0
  a0 := Try.isAgg0
  z0 := Try.sizeOf0
  v0 := Try.zeroValue0
  t3 := Try.underlying3
  a3 := Try.isAgg3
  z3 := Try.sizeOf3
  v3 := Try.zeroValue3
  t4 := Try.underlying4
  a4 := Try.isAgg4
  z4 := Try.sizeOf4
  v4 := Try.zeroValue4
  t22 := Try.underlying25
  a22 := Try.isAgg25
  z22 := Try.sizeOf25
  v22 := Try.zeroValue25
  a23 := Try.isAgg3
  z23 := Try.sizeOf3
  t25 := Try.underlying41
  a25 := Try.isAgg41
  z25 := Try.sizeOf41
  v25 := Try.zeroValue41 }
set_option maxHeartbeats 400000 in
theorem xwithin (a b c : Int) (r : Bool) (w : World) (h : (decide (b ≤ a) && decide (a ≤ c)) = r) :
    Calls Try.prog 46 #[.int .i64 a, .int .i64 b, .int .i64 c] w fun e w' => e = .returned (.bool r) ∧ w = w' := by
  subst h
  by_cases c4 : b ≤ a
  · have c4b0 : decide (b ≤ a) = true := decide_eq_true c4
    clear c4
    go_enter Try.func46, Try.ntmps46
    go_wp2
    go_ret
    exact ⟨by first | rfl | (simp [*]; done), rfl⟩
  · have c4b0 : decide (b ≤ a) = false := decide_eq_false c4
    clear c4
    go_enter Try.func46, Try.ntmps46
    go_wp2
    go_ret
    exact ⟨by first | rfl | (simp [*]; done), rfl⟩
/-- Is it a check. -/
def impl_IsCheck.f (l0_0 : List Int) (a0_1 : Int) : Option (Bool) := some (((decide ((2 : Int) ≤ l0_0.length) && decide ((l0_0.length : Int) ≤ 12)) && (decide (2 ≤ a0_1) && decide (a0_1 ≤ 11))) && l0_0.all (fun x => decide (0 ≤ x) && decide (x ≤ a0_1 - 1)))
theorem spot_none {w : World} {ad : Addr} {v : Value} (h : w.cell? ad = some v) : ad.spot = none := by
  unfold World.cell? at h
  split at h
  · cases hs : ad.spot with
    | none => rfl
    | some x => simp [hs] at h
  · cases h
theorem at_none {w : World} {A : Option Addr} {l : List Int} (hr : Kd.C (Kd.int .i64) w A l.length l) (h : 0 < l.length) : ∃ b off, A = some ⟨b, off, none⟩ ∧ b < w.heap.size ∧ ∀ j, j < l.length → w.cell? ⟨b, off + j, none⟩ = some (.int .i64 l[j]!) := by
  have h1 := Kd.reads_of_C (enc := Value.int .i64) (d := (0 : Int)) (h1 := fun _ => rfl) hr
  obtain ⟨ad, hA, hc⟩ := h1.2.2 h
  have h0 := hc 0 h
  have e0 : ad.add 0 = ad := rfl
  rw [e0] at h0
  have hs := spot_none h0
  obtain ⟨b, off, sp⟩ := ad
  simp only at hs
  subst hs
  refine ⟨b, off, hA, World.block_lt_of_cell? w _ h0, fun j hj => ?_⟩
  have := hc j hj
  have e : (⟨b, off, none⟩ : Addr).add j = ⟨b, off + j, none⟩ := by
    unfold Addr.add
    split
    · subst_vars; rfl
    · rfl
  rw [e] at this
  rw [this, getElem!_pos l j hj, List.getD_eq_getElem?_getD, List.getElem?_eq_getElem hj]
  rfl
/-- The closure: is a weight out of bounds. -/
theorem pred (A : Option Addr) (n c : Nat) (m : Int) (B : Nat) (w : World) (hm : 2 ≤ m ∧ m ≤ 11) (hB : B < w.heap.size) (hc0 : w.cell? ⟨B, 0, none⟩ = some (.slice A n c)) (hc1 : w.cell? ⟨B, 1, none⟩ = some (.int .i64 m)) :
    PredAt Try.prog 48 #[.pointer (some ⟨B, 0, none⟩)] (Value.int .i64) (fun x => !(decide (0 ≤ x) && decide (x ≤ m - 1))) w := fun W x hb => by
  have g0 : W.cell? ⟨B, 0, none⟩ = some (.slice A n c) := (hb.cell (p := ⟨B, 0, none⟩) hB).trans hc0
  have g1 : W.cell? ⟨B, 1, none⟩ = some (.int .i64 m) := (hb.cell (p := ⟨B, 1, none⟩) hB).trans hc1
  obtain ⟨hm1, hm2⟩ := hm
  show Calls Try.prog 48 #[.int .i64 x, .pointer (some ⟨B, 0, none⟩)] W _
  clear hb hc0 hc1
  cases hr : (decide (0 ≤ x) && decide (x ≤ m - 1)) with
  | true =>
    have HR := Lib.hid hr
    clear hr
    have hu := Try.underlying32
    go_enter Try.func48, Try.ntmps48
    go_wp2_with fail
    refine (xwithin x 0 (m - 1) true _ HR.out).mono ?_
    rintro e w' ⟨rfl, rfl⟩
    go_wp2
    go_ret
    exact ⟨by rw [HR.out]; rfl, 0, rfl⟩
  | false =>
    have HR := Lib.hid hr
    clear hr
    have hu := Try.underlying32
    go_enter Try.func48, Try.ntmps48
    go_wp2_with fail
    refine (xwithin x 0 (m - 1) false _ HR.out).mono ?_
    rintro e w' ⟨rfl, rfl⟩
    go_wp2
    go_ret
    exact ⟨by rw [HR.out]; rfl, 0, rfl⟩
set_option maxHeartbeats 800000 in
theorem impl_IsCheck.calls (A0_0 : Option Addr) (c0_0 : Nat) (l0_0 : List Int) (a0_1 : Int) (r : Bool) (w : World) (hr0_0 : Kd.C (Kd.int .i64) w A0_0 l0_0.length l0_0) (hc0_0 : l0_0.length ≤ c0_0) (h : impl_IsCheck.f l0_0 a0_1 = some r) :
    Calls Try.prog 30 #[.agg #[.slice A0_0 l0_0.length c0_0, .int .i64 a0_1]] w fun e w' => e = .returned (.bool r) ∧ Below w.heap.size w w' := by
  unfold impl_IsCheck.f at h
  obtain rfl := Option.some.inj h
  clear h
  have hbig : l0_0.length ≤ 9223372036854775807 := (Kd.reads_of_C (enc := Value.int .i64) (d := (0 : Int)) (h1 := fun _ => rfl) hr0_0).2.1
  have HR := Lib.hid hr0_0
  clear hr0_0
  have hu := Try.underlying32
  cases h1 : (decide ((2 : Int) ≤ l0_0.length) && decide ((l0_0.length : Int) ≤ 12)) with
  | false =>
    have H1 := Lib.hid h1
    clear h1
    simp only [Bool.false_and]
    go_enter Try.func30, Try.ntmps30
    go_wp2_with fail
    refine (xwithin (l0_0.length : Int) 2 12 false _ H1.out).mono ?_
    rintro e w' ⟨rfl, rfl⟩
    go_wp2
    go_ret
    exact ⟨rfl, (Below.refl _ _).alloc (Nat.le_refl _) _⟩
  | true =>
    have H1 := Lib.hid h1
    have hlen : 2 ≤ l0_0.length := by simp at h1; omega
    clear h1
    simp only [Bool.true_and]
    cases h2 : (decide ((2 : Int) ≤ a0_1) && decide (a0_1 ≤ 11)) with
    | false =>
      have H2 := Lib.hid h2
      clear h2 hlen
      simp only [Bool.false_and]
      go_enter Try.func30, Try.ntmps30
      go_wp2_with fail
      refine (xwithin (l0_0.length : Int) 2 12 true _ H1.out).mono ?_
      rintro e w' ⟨rfl, rfl⟩
      go_wp2_with fail
      refine (xwithin a0_1 2 11 false _ H2.out).mono ?_
      rintro e w' ⟨rfl, rfl⟩
      go_wp2
      go_ret
      exact ⟨rfl, (Below.refl _ _).alloc (Nat.le_refl _) _⟩
    | true =>
      have H2 := Lib.hid h2
      have hm : 2 ≤ a0_1 ∧ a0_1 ≤ 11 := by simp at h2; omega
      clear h2
      simp only [Bool.true_and]
      obtain ⟨b, off, rfl, hb, hcells⟩ := at_none HR.out (by omega)
      clear HR
      have hp := pred (some ⟨b, off, none⟩) l0_0.length c0_0 a0_1 w.heap.size (w.alloc (.cells #[.slice (some ⟨b, off, none⟩) l0_0.length c0_0, .int .i64 a0_1] 32)) hm (by simp) (by simp) (by simp)
      have eg : ∀ args w, (callFunc 48 args).run Try.prog w = .ok (.enter 48 args) w := enters_of Try.func48 (by kernel_rfl) rfl
      have hcon := AnyE.slices_ContainsFunc lContains (Value.int .i64) _ 48 #[.pointer (some ⟨w.heap.size, 0, none⟩)] eg b off l0_0.length c0_0 l0_0 _ hp (Nat.le_refl _) hbig (fun j hj => Lib.cell?_alloc_some _ (hcells j hj))
      change Calls Try.prog 47 _ _ _ at hcon
      have Hcon := Lib.hid hcon
      have hall : ∀ q : Bool, q = ((l0_0.take l0_0.length).any fun x => !(decide (0 ≤ x) && decide (x ≤ a0_1 - 1))) → (!q) = l0_0.all (fun x => decide (0 ≤ x) && decide (x ≤ a0_1 - 1)) := by
        intro q hq
        rw [hq, List.take_length, ← List.not_all_eq_any_not, Bool.not_not]
      have Hall := Lib.hid hall
      clear hcells hbig hlen hm hp eg hcon hall hb hc0_0
      go_enter Try.func30, Try.ntmps30
      go_wp2_with fail
      refine (xwithin (l0_0.length : Int) 2 12 true _ H1.out).mono ?_
      rintro e w' ⟨rfl, rfl⟩
      go_wp2_with fail
      refine (xwithin a0_1 2 11 true _ H2.out).mono ?_
      rintro e w' ⟨rfl, rfl⟩
      go_wp2_with fail
      refine Hcon.out.mono ?_
      generalize hq : ((l0_0.take l0_0.length).any fun x => !(decide (0 ≤ x) && decide (x ≤ a0_1 - 1))) = q
      have Hq := Lib.hid hq
      clear hq
      rintro e w' ⟨rfl, n, rfl⟩
      go_wp2
      go_ret
      exact ⟨by rw [← Hall.out q Hq.out.symm]; rfl, below_drewN' ((Below.refl _ w).alloc (Nat.le_refl _) _) n⟩
end Go.Proofs.Ytkbbmkbkpkmdkaa.Ext
