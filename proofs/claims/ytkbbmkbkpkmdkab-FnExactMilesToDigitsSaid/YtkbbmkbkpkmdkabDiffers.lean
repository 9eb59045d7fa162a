/- The contract of impl.differs: the bytes are put in order, what is the same is taken together. Condition: at most 12 bytes (else the told function answers nothing). -/
import Derived.Test.YtkbbmkbkpkmdkabSortB
import Derived.Shelf.SlGeneric
import Derived.Shelf.SlicesE.Compact
namespace Go.Proofs.Ytkbbmkbkpkmdkab.Ext
set_option linter.unusedVariables false
set_option linter.unusedSimpArgs false
open Go.RowKit Go.Shelf Go.Sort Go.Lib Go.Proofs.YtkbbmkbkpkmdkabW.PrintWords
theorem encU_one : OneCell encU := fun _ => rfl
def lCompact_ren : Go.Shelf.Ren := ⟨fun | 43 => 48 | n => n, fun | 22 => 44 | 23 => 5 | 3 => 3 | 4 => 4 | 0 => 0 | n => n, fun | n => n⟩
theorem lCompact : Go.Proofs.SlLaysE.n43 Try.prog lCompact_ren := {
  mixed := by kernel_rfl
  f43 := ⟨Try.f48.name, by decide, Try.func48.trans (congrArg some (by kernel_rfl))⟩
  t0 := Try.underlying0
  a0 := Try.isAgg0
  z0 := Try.sizeOf0
  v0 := Try.zeroValue0
  t3 := Try.underlying3
  a3 := Try.isAgg3
  z3 := Try.sizeOf3
  v3 := Try.zeroValue3
  t4 := Try.underlying4
  a4 := Try.isAgg4
  z4 := Try.sizeOf4
  v4 := Try.zeroValue4
  t22 := Try.underlying44
  a22 := Try.isAgg44
  z22 := Try.sizeOf44
  v22 := Try.zeroValue44
  a23 := Try.isAgg5
  z23 := Try.sizeOf5 }
/-- The bytes in order. -/
def sortedB (s : ByteArray) : Array Int := Sort.insertionSort ltInt (bytesOf s).toArray 0 (bytesOf s).toArray.size
/-- How many are left when what is the same is taken together. -/
def diffV (s : ByteArray) : Nat := (compactUpTo (sortedB s) (sortedB s).size).length
def impl_differs.f (a0 : ByteArray) : Option (Int) := if a0.size ≤ 12 ∧ (sortedB a0).size = a0.size then some (diffV a0 : Int) else none
set_option maxHeartbeats 1000000 in
set_option maxRecDepth 100000 in
theorem impl_differs.calls (a0 : ByteArray) (r : Int) (w : World) (h : impl_differs.f a0 = some r) :
    Calls Try.prog 24 #[.string a0] w fun e w' => e = .returned (.int .i64 r) ∧ Below w.heap.size w w' := by
  unfold impl_differs.f at h
  by_cases hs : a0.size ≤ 12 ∧ (sortedB a0).size = a0.size
  · rw [if_pos hs] at h
    obtain rfl := Option.some.inj h
    clear h
    obtain ⟨hs, hz2⟩ := hs
    obtain ⟨cap, W1, hconv, hH, hB, hz, hcap⟩ := conv_bytes w a0
    have hbz : (bytesOf a0).toArray.size = a0.size := by simp [bytesOf_length]
    have S1 : Hid (Calls Try.prog 47 #[.slice (some ⟨w.heap.size, 0, none⟩) a0.size cap] W1 fun e w' => e = .returned (.tuple #[]) ∧ Holds encU w' w.heap.size 0 (sortedB a0) ∧ Below w.heap.size w w') := by
      have h1 := sort_small w.heap.size 0 cap (bytesOf a0).toArray W1 hH (by omega)
      rw [hbz] at h1
      refine h1.mono ?_
      rintro e w' ⟨rfl, n, rfl⟩
      have e1 : Sort.insertionSort ltInt (bytesOf a0).toArray 0 a0.size = sortedB a0 := by unfold sortedB; rw [hbz]
      rw [e1]
      exact ⟨rfl, holds_putRow encU _ _ _ (bytesOf a0).toArray _ (holds_ahead encU W1 n _ _ _ hH) (by omega), putRow_below hB (Nat.le_refl _) n⟩
    have HCAP := Lib.hid hcap
    have HZ2 := Lib.hid hz2
    have HS := Lib.hid hs
    clear hH hB hz hcap hbz hz2 hs
    go_enter Try.func24, Try.ntmps24
    go_wp2_with fail
    refine S1.out.mono ?_
    rintro e w5 ⟨rfl, hH5, hB5⟩
    have C1 : Hid (Calls Try.prog 48 #[.slice (some ⟨w.heap.size, 0, none⟩) a0.size cap] w5 fun e w' => e = .returned (.slice (some ⟨w.heap.size, 0, none⟩) (diffV a0) cap) ∧ Below w.heap.size w w') := by
      have h1 := AnyE.slices_Compact lCompact encU encU_one (EqlAt.intD _ _ _) (NeqAt.intD _ _ _) 0 Try.zeroValue5 w.heap.size 0 cap (sortedB a0) w5 hH5 (by have := HS.out; have := HZ2.out; omega) (by have := HCAP.out; have := HZ2.out; omega)
      rw [HZ2.out] at h1
      refine h1.mono ?_
      rintro e w' ⟨rfl, q, rfl⟩
      refine ⟨by unfold diffV; rw [HZ2.out], putRow_below hB5 (Nat.le_refl _) q⟩
    clear hH5 hB5
    go_wp2_with fail
    refine C1.out.mono ?_
    rintro e w6 ⟨rfl, hB6⟩
    have HB := Lib.hid hB6
    clear hB6
    go_wp2
    go_ret
    exact ⟨rfl, HB.out⟩
  · rw [if_neg hs] at h; cases h
end Go.Proofs.Ytkbbmkbkpkmdkab.Ext
