/- The contract of slices.Sort over a slice of texts of the call's own: the texts in order. Condition: less than a million texts. -/
import Derived.Test.YthkjedplcebpjacDoorShelfG
import Derived.Lib.OwnBridge
import Derived.Shelf.SortM.SortNone
import Derived.Test.YthkjedplcebpjacDoorWKept
namespace Go.Proofs.YthkjedplcebpjacDoor.Ext
set_option linter.unusedVariables false
open Go.RowKit Go.Shelf Go.Lib Go.Proofs.YthkjedplcebpjacDoorW.PrintWords Go.Proofs.YthkjedplcebpjacDoorW.PrintLast
def sortS (xs : List ByteArray) : List ByteArray := ((xs.map (·.data.toList)).mergeSort fun x y => decide (x ≤ y)).map fun l => ⟨l.toArray⟩
def slices_Sort_str.f (l0 : List ByteArray) : Option (List ByteArray) := if l0.length < 1000000 then some (sortS l0) else none
theorem sortS_length (xs : List ByteArray) : (sortS xs).length = xs.length := by simp [sortS]
theorem below_grown_ {B : Nat} {w0 W : World} (h : Below B w0 W) (hB : B ≤ W.heap.size) (os : Array Obj) : Below B w0 (Go.Sort.grow W os) :=
  ⟨h.os, h.tape, h.output, by have := h.size; simp [Go.Sort.grow]; omega, fun k hk => by
    rw [← h.block k hk]
    simp [Go.Sort.grow, Array.getElem?_append_left (show k < W.heap.size by omega)]⟩
theorem encs_map {α : Type} (enc : α → Value) (xs : List α) : encs enc xs = xs.map enc := by
  induction xs with
  | nil => rfl
  | cons x xs ih => simp [encs] at *
theorem slices_Sort_str.calls (P0_ : Nat → Prop) (u9000_ : Value) (l0 : List ByteArray) (r : List ByteArray) (w0 w : World) (hB : Below w0.heap.size w0 w) (ho0 : Kd.string.R 9 w w0.heap.size P0_ u9000_ l0) (h : slices_Sort_str.f l0 = some r) :
    Calls Tryd.prog 22 #[u9000_] w fun e w' => e = .returned (.tuple #[]) ∧ Kd.string.R 9 w' w0.heap.size (fun k_ => P0_ k_ ∨ w.heap.size ≤ k_) u9000_ r ∧ Below w0.heap.size w0 w' ∧ Kept w w' P0_ := by
  unfold slices_Sort_str.f at h
  split at h
  · rename_i hl
    obtain rfl := Option.some.inj h
    have ho := Kd.own_of_R ho0
    rw [encs_map] at ho
    by_cases hv : u9000_ = .slice none 0 0
    · have hl0 : l0 = [] := by
        rcases ho.2 with ⟨_, h2⟩ | ⟨g, cap, cur, h1, _⟩
        · exact List.length_eq_zero_iff.1 h2
        · rw [hv] at h1; cases h1
      subst hl0
      subst hv
      refine (AnyM.slices_Sort_string_none Tryd.lSortS none 0 w).mono ?_
      rintro e w' ⟨rfl, rfl⟩
      exact ⟨rfl, by rw [show sortS [] = [] by simp [sortS]]; exact Kd.R_nil _ _ _ _ _, hB, Kept.refl _ _⟩
    · have ho2 : w.ownsRow w0.heap.size 9 1 u9000_ l0.length ((l0.map (·.data.toList)).map encStr) := by rw [map_encStr]; exact ho
      obtain ⟨g, cap, rfl, hb, hlt, hn, hm, hzl, hH⟩ := holds_of_ownsRow ho2 hv
      have hlen : (l0.map (·.data.toList)).length = l0.length := by simp
      have hc := AnyM.slices_Sort_string Tryd.lSortS g 0 cap (l0.map (·.data.toList)) w hH hlt (by rw [hlen]; omega)
      rw [hlen] at hc
      refine hc.mono ?_
      rintro e w' ⟨rfl, n, os, rfl⟩
      have hP : P0_ g := ho0.1 g rfl
      have hlen2 : ((l0.map (·.data.toList)).mergeSort fun x y => decide (x ≤ y)).length = l0.length := by simp
      have hrow := ownsRow_putRow (q := n) (k := l0.length) ho2 hlen2 (Nat.le_refl _)
      have hsz : (Go.Sort.putRow encStr (Go.Sort.ahead w n) g 0 ((l0.map (·.data.toList)).mergeSort fun x y => decide (x ≤ y)).toArray).heap.size = w.heap.size := by simp [Go.Sort.putRow, Go.Sort.mapBlock, Go.Sort.ahead]
      refine ⟨rfl, ?_, ?_, ?_⟩
      · refine Kd.R_of_own ?_ (fun k hk => .inl (ho0.1 k hk))
        rw [encs_map, sortS_length]
        have e1 : (sortS l0).map Value.string = (((l0.map (·.data.toList)).mergeSort fun x y => decide (x ≤ y)).take l0.length).map encStr := by
          rw [List.take_of_length_le (by omega)]
          unfold sortS
          rw [List.map_map]
          rfl
        rw [e1]
        refine own_move hrow (fun k hk => ?_)
        have hk' : g = k := by simpa [Value.ownBlock] using hk
        subst hk'
        simp only [Go.Sort.grow]
        rw [Array.getElem?_append_left (by rw [hsz]; exact hlt)]
      · exact below_grown_ (below_putRow hB hb) (by rw [hsz]; exact hB.size) os
      · refine ⟨?_, fun i hi hni => ?_⟩
        · simp only [Go.Sort.grow, Array.size_append, hsz]; omega
        · simp only [Go.Sort.grow]
          rw [Array.getElem?_append_left (by rw [hsz]; exact hi)]
          have hne : g ≠ i := fun e => hni (e ▸ hP)
          simp [Go.Sort.putRow, Go.Sort.mapBlock, Go.Sort.ahead, Array.getElem?_modify, hne]
  · exact absurd h (by simp)
end Go.Proofs.YthkjedplcebpjacDoor.Ext
