/- The contract of impl.turned: the text told from its end. Condition: at most 1000 bytes (else the told function answers nothing). -/
import Derived.Test.YthkjedplcebpjagDoorProg
import Derived.WalkKit
import Derived.KernelRfl
import Derived.Below
import Derived.Lib.ConvBytes
import Derived.Lib.Hide
import Derived.Shelf.SlGeneric
import Derived.Shelf.SlicesE.Reverse
import Derived.Test.YthkjedplcebpjagDoorWWords
namespace Go.Proofs.YthkjedplcebpjagDoor.Ext
open Go.RowKit Go.Shelf Go.Sort Go.Lib Go.Proofs.YthkjedplcebpjagDoorW.PrintWords
def lReverse_ren : Go.Shelf.Ren := ⟨fun | 35 => 42 | n => n, fun | 22 => 42 | 23 => 5 | 3 => 3 | 4 => 4 | 0 => 0 | n => n, fun | n => n⟩
theorem lReverse : Go.Proofs.SlLaysE.n35 Tryd.prog lReverse_ren := {
  mixed := by kernel_rfl
  f35 := ⟨Tryd.f42.name, by decide, Tryd.func42.trans (congrArg some (by kernel_rfl))⟩
  t0 := Tryd.underlying0
  a0 := Tryd.isAgg0
  z0 := Tryd.sizeOf0
  v0 := Tryd.zeroValue0
  t3 := Tryd.underlying3
  a3 := Tryd.isAgg3
  z3 := Tryd.sizeOf3
  v3 := Tryd.zeroValue3
  t4 := Tryd.underlying4
  a4 := Tryd.isAgg4
  z4 := Tryd.sizeOf4
  v4 := Tryd.zeroValue4
  t22 := Tryd.underlying42
  a22 := Tryd.isAgg42
  z22 := Tryd.sizeOf42
  v22 := Tryd.zeroValue42
  a23 := Tryd.isAgg5
  z23 := Tryd.sizeOf5 }
def encB (n : Int) : Value := .int .u8 n
theorem encB_one : OneCell encB := fun _ => rfl
theorem bytesWorld_frozen (w : World) (e : TypeId) (s : ByteArray) (j : Nat) (hj : j < s.size) : (Lib.bytesWorld w e s).frozen? ⟨w.heap.size, j, none⟩ = false := by
  have h := Lib.bytesWorld_at_new w e s
  have hz : s.size ≤ (Lib.bytesCells w e s).size := by simp [Lib.bytesCells]
  simp [World.frozen?, h]
  omega
theorem bytesWorld_below (w : World) (e : TypeId) (s : ByteArray) : Below w.heap.size w (Lib.bytesWorld w e s) :=
  ⟨rfl, rfl, rfl, by rw [Lib.bytesWorld_size]; omega, fun k hk => Lib.bytesWorld_at_old w e s k hk⟩
theorem bytesWorld_holds (w : World) (e : TypeId) (s : ByteArray) : Holds encB (Lib.bytesWorld w e s) w.heap.size 0 (bytesOf s).toArray := by
  intro j hj
  have hj' : j < s.size := by simpa [bytesOf_length] using hj
  refine ⟨?_, by rw [Nat.zero_add]; exact bytesWorld_frozen w e s j hj'⟩
  rw [Nat.zero_add, Lib.bytesWorld_cell w e s j hj', getElem!_pos _ j hj, List.getElem_toArray]
  have hl : j < s.data.toList.length := by simpa using hj'
  simp [encB, bytesOf, List.getD_eq_getElem?_getD, List.getElem?_eq_getElem hl]
theorem holds_reads {w : World} {g n : Nat} {xs : List Int} (h : Holds encB w g 0 xs.toArray) (hn : n = xs.length) (hm : n ≤ 9223372036854775807) : ReadsInt w .u8 (some ⟨g, 0, none⟩) n xs := by
  refine ⟨hn.symm, hm, fun _ => ⟨_, rfl, fun j hj => ?_⟩⟩
  have hj' : j < xs.toArray.size := by simp; omega
  have hc := (h j hj').1
  rw [getElem!_pos _ j hj', List.getElem_toArray, Nat.zero_add] at hc
  have hl : j < xs.length := by omega
  have ha : (⟨g, 0, none⟩ : Addr).add j = ⟨g, j, none⟩ := by
    unfold Addr.add
    split
    · subst_vars; rfl
    · simp
  rw [ha, hc]
  simp [encB, List.getD_eq_getElem?_getD, List.getElem?_eq_getElem hl]
theorem putRow_below {w W : World} {g : Nat} {d : Array Int} (hb : Below w.heap.size w W) (hg : w.heap.size ≤ g) (n : Nat) : Below w.heap.size w (putRow encB (Sort.ahead W n) g 0 d) := by
  refine ⟨hb.os, hb.tape, hb.output, by rw [size_putRow]; exact hb.size, fun k hk => ?_⟩
  rw [← hb.block k hk]
  have hne : g ≠ k := by omega
  simp [putRow, mapBlock, Sort.ahead, Array.getElem?_modify, hne]
/-- The text from its end. -/
def revB (s : ByteArray) : ByteArray := strOfNums (bytesOf s).reverse
def impl_turned.f (a0 : ByteArray) : Option (ByteArray) := if a0.size ≤ 1000 then some (revB a0) else none
set_option maxHeartbeats 800000 in
set_option maxRecDepth 100000 in
theorem impl_turned.calls (a0 : ByteArray) (r : ByteArray) (w : World) (h : impl_turned.f a0 = some r) :
    Calls Tryd.prog 34 #[.string a0] w fun e w' => e = .returned (.string r) ∧ Below w.heap.size w w' := by
  unfold impl_turned.f at h
  by_cases hs : a0.size ≤ 1000
  · rw [if_pos hs] at h
    obtain rfl := Option.some.inj h
    clear h
    obtain ⟨cap, W1, hconv, hH, hB, hz⟩ : ∃ (cap : Nat) (W1 : World), (convert 9 42 (.string a0)).run Tryd.prog w = .ok (.slice (some ⟨w.heap.size, 0, none⟩) a0.size cap) W1 ∧ Holds encB W1 w.heap.size 0 (bytesOf a0).toArray ∧ Below w.heap.size w W1 ∧ W1.heap.size = w.heap.size + 1 :=
      ⟨_, _, Lib.run_convert_string_bytes w 9 42 5 a0 Tryd.underlying9 Tryd.underlying42 Tryd.underlying5, bytesWorld_holds w 5 a0, bytesWorld_below w 5 a0, Lib.bytesWorld_size w 5 a0⟩
    have hrev : Calls Tryd.prog 42 #[.slice (some ⟨w.heap.size, 0, none⟩) a0.size cap] W1 fun e w' => e = .returned (.tuple #[]) ∧ (convert 42 9 (.slice (some ⟨w.heap.size, 0, none⟩) a0.size cap)).run Tryd.prog w' = .ok (.string (revB a0)) w' ∧ Below w.heap.size w w' := by
      have := AnyE.slices_Reverse lReverse encB encB_one w.heap.size 0 cap (bytesOf a0) W1 hH (by rw [bytesOf_length]; omega)
      rw [bytesOf_length] at this
      refine this.mono ?_
      rintro e w' ⟨rfl, n, rfl⟩
      have hH2 : Holds encB (putRow encB (Sort.ahead W1 n) w.heap.size 0 (bytesOf a0).reverse.toArray) w.heap.size 0 (bytesOf a0).reverse.toArray :=
        holds_putRow encB _ _ _ (bytesOf a0).toArray _ (holds_ahead encB W1 n _ _ _ hH) (by simp)
      exact ⟨rfl, string_of_reads Tryd.underlying42 Tryd.underlying5 Tryd.underlying9 (holds_reads hH2 (by simp [bytesOf_length]) (by omega)), putRow_below hB (Nat.le_refl _) n⟩
    have Hrev := Lib.hid hrev
    clear hrev hH hB hz
    go_enter Tryd.func34, Tryd.ntmps34
    go_wp2_with fail
    refine Hrev.out.mono ?_
    rintro e w' ⟨rfl, hback, hb⟩
    have HB := Lib.hid hb
    clear hb
    go_wp2
    go_ret
    exact ⟨rfl, HB.out⟩
  · rw [if_neg hs] at h; cases h
end Go.Proofs.YthkjedplcebpjagDoor.Ext
