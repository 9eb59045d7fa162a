/- A text's bytes laid as a row: what the row holds, what is elder stays. No condition beyond each theorem's own. -/
import Derived.Test.YtkbbmkbkpkmdkaaProg
import Derived.WalkKit
import Derived.KernelRfl
import Derived.Below
import Derived.Lib.ConvBytes
import Derived.Lib.Hide
import Derived.Laws.AppendOwn
import Derived.Lib.RowBridge
import Derived.Test.YtkbbmkbkpkmdkaaWWords
namespace Go.Proofs.Ytkbbmkbkpkmdkaa.Ext
set_option linter.unusedVariables false
set_option linter.unusedSimpArgs false
open Go.RowKit Go.Sort Go.Lib Go.Proofs.YtkbbmkbkpkmdkaaW.PrintWords
/-- A byte told by its number. -/
def encU (n : Int) : Value := .int .u8 n
theorem bytesWorld_frozen (w : World) (e : TypeId) (s : ByteArray) (j : Nat) (hj : j < s.size) : (Lib.bytesWorld w e s).frozen? ⟨w.heap.size, j, none⟩ = false := by
  have h := Lib.bytesWorld_at_new w e s
  have hz : s.size ≤ (Lib.bytesCells w e s).size := by simp [Lib.bytesCells]
  simp [World.frozen?, h]
  omega
theorem bytesWorld_below (w : World) (e : TypeId) (s : ByteArray) : Below w.heap.size w (Lib.bytesWorld w e s) :=
  ⟨rfl, rfl, rfl, by rw [Lib.bytesWorld_size]; omega, fun k hk => Lib.bytesWorld_at_old w e s k hk⟩
theorem bytesWorld_holds (w : World) (e : TypeId) (s : ByteArray) : Holds encU (Lib.bytesWorld w e s) w.heap.size 0 (bytesOf s).toArray := by
  intro j hj
  have hj' : j < s.size := by simpa [bytesOf_length] using hj
  refine ⟨?_, by rw [Nat.zero_add]; exact bytesWorld_frozen w e s j hj'⟩
  rw [Nat.zero_add, Lib.bytesWorld_cell w e s j hj', getElem!_pos _ j hj, List.getElem_toArray]
  have hl : j < s.data.toList.length := by simpa using hj'
  simp [encU, bytesOf, List.getD_eq_getElem?_getD, List.getElem?_eq_getElem hl]
theorem holds_reads {w : World} {g n : Nat} {xs : List Int} (h : Holds encU w g 0 xs.toArray) (hn : n = xs.length) (hm : n ≤ 9223372036854775807) : ReadsInt w .u8 (some ⟨g, 0, none⟩) n xs := by
  refine ⟨hn.symm, hm, fun _ => ⟨_, rfl, fun j hj => ?_⟩⟩
  have hj' : j < xs.toArray.size := by simp; omega
  have hc := (h j hj').1
  rw [getElem!_pos _ j hj', List.getElem_toArray, Nat.zero_add] at hc
  have hl : j < xs.length := by omega
  have ha : (⟨g, 0, none⟩ : Addr).add j = ⟨g, j, none⟩ := by
    unfold Addr.add
    split
    · subst_vars; rfl
    · simp
  rw [ha, hc]
  simp [encU, List.getD_eq_getElem?_getD, List.getElem?_eq_getElem hl]
theorem putRow_below {w W : World} {g : Nat} {d : Array Int} (hb : Below w.heap.size w W) (hg : w.heap.size ≤ g) (n : Nat) : Below w.heap.size w (putRow encU (Sort.ahead W n) g 0 d) := by
  refine ⟨hb.os, hb.tape, hb.output, by rw [size_putRow]; exact hb.size, fun k hk => ?_⟩
  rw [← hb.block k hk]
  have hne : g ≠ k := by omega
  simp [putRow, mapBlock, Sort.ahead, Array.getElem?_modify, hne]
theorem conv_bytes (w : World) (s : ByteArray) : ∃ (cap : Nat) (W1 : World), (convert 9 44 (.string s)).run Try.prog w = .ok (.slice (some ⟨w.heap.size, 0, none⟩) s.size cap) W1 ∧ Holds encU W1 w.heap.size 0 (bytesOf s).toArray ∧ Below w.heap.size w W1 ∧ W1.heap.size = w.heap.size + 1 ∧ s.size ≤ cap :=
  ⟨_, _, Lib.run_convert_string_bytes w 9 44 5 s Try.underlying9 Try.underlying44 Try.underlying5, bytesWorld_holds w 5 s, bytesWorld_below w 5 s, Lib.bytesWorld_size w 5 s, grownCap_ge _ _ _ _⟩
end Go.Proofs.Ytkbbmkbkpkmdkaa.Ext
