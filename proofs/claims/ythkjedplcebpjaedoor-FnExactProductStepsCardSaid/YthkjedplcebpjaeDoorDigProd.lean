/- The contract of impl.digitProduct: the product of the digits of a number from 0 on. Conditions: the table of powers of ten reads as it was laid; the told function answers nothing elsewhere. -/
import Derived.Test.YthkjedplcebpjaeDoorItoa
import Derived.WalkKit
import Derived.KernelRfl
import Derived.Below
import Derived.Lib.ConvBytes
import Derived.Lib.Hide
import Derived.Shelf.SlGeneric
import Derived.Shelf.SlicesE.Kit
import Derived.Test.YthkjedplcebpjaeDoorWWords
import Derived.Test.YthkjedplcebpjaeDoorWLast
import Derived.Test.YthkjedplcebpjaeDoorWMore
namespace Go.Proofs.YthkjedplcebpjaeDoor.Ext
set_option linter.unusedVariables false
open Go.RowKit Go.Shelf Go.Sort Go.Lib Go.Proofs.YthkjedplcebpjaeDoorW.PrintWords Go.Proofs.YthkjedplcebpjaeDoorW.PrintLast Go.Proofs.YthkjedplcebpjaeDoorW.PrintMore
def encB (n : Int) : Value := .int .u8 n
theorem bytesWorld_frozen (w : World) (e : TypeId) (s : ByteArray) (j : Nat) (hj : j < s.size) : (Lib.bytesWorld w e s).frozen? ⟨w.heap.size, j, none⟩ = false := by
  have h := Lib.bytesWorld_at_new w e s
  have hz : s.size ≤ (Lib.bytesCells w e s).size := by simp [Lib.bytesCells]
  simp [World.frozen?, h]
  omega
theorem bytesWorld_below (w : World) (e : TypeId) (s : ByteArray) : Below w.heap.size w (Lib.bytesWorld w e s) :=
  ⟨rfl, rfl, rfl, by rw [Lib.bytesWorld_size]; omega, fun k hk => Lib.bytesWorld_at_old w e s k hk⟩
theorem bytesWorld_holds (w : World) (e : TypeId) (s : ByteArray) : Holds encB (Lib.bytesWorld w e s) w.heap.size 0 (bytesOf s).toArray := by
  intro j hj
  have hj' : j < s.size := by simpa [bytesOf_length] using hj
  refine ⟨?_, by rw [Nat.zero_add]; exact bytesWorld_frozen w e s j hj'⟩
  rw [Nat.zero_add, Lib.bytesWorld_cell w e s j hj', getElem!_pos _ j hj, List.getElem_toArray]
  have hl : j < s.data.toList.length := by simpa using hj'
  simp [encB, bytesOf, List.getD_eq_getElem?_getD, List.getElem?_eq_getElem hl]
theorem holds_at {W : World} {g j : Nat} {xs : List Int} {v : Int} (H : Holds encB W g 0 xs.toArray) (h : xs[j]? = some v) : W.cell? ⟨g, j, none⟩ = some (.int .u8 v) ∧ W.frozen? ⟨g, j, none⟩ = false := by
  have hj : j < xs.length := by
    by_cases hh : j < xs.length
    · exact hh
    · rw [List.getElem?_eq_none (by omega)] at h; cases h
  obtain ⟨h1, h2⟩ := H j (by simpa using hj)
  rw [Nat.zero_add] at h1 h2
  refine ⟨?_, h2⟩
  rw [h1, getElem!_pos xs.toArray j (by simpa using hj)]
  rw [List.getElem?_eq_getElem hj] at h
  simp only [List.getElem_toArray, Option.some.inj h]
  rfl
/-- The product of digits, as Go reckons it. -/
def prodW (l : List Int) : Int := l.foldl (fun p c => wrap64 (p * ((c - 48) % 256))) 1
theorem prodW_snoc (l : List Int) (c : Int) : prodW (l ++ [c]) = wrap64 (prodW l * ((c - 48) % 256)) := by unfold prodW; rw [List.foldl_append]; rfl
theorem prodW_take {xs : List Int} {j : Nat} (h : j < xs.length) : prodW (xs.take (j + 1)) = wrap64 (prodW (xs.take j) * ((xs[j] - 48) % 256)) := by
  rw [List.take_succ_eq_append_getElem h, prodW_snoc]
def itoaT (a0 : Int) : ByteArray := ⟨(Lib.itoa a0).toArray⟩
def impl_digitProduct.f (a0 : Int) : Option (Int) := if 0 ≤ a0 ∧ a0 ≤ 9223372036854775807 ∧ (itoaT a0).size ≤ 1000 then some (prodW (bytesOf (itoaT a0))) else none
set_option maxHeartbeats 4000000 in
set_option maxRecDepth 100000 in
theorem impl_digitProduct.calls (a0 : Int) (r : Int) (w : World) (h : impl_digitProduct.f a0 = some r) (hT : Tab w) :
    Calls Tryd.prog 32 #[.int .i64 a0] w fun e w' => e = .returned (.int .i64 r) ∧ Below w.heap.size w w' := by
  have HT0 := Aside0.mk hT
  clear hT
  have HB := Aside0.mk (Below.refl w.heap.size w)
  unfold impl_digitProduct.f at h
  by_cases hs : 0 ≤ a0 ∧ a0 ≤ 9223372036854775807 ∧ (itoaT a0).size ≤ 1000
  · rw [if_pos hs] at h
    have ER := Aside0.mk (Option.some.inj h)
    clear h
    have A4 := Aside0.mk (show strconv_Itoa.f a0 = some (itoaT a0) from by unfold strconv_Itoa.f; rw [if_pos ⟨by omega, hs.2.1⟩]; rfl)
    have HS := Aside0.mk hs.2.2
    clear hs
    go_enter Tryd.func32, Tryd.ntmps32
    go_wp2_with (first | ((with_reducible refine gate_callee (f := 27) rfl ?_); refine goesL_ (some 7) rfl rfl Tryd.func27 (by kernel_rfl) rfl #[.int .i64 a0] rfl (by (try simp only [List.map_toArray, List.map_cons, List.map_nil]); first | done | rfl) ?_; (with_reducible refine (strconv_Itoa.calls a0 (itoaT a0) _ A4.out ?sideT_).mono ?_); (case sideT_ => exact Tab.at_ HT0.out (by repeat (first | (with_reducible first | exact HB.out | apply below_alloc | apply pw_below_drewN | apply below_drew1) | exact HB.out))); rintro e w5 ⟨rfl, hb⟩; refine ⟨_, rfl, ?_⟩; have n0_ := Aside0.mk (below_step (by repeat (first | (with_reducible first | exact HB.out | apply below_alloc | apply pw_below_drewN | apply below_drew1) | exact HB.out)) hb); clear HB; have HB := n0_; clear n0_ hb; (obtain ⟨cap, W1, hconv, hH, hB, hz⟩ : ∃ (cap : Nat) (W1 : World), (convert 9 48 (.string (itoaT a0))).run Tryd.prog w5 = .ok (.slice (some ⟨w5.heap.size, 0, none⟩) (itoaT a0).size cap) W1 ∧ Holds encB W1 w5.heap.size 0 (bytesOf (itoaT a0)).toArray ∧ Below w5.heap.size w5 W1 ∧ W1.heap.size = w5.heap.size + 1 := ⟨_, _, Lib.run_convert_string_bytes w5 9 48 5 (itoaT a0) Tryd.underlying9 Tryd.underlying48 Tryd.underlying5, bytesWorld_holds w5 5 (itoaT a0), bytesWorld_below w5 5 (itoaT a0), Lib.bytesWorld_size w5 5 (itoaT a0)⟩)))
    have HB2 := Aside0.mk (below_step HB.out hB)
    have HH := Aside0.mk hH
    have HL := Aside0.mk (bytesOf_length (itoaT a0))
    clear hconv hH hB hz HB A4
    generalize w5.heap.size = g at HH ⊢
    generalize bytesOf (itoaT a0) = xs at HH HL ER
    generalize (itoaT a0).size = n at HS HL ⊢
    have e0 : (1 : Int) = prodW (xs.take 0) := rfl
    have E0 := Aside0.mk e0
    clear e0
    go_loopg [3, 10] n (fun kq v3 v10 w' => ∃ (p : Int) (j : Nat), v3 = .int .i64 p ∧ v10 = .int .i64 (j : Int) ∧ Aside0 (p = prodW (xs.take j)) ∧ Aside0 (j + kq = n) ∧ Aside0 (Holds encB w' g 0 xs.toArray) ∧ Aside0 (Below w.heap.size w w'))
    case atStart => exact ⟨1, 0, rfl, rfl, E0, ⟨by omega⟩, HH, HB2⟩
    case round =>
      clear HH HB2 E0
      obtain ⟨p, j, rfl, rfl, HP, HA, HO, HB3⟩ := hrel
      cases gk with
      | zero =>
        have hjn : j = n := by have := HA.out; omega
        have cb : decide ((j : Int) < (n : Int)) = false := decide_eq_false (by omega)
        have hfin : p = r := by rw [HP.out, List.take_of_length_le (by have := HL.out; omega)]; exact ER.out
        subst hfin
        go_wp2
        go_ret
        exact ⟨rfl, HB3.out⟩
      | succ k1 =>
        have hj : j < n := by have := HA.out; omega
        have hjx : j < xs.length := by have := HL.out; omega
        have cb : decide ((j : Int) < (n : Int)) = true := decide_eq_true (by omega)
        obtain ⟨hx, hf⟩ := holds_at HO.out (List.getElem?_eq_getElem hjx)
        have p0 : (0 ≤ (j : Int)) = True := eq_true (by omega)
        have q0 : ((j : Int) < (n : Int)) = True := eq_true (by omega)
        have hx2 : wr.cell? ⟨g, ((j : Int)).toNat, none⟩ = some (.int .u8 xs[j]) := by rw [Int.toNat_natCast]; exact hx
        have hw1 : wrap64 ((j : Int) + 1) = ((j + 1 : Nat) : Int) := by
          have := HS.out
          unfold wrap64; omega
        have HP2 := Aside0.mk (show wrap64 (p * ((xs[j] - 48) % 256)) = prodW (xs.take (j + 1)) by rw [prodW_take hjx, HP.out])
        go_wp2
        go_roundg k1
        case measure => have := HA.out; omega
        case rel => exact ⟨wrap64 (p * ((xs[j] - 48) % 256)), j + 1, (by first | rfl | (simp; done) | (simp [*]; done)), (by first | rfl | (rw [hw1]) | (simp [hw1])), HP2, ⟨by have := HA.out; omega⟩, HO, HB3⟩
  · rw [if_neg hs] at h; cases h
end Go.Proofs.YthkjedplcebpjaeDoor.Ext
