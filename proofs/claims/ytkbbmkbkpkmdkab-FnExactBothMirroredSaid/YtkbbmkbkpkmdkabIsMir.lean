/- The contract of impl.isMirrored: the digits of a number laid in a local array of nine, then the two ends compared. Condition: 1 to 9 digits, a number that is not negative. -/
import Derived.Test.YtkbbmkbkpkmdkabBytes
import Derived.Sort.WalkA
namespace Go.Proofs.Ytkbbmkbkpkmdkab.Ext
set_option linter.unusedVariables false
set_option linter.unusedSimpArgs false
open Go.RowKit Go.Sort Go.Lib Go.Proofs.YtkbbmkbkpkmdkabW.PrintWords
def mirArr (n m : Nat) : Array Int := ((List.range 9).map (fun t => if t < m then ((n / 10 ^ t % 10 : Nat) : Int) else 0)).toArray
theorem mirArr_size (n m : Nat) : (mirArr n m).size = 9 := by simp [mirArr]
theorem mirArr_at (n m t : Nat) (h : t < 9) : (mirArr n m)[t]! = if t < m then ((n / 10 ^ t % 10 : Nat) : Int) else 0 := by
  rw [getElem!_pos _ t (by rw [mirArr_size]; exact h)]
  simp [mirArr]
theorem mirArr_set (n m : Nat) (h : m < 9) : (mirArr n m).setIfInBounds m ((n / 10 ^ m % 10 : Nat) : Int) = mirArr n (m + 1) := by
  apply Array.ext
  · simp [mirArr]
  · intro t h1 h2
    have ht : t < 9 := by simpa [mirArr] using h2
    rw [Array.getElem_setIfInBounds]
    · simp only [mirArr, List.getElem_toArray, List.getElem_map, List.getElem_range]
      by_cases e : m = t
      · subst e; simp
      · rw [if_neg e]
        by_cases c : t < m
        · rw [if_pos c, if_pos (by omega)]
        · rw [if_neg c, if_neg (by omega)]
    · rw [mirArr_size]; exact ht
theorem putRow_belowI {w W : World} {g : Nat} {d : Array Int} (hb : Below w.heap.size w W) (hg : g = w.heap.size) (n : Nat) : Below w.heap.size w (putRow (Value.int .i64) (Sort.ahead W n) g 0 d) := by
  refine ⟨hb.os, hb.tape, hb.output, by rw [size_putRow]; exact hb.size, fun k hk => ?_⟩
  rw [← hb.block k hk]
  have hne : g ≠ k := by omega
  simp [putRow, mapBlock, Sort.ahead, Array.getElem?_modify, hne]
def mirEq (n k : Nat) : Nat → Bool
  | 0 => true
  | j + 1 => mirEq n k j && (n / 10 ^ j % 10 == n / 10 ^ (k - 1 - j) % 10)
theorem mirEq_false (n k j : Nat) (h : mirEq n k j = false) : ∀ t, j ≤ t → mirEq n k t = false := by
  intro t ht
  induction t with
  | zero => rwa [show j = 0 by omega] at h
  | succ t ih =>
    by_cases e : j = t + 1
    · rwa [e] at h
    · rw [mirEq, ih (by omega)]; rfl
def impl_isMirrored.f (a0 a1 : Int) : Option Bool := if 0 ≤ a0 ∧ a0 ≤ 1000000000 ∧ 1 ≤ a1 ∧ a1 ≤ 9 then some (mirEq a0.toNat a1.toNat (a1.toNat / 2)) else none
theorem frozen_beyond_ (w : World) (j : Nat) : w.frozen? ⟨w.heap.size, j, none⟩ = false := by
  unfold World.frozen?
  simp
set_option maxHeartbeats 4000000 in
set_option maxRecDepth 100000 in
theorem impl_isMirrored.calls (a0 a1 : Int) (r : Bool) (w : World) (h : impl_isMirrored.f a0 a1 = some r) :
    Calls Try.prog 45 #[.int .i64 a0, .int .i64 a1] w fun e w' => e = .returned (.bool r) ∧ Below w.heap.size w w' := by
  unfold impl_isMirrored.f at h
  split at h
  case isFalse => cases h
  rename_i hs
  obtain ⟨hs1, hs2, hs3, hs4⟩ := hs
  obtain ⟨n, rfl⟩ : ∃ n : Nat, a0 = (n : Int) := ⟨a0.toNat, by omega⟩
  obtain ⟨k, rfl⟩ : ∃ k : Nat, a1 = (k : Int) := ⟨a1.toNat, by omega⟩
  rw [Int.toNat_natCast, Int.toNat_natCast] at h
  have H0 := Lib.hid (Option.some.inj h)
  clear h
  obtain ⟨W1, hW⟩ : ∃ W1 : World, W1 = w.alloc (Obj.cells #[Value.int .i64 0, Value.int .i64 0, Value.int .i64 0, Value.int .i64 0, Value.int .i64 0, Value.int .i64 0, Value.int .i64 0, Value.int .i64 0, Value.int .i64 0] 61) := ⟨_, rfl⟩
  obtain ⟨g, hg⟩ : ∃ g : Nat, g = w.heap.size := ⟨_, rfl⟩
  have HB := Lib.hid (show Below w.heap.size w W1 by rw [hW]; exact (Below.refl _ w).alloc (Nat.le_refl _) _)
  have HH := Lib.hid (show Holds (Value.int .i64) W1 g 0 (mirArr n 0) by
    intro j hj
    rw [mirArr_size] at hj
    rw [hW, hg, Nat.zero_add, mirArr_at n 0 j hj, if_neg (by omega), frozen?_alloc_cells]
    refine ⟨?_, ?_⟩
    · rw [World.cell?_alloc_at _ _ _ _ rfl]
      match j, hj with
      | 0, _ => rfl
      | 1, _ => rfl
      | 2, _ => rfl
      | 3, _ => rfl
      | 4, _ => rfl
      | 5, _ => rfl
      | 6, _ => rfl
      | 7, _ => rfl
      | 8, _ => rfl
    · exact frozen_beyond_ w j)
  have HG := Lib.hid hg
  have HW := Lib.hid hW
  clear hg hW
  go_enter Try.func45, Try.ntmps45
  go_wp2
  rw [← HW.out, ← HG.out]
  go_loopw [0, 10] (fun v0 v10 wr => ∃ (m q : Nat), v0 = .int .i64 ((n / 10 ^ m : Nat) : Int) ∧ v10 = .int .i64 (m : Int) ∧ m ≤ k ∧ wr = putRow (Value.int .i64) (Sort.ahead W1 q) g 0 (mirArr n m)) (fun _ v10 _ => k - (intOf v10).toNat)
  case atStart => exact ⟨0, 0, by simp, rfl, by omega, (putRow_self (Value.int .i64) (Sort.ahead W1 0) g 0 _ HH.out).symm⟩
  case round =>
    obtain ⟨m, q, rfl, rfl, hm, hwr⟩ := hrel
    by_cases hlt : m < k
    · obtain ⟨c, hc⟩ : ∃ c : Nat, c = n / 10 ^ m := ⟨_, rfl⟩
      rw [← hc]
      have hh := holds_putRow (Value.int .i64) (Sort.ahead W1 q) g 0 (mirArr n 0) (mirArr n m) (holds_ahead _ _ _ _ _ _ HH.out) (by rw [mirArr_size, mirArr_size]) m (by rw [mirArr_size]; omega)
      rw [Nat.zero_add, ← hwr] at hh
      obtain ⟨hc1, hf1⟩ := hh
      have HW2 := Lib.hid hwr
      have HC := Lib.hid hc
      clear hwr hc
      have p0 : (0 ≤ (m : Int)) = True := eq_true (by omega)
      have q0 : ((m : Int) < 9) = True := eq_true (by omega)
      have r0 : ((m : Int) < (k : Int)) = True := eq_true (by omega)
      go_wp2
      have hcn : c ≤ n := by rw [HC.out]; exact Nat.div_le_self _ _
      have hw1 : wrap64 ((c : Int) / 10) = ((n / 10 ^ (m + 1) : Nat) : Int) := by
        rw [show n / 10 ^ (m + 1) = c / 10 by rw [HC.out, Nat.div_div_eq_div_mul, Nat.pow_succ]]
        unfold wrap64; omega
      go_roundw
      case rel => exact ⟨m + 1, q, by rw [hw1], by congr 1, by omega, by
        rw [HW2.out, ← mirArr_set n m (by omega), ← HC.out]
        have h5 := putRow_set (Value.int .i64) (Sort.ahead W1 q) g 0 (mirArr n m) m ((c % 10 : Nat) : Int) (by rw [mirArr_size]; omega)
        rw [Nat.zero_add] at h5
        rw [← h5]
        congr 2⟩
      case measure => simp only [intOf]; omega
    · obtain rfl : m = k := by omega
      have r0 : ((m : Int) < (m : Int)) = False := eq_false (by omega)
      have HW2 := Lib.hid hwr
      have hh : ∀ j, j < 9 → wr.cell? ⟨g, j, none⟩ = some (Value.int .i64 (mirArr n m)[j]!) := by
        intro j hj
        have hh := (holds_putRow (Value.int .i64) (Sort.ahead W1 q) g 0 (mirArr n 0) (mirArr n m) (holds_ahead _ _ _ _ _ _ HH.out) (by rw [mirArr_size, mirArr_size]) j (by rw [mirArr_size]; omega)).1
        rw [Nat.zero_add] at hh
        rw [hwr]; exact hh
      have HHH := Lib.hid hh
      clear hwr hh
      go_wp2
      go_loopw [22] (fun v22 wx => ∃ (j q2 : Nat), v22 = .int .i64 (j : Int) ∧ j ≤ m / 2 ∧ wx = wr.drewN q2 ∧ mirEq n m j = true) (fun v22 _ => m / 2 - (intOf v22).toNat)
      case atStart => exact ⟨0, 0, rfl, by omega, rfl, rfl⟩
      case round =>
        obtain ⟨j, q2, rfl, hj, hwx, he⟩ := hrel
        by_cases hlt2 : j < m / 2
        · have hc1 := HHH.out j (by omega)
          have hc2 := HHH.out (m - 1 - j) (by omega)
          rw [mirArr_at n m j (by omega), if_pos (by omega)] at hc1
          rw [mirArr_at n m _ (by omega), if_pos (by omega)] at hc2
          obtain ⟨x, hx⟩ : ∃ x : Nat, x = n / 10 ^ j % 10 := ⟨_, rfl⟩
          obtain ⟨y, hy⟩ : ∃ y : Nat, y = n / 10 ^ (m - 1 - j) % 10 := ⟨_, rfl⟩
          obtain ⟨p, hp⟩ : ∃ p : Nat, p = m - 1 - j := ⟨_, rfl⟩
          rw [← hx] at hc1
          rw [← hy, ← hp] at hc2
          have HE := Lib.hid (show mirEq n m (j + 1) = (x == y) by rw [mirEq, he, hx, hy]; rfl)
          have c1 : wr.cell? ⟨g, j, none⟩ = some (Value.int .i64 (x : Int)) := by rw [hwx]; exact hc1
          have c2 : wr.cell? ⟨g, p, none⟩ = some (Value.int .i64 (y : Int)) := by rw [hwx]; exact hc2
          have HX := Lib.hid hwx
          clear hx hy hc1 hc2 hwx
          have r1 : ((j : Int) < (m : Int) / 2) = True := eq_true (by omega)
          have e1 : (IntKind.i64).wrap ((m : Int) - 1) = ((m - 1 : Nat) : Int) := by rw [IntKind.wrap_i64]; omega
          have e2 : (IntKind.i64).wrap (((m - 1 : Nat) : Int) - (j : Int)) = (p : Int) := by rw [IntKind.wrap_i64]; omega
          have p1 : (0 ≤ (j : Int)) = True := eq_true (by omega)
          have q1 : ((j : Int) < 9) = True := eq_true (by omega)
          have p2 : (0 ≤ (p : Int)) = True := eq_true (by omega)
          have q2' : ((p : Int) < 9) = True := eq_true (by omega)
          have HP := Lib.hid hp
          clear hp
          by_cases hxy : x = y
          · subst hxy
            go_wp2
            go_quiet (fail)
            go_wp2
            go_roundw
            case rel => exact ⟨j + 1, q2 + nq, by first | rfl | (congr 1; omega), by omega, by rw [HX.out]; simp [World.drewN, Nat.add_assoc], by rw [HE.out]; simp⟩
            case measure => simp only [intOf]; omega
          · have hne : ((x : Int) = (y : Int)) = False := eq_false (by omega)
            go_wp2
            go_quiet (fail)
            go_wp2
            have E := H0.out
            rw [mirEq_false n m (j + 1) (by rw [HE.out]; simpa using hxy) (m / 2) (by omega)] at E
            subst E
            all_goals first
              | (go_ret; exact ⟨rfl, by rw [HX.out, HW2.out]; exact pw_below_drewN (pw_below_drewN (putRow_belowI HB.out HG.out q) q2) nq⟩)
              | (exfalso; rename_i h5; simp only [bne_eq_false_iff_eq] at h5; omega)
        · have r1 : ((j : Int) < (m : Int) / 2) = False := eq_false (by omega)
          have HX := Lib.hid hwx
          clear hwx
          go_wp2
          obtain rfl : j = m / 2 := by omega
          have E := H0.out
          rw [he] at E
          subst E
          go_ret
          exact ⟨rfl, by rw [HX.out, HW2.out]; exact pw_below_drewN (putRow_belowI HB.out HG.out q) q2⟩
end Go.Proofs.Ytkbbmkbkpkmdkab.Ext
