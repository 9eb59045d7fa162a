/- The contract of impl.step: the next, or the last, order of the bytes of a text. Condition: 1 to 100 bytes (else the told function answers nothing). -/
import Derived.Test.YtkbbmkbkpkmdkaaDoorBytes
import Derived.Sort.WalkA
import Derived.Shelf.SlGeneric
import Derived.Shelf.SlicesE.Reverse
namespace Go.Proofs.YtkbbmkbkpkmdkaaDoor.Ext
set_option linter.unusedVariables false
set_option linter.unusedSimpArgs false
open Go.RowKit Go.Shelf Go.Sort Go.Lib Go.Proofs.YtkbbmkbkpkmdkaaDoorW.PrintWords
theorem encU_one : OneCell encU := fun _ => rfl
def lReverse_ren : Go.Shelf.Ren := ⟨fun | 35 => 21 | n => n, fun | 22 => 36 | 23 => 5 | 3 => 3 | 4 => 4 | 0 => 0 | n => n, fun | n => n⟩
theorem lReverse : Go.Proofs.SlLaysE.n35 Tryd.prog lReverse_ren := {
  mixed := by kernel_rfl
  f35 := ⟨Tryd.f21.name, by decide, Tryd.func21.trans (congrArg some (by kernel_rfl))⟩
  t0 := Tryd.underlying0
  a0 := Tryd.isAgg0
  z0 := Tryd.sizeOf0
  v0 := Tryd.zeroValue0
  t3 := Tryd.underlying3
  a3 := Tryd.isAgg3
  z3 := Tryd.sizeOf3
  v3 := Tryd.zeroValue3
  t4 := Tryd.underlying4
  a4 := Tryd.isAgg4
  z4 := Tryd.sizeOf4
  v4 := Tryd.zeroValue4
  t22 := Tryd.underlying36
  a22 := Tryd.isAgg36
  z22 := Tryd.sizeOf36
  v22 := Tryd.zeroValue36
  a23 := Tryd.isAgg5
  z23 := Tryd.sizeOf5 }
def befB (down : Bool) (x y : Int) : Bool := (x != y) && (decide (x < y) != down)
def pI (down : Bool) (d : Array Int) : Nat → Option Nat
  | 0 => none
  | m + 1 => if befB down d[m]! d[m + 1]! = true then some m else pI down d m
def pK (down : Bool) (d : Array Int) (i : Nat) : Nat → Option Nat
  | 0 => none
  | m + 1 => if befB down d[i]! d[m]! = true then some m else pK down d i m
def revTail (l : List Int) (i : Nat) : List Int := l.take (i + 1) ++ (l.drop (i + 1)).reverse
def impl_step.f (a0 : ByteArray) (down : Bool) : Option (ByteArray × Bool) := if 1 ≤ a0.size ∧ a0.size ≤ 100 then (match pI down (bytesOf a0).toArray (a0.size - 1) with | none => some ((⟨#[]⟩ : ByteArray), false) | some i => (match pK down (bytesOf a0).toArray i a0.size with | none => none | some k => some (strOfNums (revTail (swp (bytesOf a0).toArray i k).toList i), true))) else none
theorem putRow_below_ {w W : World} {g : Nat} {d : Array Int} (hb : Below w.heap.size w W) (hg : g = w.heap.size + 1) (n : Nat) : Below w.heap.size w (putRow encU (Sort.ahead W n) g 0 d) := putRow_below hb (by omega) n
theorem putRow_below_off {w W : World} {g off : Nat} {d : Array Int} (hb : Below w.heap.size w W) (hg : g = w.heap.size + 1) (n : Nat) : Below w.heap.size w (putRow encU (Sort.ahead W n) g off d) := by
  refine ⟨hb.os, hb.tape, hb.output, by rw [size_putRow]; exact hb.size, fun k hk => ?_⟩
  rw [← hb.block k hk]
  have hne : g ≠ k := by omega
  simp [putRow, mapBlock, Sort.ahead, Array.getElem?_modify, hne]
theorem revTail_len (l : List Int) (m : Nat) : (revTail l m).length = l.length := by unfold revTail; simp; omega
theorem holds_revTail {W : World} {g m : Nat} {e : Array Int} (h : Holds encU W g 0 e) (hm : m + 1 ≤ e.size) (q : Nat) :
    Holds encU (putRow encU (Sort.ahead W q) g (m + 1) (e.toList.drop (m + 1)).reverse.toArray) g 0 (revTail e.toList m).toArray := by
  have hsub : Holds encU (Sort.ahead W q) g (m + 1) (e.toList.drop (m + 1)).toArray := by
    intro t ht
    have ht' : m + 1 + t < e.size := by simp at ht; omega
    have h1 := h (m + 1 + t) ht'
    rw [Nat.zero_add] at h1
    refine ⟨h1.1.trans ?_, h1.2⟩
    rw [getElem!_pos e (m + 1 + t) ht', getElem!_pos (e.toList.drop (m + 1)).toArray t ht]
    simp
  have hrl : (e.toList.drop (m + 1)).reverse.toArray.size = (e.toList.drop (m + 1)).toArray.size := by simp
  intro j hj
  have hj' : j < e.size := by simpa [revTail_len] using hj
  rw [Nat.zero_add, frozen?_putRow]
  have h0 := h j hj'
  rw [Nat.zero_add] at h0
  refine ⟨?_, h0.2⟩
  rw [getElem!_pos _ j hj]
  by_cases hjm : j < m + 1
  · rw [cell?_putRow_other encU _ g (m + 1) _ ⟨g, j, none⟩ (Or.inr (Or.inl hjm))]
    refine h0.1.trans ?_
    rw [getElem!_pos e j hj']
    simp only [List.getElem_toArray]
    unfold revTail
    rw [List.getElem_append_left (by simp; omega), List.getElem_take]
    simp
  · obtain ⟨t, rfl⟩ : ∃ t, j = m + 1 + t := ⟨j - (m + 1), by omega⟩
    have ht : t < (e.toList.drop (m + 1)).reverse.toArray.size := by simp; omega
    refine (cell?_putRow encU (Sort.ahead W q) g (m + 1) _ _ hsub hrl t ht).trans ?_
    rw [getElem!_pos (e.toList.drop (m + 1)).reverse.toArray t ht]
    simp only [List.getElem_toArray]
    congr 2
    unfold revTail
    rw [List.getElem_append_right (by rw [List.length_take]; omega)]
    congr 1
    simp
    omega
theorem step1_calls (down : Bool) (x y : Int) (B : Nat) (w : World) (hc : w.cell? ⟨B, 0, none⟩ = some (.bool down)) :
    Calls Tryd.prog 20 #[.int .u8 x, .int .u8 y, .pointer (some ⟨B, 0, none⟩)] w fun e w' => e = .returned (.bool (befB down x y)) ∧ w' = w := by
  by_cases hxy : x = y
  · subst hxy
    go_enter Tryd.func20, Tryd.ntmps20
    go_wp2
    go_ret
    exact ⟨by simp [befB], rfl⟩
  · have h1 : (x == y) = false := beq_eq_false_iff_ne.2 hxy
    go_enter Tryd.func20, Tryd.ntmps20
    go_wp2
    go_ret
    exact ⟨by simp [befB, bne], rfl⟩
set_option maxHeartbeats 4000000 in
set_option maxRecDepth 100000 in
theorem impl_step.calls (a0 : ByteArray) (down : Bool) (r1 : ByteArray) (r2 : Bool) (w : World) (h : impl_step.f a0 down = some (r1, r2)) :
    Calls Tryd.prog 14 #[.string a0, .bool down] w fun e w' => e = .returned (.tuple #[.string r1, .bool r2]) ∧ Below w.heap.size w w' := by
  unfold impl_step.f at h
  split at h
  case isFalse => cases h
  rename_i hs
  obtain ⟨hs1, hs2⟩ := hs
  have H0 := Lib.hid h
  clear h
  have hmf : ∀ (fn : Fn) (first cap : Array Value) (w : World), (Instr.makeFunc fn first cap).run Tryd.prog w = .ok (.func fn first cap) w := fun _ _ _ _ => rfl
  obtain ⟨cap, W1, hconv, hH, hB, hz, hcap⟩ := conv_bytes (w.alloc (.cells #[.bool down] 4)) a0
  rw [World.size_alloc] at hconv hH
  have hB1 : Below w.heap.size w W1 := below_step ((Below.refl _ w).alloc (Nat.le_refl _) _) hB
  have hcell : W1.cell? ⟨w.heap.size, 0, none⟩ = some (.bool down) := by
    rw [hB.cell (p := ⟨w.heap.size, 0, none⟩) (by simp), World.cell?_alloc_at _ _ _ _ rfl]
    rfl
  obtain ⟨n, hn⟩ : ∃ n : Nat, n = a0.size := ⟨_, rfl⟩
  obtain ⟨d, hd⟩ : ∃ d : Array Int, d = (bytesOf a0).toArray := ⟨_, rfl⟩
  have hdn : d.size = n := by rw [hd, hn]; simp [bytesOf_length]
  obtain ⟨g, hg⟩ : ∃ g : Nat, g = w.heap.size + 1 := ⟨_, rfl⟩
  rw [← hd, ← hg] at hH
  rw [← hn, ← hg] at hconv
  rw [← hn] at hs1 hs2 hcap
  have HD := Lib.hid hdn
  have HG := Lib.hid hg
  have HR := Lib.hid (show (match pI down d (n - 1) with | none => some ((⟨#[]⟩ : ByteArray), false) | some i => (match pK down d i n with | none => none | some k => some (strOfNums (revTail (swp d i k).toList i), true))) = some (r1, r2) from by have h5 := H0.out; rw [← hd, ← hn] at h5; exact h5)
  have HB1 := Lib.hid hB1
  have HH := Lib.hid hH
  have HC := Lib.hid hcell
  have HSELF := Lib.hid (show W1 = putRow encU (Sort.ahead W1 0) g 0 d from (putRow_self encU (Sort.ahead W1 0) g 0 d hH).symm)
  have hsz : w.heap.size + 1 = g := hg.symm
  clear hd hdn hg hB hz hH hB1 hcell H0 hn
  have HSZ := Lib.hid hsz
  clear hsz
  go_enter Tryd.func14, Tryd.ntmps14
  go_wp2
  go_loopw [8] (fun v8 wr => ∃ (m q : Nat) (iI : Int), v8 = .int .i64 iI ∧ iI + 1 = (m : Int) ∧ m ≤ n - 1 ∧ wr = putRow encU (Sort.ahead W1 q) g 0 d ∧ pI down d m = pI down d (n - 1)) (fun v8 _ => (intOf v8 + 1).toNat)
  case atStart => exact ⟨n - 1, 0, (n : Int) - 2, rfl, by omega, Nat.le_refl _, HSELF.out, rfl⟩
  case round =>
    obtain ⟨m, q, iI, rfl, hm, hmn, hwr, hp⟩ := hrel
    have HP := Lib.hid hp
    have HM := Lib.hid hm
    obtain ⟨G, hG⟩ : ∃ G : Nat → Int, ∀ t, G t = d[t]! := ⟨fun t => d[t]!, fun _ => rfl⟩
    have hcw : ∀ t, t < n → wr.cell? ⟨g, t, none⟩ = some (.int .u8 (G t)) := fun t ht => by
      have h5 := cell?_putRow encU (Sort.ahead W1 q) g 0 d d (holds_ahead _ _ _ _ _ _ HH.out) rfl t (by have := HD.out; omega)
      rw [Nat.zero_add] at h5
      rw [hwr, hG]; exact h5
    have hcc : wr.cell? ⟨w.heap.size, 0, none⟩ = some (.bool down) := by
      rw [hwr, cell?_putRow_other encU (Sort.ahead W1 q) g 0 d ⟨w.heap.size, 0, none⟩ (Or.inl (by show w.heap.size ≠ g; have := HG.out; omega))]
      exact HC.out
    have HW := Lib.hid hwr
    have HGG := Lib.hid hG
    have HCC := Lib.hid hcc
    have HCW := Lib.hid hcw
    clear hwr hG hp hcw hcc hm
    cases m with
    | zero =>
      obtain rfl : iI = -1 := by have := HM.out; omega
      have E := HR.out
      rw [← HP.out, pI] at E
      simp only [Option.some.injEq, Prod.mk.injEq] at E
      obtain ⟨rfl, rfl⟩ := E
      go_wp2
      go_quiet (fail)
      go_wp2
      go_ret2
      exact ⟨rfl, by rw [HW.out]; exact pw_below_drewN (putRow_below_ HB1.out HG.out q) nq⟩
    | succ m =>
      obtain rfl : iI = (m : Int) := by have := HM.out; omega
      have hmn' : m + 1 < n := by omega
      have hc1 := HCW.out m (by omega)
      have hc2 := HCW.out (m + 1) (by omega)
      have hcc := HCC.out
      have p0 : (0 ≤ (m : Int)) = True := eq_true (by omega)
      have q0 : ((m : Int) < (n : Int)) = True := eq_true (by omega)
      have p1 : (0 ≤ (m : Int) + 1) = True := eq_true (by omega)
      have q1 : ((m : Int) + 1 < (n : Int)) = True := eq_true (by omega)
      go_wp2
      go_quiet ((go_at_call 20; exact Calls.quiet_of_same (step1_calls down _ _ w.heap.size _ hcc)))
      cases hb : befB down (G m) (G (m + 1)) with
      | false =>
        go_wp2
        go_roundw
        case rel => exact ⟨m, q + nq, (m : Int) - 1, rfl, by omega, by omega, by rw [HW.out]; exact putRow_drewN _ _ _ _ _ _ _, by rw [← HP.out, pI, if_neg (by rw [← HGG.out, ← HGG.out, hb]; decide)]⟩
        case measure => first | (simp [intOf]; done) | (simp [intOf]; omega)
      | true =>
        have HPI := Lib.hid (show pI down d (n - 1) = some m by rw [← HP.out, pI, if_pos (by rw [← HGG.out, ← HGG.out, hb])])
        have HBT := Lib.hid (show befB down d[m]! d[m + 1]! = true by rw [← HGG.out, ← HGG.out, hb])
        have HW2 := Lib.hid (show wr.drewN nq = putRow encU (Sort.ahead W1 (q + nq)) g 0 d by rw [HW.out]; exact putRow_drewN _ _ _ _ _ _ _)
        clear hb hc1 hc2 hcc HW HCW HCC HGG HP
        go_wp2
        clear p1 q1
        go_loopw [9] (fun v9 wx => ∃ (k q : Nat), v9 = .int .i64 (k : Int) ∧ m + 1 ≤ k ∧ k < n ∧ wx = putRow encU (Sort.ahead W1 q) g 0 d ∧ pK down d m (k + 1) = pK down d m n) (fun v9 _ => (intOf v9).toNat)
        case atStart => exact ⟨n - 1, q + nq, by first | rfl | (congr 1; omega), by omega, by omega, HW2.out, by rw [Nat.sub_add_cancel (by omega)]⟩
        case round =>
          obtain ⟨k, q2, rfl, hk1, hk2, hwx, hpk⟩ := hrel
          obtain ⟨F, hF⟩ : ∃ F : Nat → Int, ∀ t, F t = d[t]! := ⟨fun t => d[t]!, fun _ => rfl⟩
          have hcw : ∀ t, t < n → wr.cell? ⟨g, t, none⟩ = some (.int .u8 (F t)) := fun t ht => by
            have h5 := cell?_putRow encU (Sort.ahead W1 q2) g 0 d d (holds_ahead _ _ _ _ _ _ HH.out) rfl t (by have := HD.out; omega)
            rw [Nat.zero_add] at h5
            rw [hwx, hF]; exact h5
          have hfw : ∀ t, t < n → wr.frozen? ⟨g, t, none⟩ = false := fun t ht => by
            have h5 := ((holds_ahead _ _ q2 _ _ _ HH.out) t (by have := HD.out; omega)).2
            rw [Nat.zero_add] at h5
            rw [hwx, frozen?_putRow]; exact h5
          have hcc : wr.cell? ⟨w.heap.size, 0, none⟩ = some (.bool down) := by
            rw [hwx, cell?_putRow_other encU (Sort.ahead W1 q2) g 0 d ⟨w.heap.size, 0, none⟩ (Or.inl (by show w.heap.size ≠ g; have := HG.out; omega))]
            exact HC.out
          have HW := Lib.hid hwx
          have HF := Lib.hid hF
          have HPK := Lib.hid hpk
          have hc1 := hcw m (by omega)
          have hc2 := hcw k hk2
          have hf1 := hfw m (by omega)
          have hf2 := hfw k hk2
          have p2 : (0 ≤ (k : Int)) = True := eq_true (by omega)
          have q2' : ((k : Int) < (n : Int)) = True := eq_true (by omega)
          clear hwx hF hpk hcw hfw
          go_wp2
          go_quiet ((go_at_call 20; exact Calls.quiet_of_same (step1_calls down _ _ w.heap.size _ hcc)))
          cases hb : befB down (F m) (F k) with
          | false =>
            have hkm : k ≠ m + 1 := fun e => by
              have h5 := HBT.out
              rw [← e, ← HF.out, ← HF.out, hb] at h5
              cases h5
            go_wp2
            go_roundw
            case rel => exact ⟨k - 1, q2 + nq, by first | rfl | (congr 1; omega), by omega, by omega, by rw [HW.out]; exact putRow_drewN _ _ _ _ _ _ _, by rw [Nat.sub_add_cancel (by omega), ← HPK.out, pK, if_neg (by rw [← HF.out, ← HF.out, hb]; decide)]⟩
            case measure => first | (simp [intOf]; done) | (simp [intOf]; omega)
          | true =>
            have HPK2 := Lib.hid (show pK down d m n = some k by rw [← HPK.out, pK, if_pos (by rw [← HF.out, ← HF.out, hb])])
            clear hb hcc HPK
            go_wp2
            go_region
            all_goals
              rw [show (((wr.drewN (nq + 1)).setCell ⟨g, m, none⟩ (Value.int .u8 (F k))).setCell ⟨g, k, none⟩ (Value.int .u8 (F m))) = putRow encU (Sort.ahead W1 (q2 + (nq + 1))) g 0 (swp d m k) by
                have h5 := swap_worldA encU W1 q2 (nq + 1) g 0 d m k (by have := HD.out; omega) (by have := HD.out; omega)
                rw [Nat.zero_add, Nat.zero_add, ← HF.out, ← HF.out] at h5
                rw [HW.out]; exact h5]
              have HB2 := Lib.hid (putRow_below_ (d := swp d m k) HB1.out HG.out (q2 + (nq + 1)))
              have HH2 := Lib.hid (holds_putRow encU (Sort.ahead W1 (q2 + (nq + 1))) g 0 d (swp d m k) (holds_ahead _ _ _ _ _ _ HH.out) (size_swp _ _ _))
              clear hc1 hc2 hf1 hf2
              generalize putRow encU (Sort.ahead W1 (q2 + (nq + 1))) g 0 (swp d m k) = W2 at HB2 HH2
              have z1 : ((m : Int) + 1 ≤ (n : Int)) = True := eq_true (by omega)
              have z2 : (0 ≤ (m : Int) + 1) = True := eq_true (by omega)
              have z3 : m + 1 < cap := by omega
              have hz2 : (swp d m k).size = n := by rw [size_swp]; exact HD.out
              have HREV := Lib.hid (show Calls Tryd.prog 21 #[.slice (some ⟨g, m + 1, none⟩) (n - (m + 1)) (cap - (m + 1))] W2 fun e w' => e = .returned (.tuple #[]) ∧ (convert 36 9 (.slice (some ⟨g, 0, none⟩) n cap)).run Tryd.prog w' = .ok (.string (strOfNums (revTail (swp d m k).toList m))) w' ∧ Below w.heap.size w w' by
                have hsub : Holds encU W2 g (m + 1) ((swp d m k).toList.drop (m + 1)).toArray := by
                  intro t ht
                  have ht' : m + 1 + t < (swp d m k).size := by simp at ht; omega
                  have h1 := HH2.out (m + 1 + t) ht'
                  rw [Nat.zero_add] at h1
                  refine ⟨h1.1.trans ?_, h1.2⟩
                  rw [getElem!_pos (swp d m k) (m + 1 + t) ht', getElem!_pos ((swp d m k).toList.drop (m + 1)).toArray t ht]
                  simp
                have h5 := AnyE.slices_Reverse lReverse encU encU_one g (m + 1) (cap - (m + 1)) ((swp d m k).toList.drop (m + 1)) W2 hsub (by simp; omega)
                rw [show ((swp d m k).toList.drop (m + 1)).length = n - (m + 1) by rw [List.length_drop, Array.length_toList, hz2]] at h5
                refine h5.mono ?_
                rintro e w' ⟨rfl, qq, rfl⟩
                have hH2 := holds_revTail (m := m) HH2.out (by omega) qq
                exact ⟨rfl, string_of_reads Tryd.underlying36 Tryd.underlying5 Tryd.underlying9 (holds_reads hH2 (by rw [revTail_len, Array.length_toList, hz2]) (by omega)), putRow_below_off HB2.out HG.out qq⟩)
              clear hz2
              go_wp2_with fail
              refine HREV.out.mono ?_
              rintro e w5 ⟨rfl, hback, hb5⟩
              have HB5 := Lib.hid hb5
              have E := HR.out
              rw [HPI.out] at E
              simp only at E
              rw [HPK2.out] at E
              simp only [Option.some.injEq, Prod.mk.injEq] at E
              obtain ⟨rfl, rfl⟩ := E
              clear hb5
              go_wp2
              go_ret2
              exact ⟨rfl, HB5.out⟩
end Go.Proofs.YtkbbmkbkpkmdkaaDoor.Ext
