/- The contract of impl.asLeast: the number with some digits in order, nothing if there are more than twelve. Condition: 1 to 17 digits (else the told function answers nothing). -/
import Derived.Test.YtkbbmkbkpkmdkaaWkPdq
import Derived.Test.YtkbbmkbkpkmdkaaQA1x1
namespace Go.Proofs.Ytkbbmkbkpkmdkaa.Ext
set_option linter.unusedVariables false
set_option linter.unusedSimpArgs false
open Go.RowKit Go.Sort Go.Lib Go.Proofs.YtkbbmkbkpkmdkaaW.PrintWords Go.Proofs.Ytkbbmkbkpkmdkaa.QA1
set_option maxHeartbeats 1000000 in
set_option maxRecDepth 100000 in
theorem sort_wk (blk cap : Nat) (d : Array Int) (w : World) (hH : Holds encU w blk 0 d) (h1 : 13 ≤ d.size) (h2 : d.size ≤ 17) (hB : blk < w.heap.size) :
    Calls Try.prog 51 #[.slice (some ⟨blk, 0, none⟩) d.size cap] w fun e w' => e = .returned (.tuple #[]) ∧ WkG w w' blk 0 d.size := by
  obtain ⟨n, hn⟩ : ∃ n, n = d.size := ⟨_, rfl⟩
  rw [← hn] at h1 h2 ⊢
  have HS := Lib.hid (show WkG w w blk 0 n from hn ▸ WkG.refl hH)
  clear hH hn d
  have e0 : IntKind.u64.wrap (n : Int) = (n : Int) := by rw [IntKind.wrap_u64]; omega
  go_enter Try.func51, Try.ntmps51
  by_cases c : n ≤ 15
  · go_wp2_with (first | (go_at_call 61; refine (len_wk n h1 h2 _).mono ?_; rintro e w' ⟨rfl, rfl⟩; rw [if_pos c]) | (go_at_call 60; refine (pdq_g HS.out hB (by omega) cap 0 n 4 (by omega) (by omega) (by omega) (by omega) (by omega) (by omega)).mono ?_; rintro e w' ⟨rfl, hw⟩))
    go_end0
    exact ⟨rfl, hw⟩
  · go_wp2_with (first | (go_at_call 61; refine (len_wk n h1 h2 _).mono ?_; rintro e w' ⟨rfl, rfl⟩; rw [if_neg c]) | (go_at_call 60; refine (pdq_g HS.out hB (by omega) cap 0 n 5 (by omega) (by omega) (by omega) (by omega) (by omega) (by omega)).mono ?_; rintro e w' ⟨rfl, hw⟩))
    go_end0
    exact ⟨rfl, hw⟩
theorem _root_.Go.World.grownBy.trans_below {w w1 w2 : World} {r : Option Nat} (h : w.grownBy w1 r) (k : Below w1.heap.size w1 w2) : w.grownBy w2 r :=
  ⟨k.os.trans h.os, k.tape.trans h.tape, k.output.trans h.output, Nat.le_trans h.size k.size, fun i hi hn => (k.block i (Nat.lt_of_lt_of_le hi h.size)).trans (h.block i hi hn)⟩
def sortedL (l : List Int) : List Int := (Sort.insertionSort ltInt l.toArray 0 l.toArray.size).toList
def impl_asLeast.f (k : Nat) (l : List Int) : Option (Int × Bool) := if 1 ≤ l.length ∧ l.length ≤ 17 then (if l.length ≤ 12 then (impl_numberOf.f k (strOfNums (sortedL l))).map (fun q => (q, true)) else some (0, false)) else none
theorem impl_asLeast.mono : ∀ l k, LeO (impl_asLeast.f k l) (impl_asLeast.f (k + 1) l) := by
  intro l k r h
  unfold impl_asLeast.f at h ⊢
  split at h
  · rename_i c
    rw [if_pos c]
    split at h
    · rename_i c2
      rw [if_pos c2]
      cases hn : impl_numberOf.f k (strOfNums (sortedL l)) with
      | none => rw [hn] at h; cases h
      | some q => rw [hn] at h; rw [impl_numberOf.mono _ k q hn]; exact h
    · rename_i c2
      rw [if_neg c2]; exact h
  · cases h
theorem row_holds {w : World} {base g cap : Nat} {P : Nat → Prop} {l : List Int} (h : Kd.R (Kd.int .u8) 5 w base P (.slice (some ⟨g, 0, none⟩) l.length cap) l) : Holds encU w g 0 l.toArray := by
  intro j hj
  have hj' : j < l.length := by simpa using hj
  have h1 := Kd.R_celln (0 : Int) h (j : Int) (by omega) (by omega)
  rw [Int.toNat_natCast] at h1
  rw [Nat.zero_add]
  refine ⟨?_, h1.2⟩
  rw [h1.1, getElem!_pos _ j hj, List.getElem_toArray]
  simp [rdOf, encU, List.getD_eq_getElem?_getD, List.getElem?_eq_getElem hj']
theorem sort_small_l (g cap : Nat) (l : List Int) (w : World) (hH : Holds encU w g 0 l.toArray) (h12 : l.length ≤ 12) :
    Calls Try.prog 51 #[.slice (some ⟨g, 0, none⟩) l.length cap] w fun e w' =>
      e = .returned (.tuple #[]) ∧ w.grownBy w' (some g) ∧ (convert 44 9 (.slice (some ⟨g, 0, none⟩) l.length cap)).run Try.prog w' = .ok (.string (strOfNums (sortedL l))) w' := by
  have h := sort_small g 0 cap l.toArray w hH (by simpa using h12)
  have hz := (insertionSort_holds swo_ltInt l.toArray 0 l.toArray.size (Nat.zero_le _) (Nat.le_refl _)).1.1
  refine h.mono (fun e w' hh => ⟨hh.1, ?_, ?_⟩)
  · obtain ⟨m, hm⟩ := hh.2
    exact WkR.grown ⟨m, _, hz, hm⟩
  · obtain ⟨m, rfl⟩ := hh.2
    have hH2 := holds_putRow encU (Sort.ahead w m) g 0 l.toArray (Sort.insertionSort ltInt l.toArray 0 l.toArray.size) (holds_ahead _ _ _ _ _ _ hH) hz
    have hz2 : l.length = (sortedL l).length := by
      unfold sortedL
      rw [Array.length_toList]
      exact hz.symm
    have e2 : (sortedL l).toArray = Sort.insertionSort ltInt l.toArray 0 l.toArray.size := by unfold sortedL; rw [Array.toArray_toList]
    rw [← e2] at hH2 ⊢
    exact string_of_reads Try.underlying44 Try.underlying5 Try.underlying9 (holds_reads hH2 hz2 (by omega))
theorem sort_long_l (g cap : Nat) (l : List Int) (w : World) (hH : Holds encU w g 0 l.toArray) (h1 : 13 ≤ l.length) (h2 : l.length ≤ 17) (hB : g < w.heap.size) :
    Calls Try.prog 51 #[.slice (some ⟨g, 0, none⟩) l.length cap] w fun e w' => e = .returned (.tuple #[]) ∧ w.grownBy w' (some g) :=
  (sort_wk g cap l.toArray w hH (by simpa using h1) (by simpa using h2) hB).mono (fun e w' h => ⟨h.1, h.2.1⟩)
set_option maxHeartbeats 4000000 in
set_option maxRecDepth 100000 in
theorem impl_asLeast.calls (k : Nat) (P0_ : Nat → Prop) (u : Value) (l0 : List Int) (r1 : Int) (r2 : Bool) (w0 w : World) (hB : Below w0.heap.size w0 w) (ho0 : Kd.R (Kd.int .u8) 5 w w0.heap.size P0_ u l0) (h : impl_asLeast.f k l0 = some (r1, r2)) :
    Calls Try.prog 38 #[u] w fun e w' => e = .returned (.tuple #[.int .i64 r1, .bool r2]) ∧ Below w0.heap.size w0 w' ∧ Kept w w' (fun k_ => P0_ k_) := by
  unfold impl_asLeast.f at h
  split at h
  case isFalse => cases h
  rename_i hl
  obtain ⟨hl1, hl2⟩ := hl
  obtain ⟨g, cap, rfl, hg1, hg2, _⟩ := Kd.R_form ho0 (by omega)
  have hP : P0_ g := ho0.1 g rfl
  have hH := row_holds ho0
  have key : ∀ w', w.grownBy w' (some g) → Below w0.heap.size w0 w' ∧ Kept w w' (fun k_ => P0_ k_) := fun w' hg => ⟨Below.grown hB hg hB.size (fun k hk => by cases hk; exact hg1), hg.size, fun i hi hn => hg.block i hi (fun e => by cases e; exact hn hP)⟩
  have KEY := Lib.hid key
  have HH := Lib.hid hH
  have H0 := Lib.hid h
  have HG := Lib.hid hg2
  clear key hH h ho0 hB hP hg1 hg2
  by_cases c : l0.length ≤ 12
  · have H1 := H0.out
    rw [if_pos c] at H1
    cases hq : impl_numberOf.f k (strOfNums (sortedL l0)) with
    | none => rw [hq] at H1; cases H1
    | some q =>
      rw [hq] at H1
      obtain ⟨rfl, rfl⟩ : q = r1 ∧ true = r2 := by
        have := Option.some.inj H1
        exact ⟨congrArg Prod.fst this, congrArg Prod.snd this⟩
      have HQ := Lib.hid hq
      have r12 : ((12 : Int) < (l0.length : Int)) = False := eq_false (by omega)
      clear H1 hq H0
      go_enter Try.func38, Try.ntmps38
      go_wp2_with (first
        | (go_at_call 51; refine (sort_small_l g cap l0 w HH.out c).mono ?_; rintro e w1 ⟨rfl, hgr, hconv⟩; have HGR := Lib.hid hgr; clear hgr)
        | (go_at_call 52; refine (impl_numberOf.calls k _ q _ HQ.out).mono ?_; rintro e w2 ⟨rfl, hb⟩; have HB2 := Lib.hid hb; clear hb))
      go_ret2
      exact ⟨rfl, KEY.out _ (HGR.out.trans_below HB2.out.below)⟩
  · have H1 := H0.out
    rw [if_neg c] at H1
    obtain ⟨rfl, rfl⟩ : 0 = r1 ∧ false = r2 := by
      have := Option.some.inj H1
      exact ⟨congrArg Prod.fst this, congrArg Prod.snd this⟩
    have r12 : ((12 : Int) < (l0.length : Int)) = True := eq_true (by omega)
    clear H1 H0
    go_enter Try.func38, Try.ntmps38
    go_wp2_with (go_at_call 51; refine (sort_long_l g cap l0 w HH.out (by omega) hl2 HG.out).mono ?_; rintro e w1 ⟨rfl, hgr⟩; have HGR := Lib.hid hgr; clear hgr)
    go_ret2
    exact ⟨rfl, KEY.out _ HGR.out⟩
end Go.Proofs.Ytkbbmkbkpkmdkaa.Ext
