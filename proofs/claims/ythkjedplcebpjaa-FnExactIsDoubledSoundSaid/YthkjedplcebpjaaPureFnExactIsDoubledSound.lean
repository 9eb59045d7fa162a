/- The plain law of FnExactIsDoubledSound: at all arguments the printed function of the law answers true after some number of rounds. Conditions: none beyond the bounds that the printed statement itself bears. -/
import Derived.Test.YthkjedplcebpjaaPFnExactIsDoubledSoundx1
namespace Go.Proofs.Ythkjedplcebpjaa.Pure
open Go.RowKit Go.Proofs.Ythkjedplcebpjaa.PFnExactIsDoubledSound Go.Proofs.YthkjedplcebpjaaW.PrintWords Go.Proofs.YthkjedplcebpjaaW.PrintLast
set_option linter.unusedVariables false

/-! ## base -/
/-! numbers in 64 bits -/
theorem w64 {x : Int} (h1 : -9223372036854775808 ≤ x) (h2 : x ≤ 9223372036854775807) : wrap64 x = x := by unfold wrap64; omega
theorem w64n {x : Nat} (h2 : x ≤ 9223372036854775807) : wrap64 (x : Int) = (x : Int) := w64 (by omega) (by omega)
theorem wf64 {x : Int} (h : (Lit.int .i64 x).wf = true) : -9223372036854775808 ≤ x ∧ x ≤ 9223372036854775807 := by
  have hmin : IntKind.i64.min = -9223372036854775808 := rfl
  have hmax : IntKind.i64.max = 9223372036854775807 := rfl
  simp only [Lit.wf, Bool.and_eq_true, decide_eq_true_eq, hmin, hmax] at h
  exact h
theorem tmodN (a b : Nat) : Int.tmod (a : Int) (b : Int) = ((a % b : Nat) : Int) := rfl
theorem tdivN (a b : Nat) : Int.tdiv (a : Int) (b : Int) = ((a / b : Nat) : Int) := rfl
theorem tmod_nn {a b : Int} (h : 0 ≤ a) : Int.tmod a b = a % b := Int.tmod_eq_emod_of_nonneg h
theorem tdiv_nn {a b : Int} (h : 0 ≤ a) : Int.tdiv a b = a / b := Int.tdiv_eq_ediv_of_nonneg h
/-! from some number of rounds on -/
theorem Ev.pos {α : Type} {c : Prop} [Decidable c] {f g : Nat → Option α} {r : α} (h : c) (e : Ev f r) : Ev (fun k => if c then f k else g k) r := by simpa only [if_pos h] using e
theorem Ev.neg {α : Type} {c : Prop} [Decidable c] {f g : Nat → Option α} {r : α} (h : ¬ c) (e : Ev g r) : Ev (fun k => if c then f k else g k) r := by simpa only [if_neg h] using e
theorem Ev.sm {α β : Type} {f : Nat → α → Option β} {a : α} {o : Option α} {r : β} (h : o = some a) (e : Ev (fun n => f n a) r) : Ev (fun n => o.bind (f n)) r := by subst h; simpa only [Option.bind_some] using e
theorem Ev.eq {α : Type} {f : Nat → Option α} {r r' : α} (h : r' = r) (e : Ev f r) : Ev f r' := h ▸ e
theorem Ev.of_some {α : Type} {o : Option α} {r : α} (h : o = some r) : Ev (fun _ => o) r := ⟨0, fun _ _ => h⟩
theorem Ev.uniq {α : Type} {g : Nat → Option α} {r q : α} (h : Ev g r) (h' : Ev g q) : r = q := by
  obtain ⟨K, h⟩ := h
  obtain ⟨K', h'⟩ := h'
  have := (h (max K K') (by omega)).symm.trans (h' (max K K') (by omega))
  exact Option.some.inj this
/-! a string as a list of numbers -/
def L (s : ByteArray) : List Int := s.data.toList.map (fun c => (c.toNat : Int))
theorem L_length (s : ByteArray) : (L s).length = s.size := by simp [L]
theorem bt_lo (s : ByteArray) (i : Int) : 0 ≤ bt s i := by unfold bt; split <;> omega
theorem bt_hi (s : ByteArray) (i : Int) : bt s i ≤ 255 := by
  unfold bt; split
  · have := UInt8.toNat_lt (s[i.toNat]); omega
  · omega
theorem bt_L (s : ByteArray) (n : Nat) : bt s (n : Int) = (L s).getD n 0 := by
  unfold bt L
  by_cases h : n < s.size
  · simp [h, List.getD_eq_getElem?_getD]; rfl
  · simp [h, List.getD_eq_getElem?_getD]
theorem L_get (s : ByteArray) (n : Nat) (h : n < s.size) : (L s)[n]? = some (bt s n) := by
  rw [bt_L, List.getD_eq_getElem?_getD]
  have : n < (L s).length := by rw [L_length]; exact h
  simp [this]
theorem L_mem {s : ByteArray} {c : Int} (h : c ∈ L s) : 0 ≤ c ∧ c ≤ 255 := by
  unfold L at h
  obtain ⟨u, _, rfl⟩ := List.mem_map.1 h
  have := UInt8.toNat_lt u
  omega
theorem map_toNat_inj : ∀ (l m : List UInt8), l.map (fun c => (c.toNat : Int)) = m.map (fun c => (c.toNat : Int)) → l = m
  | [], [], _ => rfl
  | [], _ :: _, h => by simp at h
  | _ :: _, [], h => by simp at h
  | a :: l, b :: m, h => by
    simp only [List.map_cons, List.cons.injEq] at h
    have h1 : a = b := by apply UInt8.toNat_inj.1; omega
    rw [h1, map_toNat_inj l m h.2]
theorem L_inj {s t : ByteArray} (h : L s = L t) : s = t := by
  have := map_toNat_inj _ _ h
  cases s; cases t
  congr 1
  exact Array.toList_inj.1 this
theorem toList_L {s t : ByteArray} : s.data.toList = t.data.toList ↔ L s = L t := by
  constructor
  · intro h; unfold L; rw [h]
  · intro h; exact map_toNat_inj _ _ h
theorem L_append (s t : ByteArray) : L (s ++ t) = L s ++ L t := by
  unfold L
  rw [ByteArray.data_append]
  simp
/-- The rest of a list from a place on. -/
theorem drop_cons {α : Type} {l : List α} {n : Nat} {c : α} {t : List α} (h : l.drop n = c :: t) : n < l.length ∧ l[n]? = some c ∧ l.drop (n + 1) = t := by
  have h1 : n < l.length := by
    by_cases h1 : n < l.length
    · exact h1
    · rw [List.drop_eq_nil_of_le (by omega)] at h; cases h
  rw [List.drop_eq_getElem_cons h1] at h
  simp only [List.cons.injEq] at h
  exact ⟨h1, by rw [List.getElem?_eq_getElem h1, h.1], h.2⟩
theorem drop_nil {α : Type} {l : List α} {n : Nat} (h : l.drop n = []) : l.length ≤ n := by simpa using h
theorem sdrop_cons {s : ByteArray} {n : Nat} {c : Int} {t : List Int} (h : (L s).drop n = c :: t) : n < s.size ∧ bt s n = c ∧ (L s).drop (n + 1) = t := by
  obtain ⟨h1, h2, h3⟩ := drop_cons h
  rw [L_length] at h1
  rw [L_get s n h1] at h2
  exact ⟨h1, Option.some.inj h2, h3⟩
theorem sdrop_nil {s : ByteArray} {n : Nat} (h : (L s).drop n = []) : s.size ≤ n := by have := drop_nil h; rwa [L_length] at this
theorem wsucc {n m : Nat} (h : n < m) (hm : m ≤ 140737488355328) : wrap64 ((n : Int) + 1) = ((n + 1 : Nat) : Int) := by rw [w64 (by omega) (by omega)]; rfl
/-! digits -/
def isD (c : Int) : Bool := decide (48 ≤ c) && decide (c ≤ 57)
theorem isD_t {c : Int} : isD c = true ↔ 48 ≤ c ∧ c ≤ 57 := by simp [isD]
theorem isD_f {c : Int} : isD c = false ↔ c < 48 ∨ 57 < c := by
  rw [← Bool.not_eq_true, isD_t]; omega
theorem dig_mod {c : Int} (h : isD c = true) : (c - 48) % 256 = c - 48 := by rw [isD_t] at h; omega
/-! ## bit -/
theorem bit_f (b : Bool) : impl_bit.f b = some (if b = true then 1 else 0) := by unfold impl_bit.f; split <;> rfl
/-! ## l1In -/
theorem l1In_f (a b c : Int) : spec_l1In.f a b c = some (decide (b ≤ a) && decide (a ≤ c)) := by
  unfold spec_l1In.f; by_cases h : b ≤ a <;> simp [h]
/-! ## slDigits -/
theorem slDigits_l0 (s : ByteArray) (hs : s.size ≤ 140737488351232) : ∀ (l : List Int) (n : Nat), (L s).drop n = l →
    Ev (fun k => spec_slDigits.l0 k s (n : Int)) (l.all isD) := by
  intro l
  induction l with
  | nil =>
    intro n h
    have h1 := sdrop_nil h
    exact Ev.step (spec_slDigits.l0.eq_2 s (n : Int)) (Ev.neg (by omega) (Ev.now _))
  | cons c t ih =>
    intro n h
    obtain ⟨h1, h2, h3⟩ := sdrop_cons h
    refine Ev.step (spec_slDigits.l0.eq_2 s (n : Int)) (Ev.pos (by omega) (Ev.pos (by omega) ?_))
    rw [h2, wsucc h1 (by omega)]
    by_cases hc : isD c = true
    · have hc' := isD_t.1 hc
      refine Ev.neg (by omega) (Ev.neg (by omega) (Ev.eq ?_ (ih (n + 1) h3)))
      simp [hc]
    · have hc' := isD_f.1 (by simpa using hc)
      by_cases h48 : c < 48
      · exact Ev.pos h48 (Ev.eq (by simp [hc]) (Ev.now _))
      · exact Ev.neg h48 (Ev.pos (by omega) (Ev.eq (by simp [hc]) (Ev.now _)))
theorem slDigits_f (s : ByteArray) (hs : s.size ≤ 140737488351232) :
    Ev (fun k => spec_slDigits.f k s) ((L s).all isD && (decide ((1 : Int) ≤ s.size) && decide ((s.size : Int) ≤ 12))) := by
  refine Ev.sm (l1In_f _ _ _) ?_
  by_cases h : (decide ((1 : Int) ≤ s.size) && decide ((s.size : Int) ≤ 12)) = true
  · exact Ev.pos h (Ev.eq (by rw [h, Bool.and_true]) (slDigits_l0 s hs (L s) 0 rfl))
  · exact Ev.neg h (Ev.eq (by rw [Bool.not_eq_true] at h; rw [h, Bool.and_false]) (Ev.now _))
/-! ## within -/
theorem within_f (a b c : Int) : impl_within.f a b c = some (decide (b ≤ a) && decide (a ≤ c)) := by
  unfold impl_within.f; by_cases h : b ≤ a <;> simp [h]
/-! ## areDigits -/
theorem areDigits_l0 (s : ByteArray) (lo hi : Int) (hs : s.size ≤ 140737488351232) : ∀ (l : List Int) (n : Nat), (L s).drop n = l →
    Ev (fun k => impl_areDigits.l0 k s lo hi (s.size : Int) (n : Int)) (l.all isD && (decide (lo ≤ s.size) && decide ((s.size : Int) ≤ hi))) := by
  intro l
  induction l with
  | nil =>
    intro n h
    have h1 := sdrop_nil h
    refine Ev.step (impl_areDigits.l0.eq_2 s lo hi (s.size : Int) (n : Int)) ?_
    refine Ev.neg (by omega) (Ev.sm (within_f _ _ _) (Ev.eq ?_ (Ev.now _)))
    simp
  | cons c t ih =>
    intro n h
    obtain ⟨h1, h2, h3⟩ := sdrop_cons h
    refine Ev.step (impl_areDigits.l0.eq_2 s lo hi (s.size : Int) (n : Int)) (Ev.pos (by omega) (Ev.pos (by omega) (Ev.pos (by omega) ?_)))
    rw [h2, wsucc h1 (by omega)]
    by_cases hc : isD c = true
    · have hc' := isD_t.1 hc
      refine Ev.neg (by omega) (Ev.neg (by omega) (Ev.eq ?_ (ih (n + 1) h3)))
      simp [hc]
    · have hc' := isD_f.1 (by simpa using hc)
      by_cases h48 : c < 48
      · exact Ev.pos h48 (Ev.eq (by simp [hc]) (Ev.now _))
      · exact Ev.neg h48 (Ev.pos (by omega) (Ev.eq (by simp [hc]) (Ev.now _)))
theorem areDigits_f (s : ByteArray) (lo hi : Int) (hs : s.size ≤ 140737488351232) :
    Ev (fun k => impl_areDigits.f k s lo hi) ((L s).all isD && (decide (lo ≤ s.size) && decide ((s.size : Int) ≤ hi))) :=
  areDigits_l0 s lo hi hs (L s) 0 rfl
/-! ## doubled -/
/-- What the digit at place j is worth, every second one from the end doubled. -/
def dterm (s : ByteArray) (j : Nat) : Int := if (s.size - j) % 2 = 0 then (if (bt s j - 48) * 2 ≥ 10 then (bt s j - 48) * 2 - 9 else (bt s j - 48) * 2) else bt s j - 48
def dsum (s : ByteArray) : Nat → Int
  | 0 => 0
  | n + 1 => dsum s n + dterm s n
theorem all_bt {s : ByteArray} (h : (L s).all isD = true) (j : Nat) (hj : j < s.size) : isD (bt s j) = true := by
  rw [List.all_eq_true] at h
  exact h _ (List.mem_of_getElem? (L_get s j hj))
theorem dterm_bd {s : ByteArray} (h : (L s).all isD = true) (j : Nat) (hj : j < s.size) : 0 ≤ dterm s j ∧ dterm s j ≤ 9 := by
  have := isD_t.1 (all_bt h j hj)
  unfold dterm; split
  · split <;> omega
  · omega
theorem dsum_bd {s : ByteArray} (h : (L s).all isD = true) : ∀ n, n ≤ s.size → 0 ≤ dsum s n ∧ dsum s n ≤ 9 * n
  | 0, _ => by simp [dsum]
  | n + 1, hn => by
    have h1 := dsum_bd h n (by omega)
    have h2 := dterm_bd h n (by omega)
    rw [dsum]; omega
theorem slDoubled_l0 (s : ByteArray) (h : (L s).all isD = true) (hs : s.size ≤ 12) : ∀ d n : Nat, n + d = s.size →
    Ev (fun k => spec_slDoubled.l0 k s (dsum s n) (n : Int)) (dsum s s.size) := by
  intro d
  induction d with
  | zero =>
    intro n hn
    refine Ev.step (spec_slDoubled.l0.eq_2 s _ (n : Int)) (Ev.neg (by omega) (Ev.eq ?_ (Ev.now _)))
    rw [show n = s.size by omega]
  | succ d ih =>
    intro n hn
    refine Ev.step (spec_slDoubled.l0.eq_2 s _ (n : Int)) (Ev.pos (by omega) (Ev.pos (by omega) ?_))
    have hD := all_bt h n (by omega)
    have hc := isD_t.1 hD
    have hb := dsum_bd h n (by omega)
    have ih' := ih (n + 1) (by omega)
    have ht := dterm_bd h n (by omega)
    have e : ∀ x, x = dterm s n → wrap64 (dsum s n + x) = dsum s (n + 1) := by
      intro x hx; rw [hx, dsum, w64 (by omega) (by omega)]
    have em : Int.tmod (wrap64 ((s.size : Int) - (n : Int))) 2 = (((s.size - n) % 2 : Nat) : Int) := by
      rw [show (s.size : Int) - (n : Int) = ((s.size - n : Nat) : Int) by omega, w64n (by omega)]; rfl
    rw [dig_mod hD, wsucc (m := s.size) (by omega) (by omega), em]
    by_cases hp : (s.size - n) % 2 = 0
    · refine Ev.pos (by omega) ?_
      by_cases h10 : (bt s n - 48) * 2 ≥ 10
      · refine Ev.pos h10 ?_
        rw [e _ (by unfold dterm; rw [if_pos hp, if_pos h10])]; exact ih'
      · refine Ev.neg h10 ?_
        rw [e _ (by unfold dterm; rw [if_pos hp, if_neg h10])]; exact ih'
    · refine Ev.neg (by omega) ?_
      rw [e _ (by unfold dterm; rw [if_neg hp])]; exact ih'
theorem doubled_l0 (s : ByteArray) (h : (L s).all isD = true) (hs : s.size ≤ 12) : ∀ d n : Nat, n + d = s.size →
    Ev (fun k => impl_doubled.l0 k s (dsum s s.size - dsum s (s.size - n)) (s.size : Int) (n : Int)) (dsum s s.size) := by
  intro d
  induction d with
  | zero =>
    intro n hn
    refine Ev.step (impl_doubled.l0.eq_2 s _ (s.size : Int) (n : Int)) (Ev.neg (by omega) (Ev.eq ?_ (Ev.now _)))
    rw [show s.size - n = 0 by omega, dsum]; omega
  | succ d ih =>
    intro n hn
    have ei : wrap64 (wrap64 ((s.size : Int) - 1) - (n : Int)) = ((s.size - n - 1 : Nat) : Int) := by
      rw [w64 (x := (s.size : Int) - 1) (by omega) (by omega), w64 (by omega) (by omega)]; omega
    refine Ev.step (impl_doubled.l0.eq_2 s _ (s.size : Int) (n : Int)) ?_
    rw [ei]
    refine Ev.pos (by omega) (Ev.pos (by omega) (Ev.pos (by omega) ?_))
    have hD := all_bt h (s.size - n - 1) (by omega)
    have hc := isD_t.1 hD
    have hb := dsum_bd h (s.size - n - 1) (by omega)
    have hb1 := dsum_bd h (s.size - n) (by omega)
    have hbs := dsum_bd h s.size (by omega)
    have ih' := ih (n + 1) (by omega)
    have ht := dterm_bd h (s.size - n - 1) (by omega)
    have hsum : dsum s (s.size - n) = dsum s (s.size - n - 1) + dterm s (s.size - n - 1) := by
      rw [show s.size - n = (s.size - n - 1) + 1 by omega, dsum]; rfl
    rw [show s.size - (n + 1) = s.size - n - 1 by omega] at ih'
    have e : ∀ x, x = dterm s (s.size - n - 1) → wrap64 (dsum s s.size - dsum s (s.size - n) + x) = dsum s s.size - dsum s (s.size - n - 1) := by
      intro x hx; rw [hx, w64 (by omega) (by omega)]; omega
    have em : Int.tmod (n : Int) 2 = ((n % 2 : Nat) : Int) := rfl
    rw [dig_mod hD, wsucc (m := s.size) (by omega) (by omega), em]
    by_cases hp : n % 2 = 1
    · refine Ev.pos (by omega) (Ev.sm (bit_f _) ?_)
      by_cases h10 : (bt s (s.size - n - 1 : Nat) - 48) * 2 > 9
      · rw [if_pos (by simpa using h10), w64 (x := 9 * 1) (by omega) (by omega), w64 (x := _ - 9 * 1) (by omega) (by omega)]
        rw [e _ (by unfold dterm; rw [if_pos (by omega), if_pos (by omega)]; omega)]; exact ih'
      · rw [if_neg (by simpa using h10), w64 (x := 9 * 0) (by omega) (by omega), w64 (x := _ - 9 * 0) (by omega) (by omega)]
        rw [e _ (by unfold dterm; rw [if_pos (by omega), if_neg (by omega)]; omega)]; exact ih'
    · refine Ev.neg (by omega) (Ev.sm (bit_f _) ?_)
      rw [if_neg (by simp; omega), w64 (x := 9 * 0) (by omega) (by omega), w64 (x := _ - 9 * 0) (by omega) (by omega)]
      rw [e _ (by unfold dterm; rw [if_neg (by omega)]; omega)]; exact ih'
theorem slDoubled_f (s : ByteArray) (h : (L s).all isD = true) (hs : s.size ≤ 12) : Ev (fun k => spec_slDoubled.f k s) (dsum s s.size) :=
  slDoubled_l0 s h hs s.size 0 (by omega)
theorem doubled_f (s : ByteArray) (h : (L s).all isD = true) (hs : s.size ≤ 12) : Ev (fun k => impl_doubled.f k s) (dsum s s.size) := by
  have := doubled_l0 s h hs s.size 0 (by omega)
  rw [Nat.sub_zero, Int.sub_self] at this
  exact this
/-! ## FnExactIsDoubledSound -/
theorem FnExactIsDoubledSound : laws_FnExactIsDoubledSound.Pure := by
  intro s hs
  refine Ev.rounds (g := fun k => laws_FnExactIsDoubledSound.f k s) ?_
  unfold laws_FnExactIsDoubledSound.f
  by_cases hb : (s.size : Int) > 1048576
  · exact Ev.pos hb (Ev.now _)
  · refine Ev.neg hb ?_
    by_cases h : ((L s).all isD && (decide ((1 : Int) ≤ s.size) && decide ((s.size : Int) ≤ 12))) = true
    · have h1 : (L s).all isD = true := (Bool.and_eq_true_iff.1 h).1
      have h2 : s.size ≤ 12 := by have := (Bool.and_eq_true_iff.1 h).2; simp at this; omega
      refine Ev.bind (a := (_, true)) (Ev.bind (slDigits_f s hs) (Ev.pos h (Ev.bind (slDoubled_f s h1 h2) (Ev.now _)))) ?_
      refine Ev.bind (a := (_, true)) (Ev.bind (a := (dsum s s.size, true)) (Ev.bind (areDigits_f s 1 12 hs) (Ev.pos h (Ev.bind (doubled_f s h1 h2) (Ev.now _)))) (Ev.pos rfl (Ev.now _))) ?_
      exact Ev.neg (by simp) (Ev.neg (by simp) (Ev.now _))
    · refine Ev.bind (a := (false, false)) (Ev.bind (slDigits_f s hs) (Ev.neg h (Ev.now _))) ?_
      refine Ev.bind (a := (false, false)) (Ev.bind (a := (0, false)) (Ev.bind (areDigits_f s 1 12 hs) (Ev.neg h (Ev.now _))) (Ev.neg (by simp) (Ev.now _))) ?_
      exact Ev.neg (by simp) (Ev.neg (by simp) (Ev.now _))

end Go.Proofs.Ythkjedplcebpjaa.Pure
