/- The plain law of FnExactRestOfOnes: at all arguments the printed function of the law answers true after some number of rounds. Conditions: none beyond the bounds that the printed statement itself bears. -/
import Derived.Test.YtjbcjcpdchfakaaPFnExactRestOfOnesx1
namespace Go.Proofs.Ytjbcjcpdchfakaa.Pure
open Go.RowKit Go.Proofs.Ytjbcjcpdchfakaa.PFnExactRestOfOnes Go.Proofs.YtjbcjcpdchfakaaW.PrintWords Go.Proofs.YtjbcjcpdchfakaaW.PrintLast
set_option linter.unusedVariables false

/-! ## base -/
/-! numbers in 64 bits -/
theorem w64 {x : Int} (h1 : -9223372036854775808 ≤ x) (h2 : x ≤ 9223372036854775807) : wrap64 x = x := by unfold wrap64; omega
theorem w64n {x : Nat} (h2 : x ≤ 9223372036854775807) : wrap64 (x : Int) = (x : Int) := w64 (by omega) (by omega)
theorem wf64 {x : Int} (h : (Lit.int .i64 x).wf = true) : -9223372036854775808 ≤ x ∧ x ≤ 9223372036854775807 := by
  have hmin : IntKind.i64.min = -9223372036854775808 := rfl
  have hmax : IntKind.i64.max = 9223372036854775807 := rfl
  simp only [Lit.wf, Bool.and_eq_true, decide_eq_true_eq, hmin, hmax] at h
  exact h
theorem tmodN (a b : Nat) : Int.tmod (a : Int) (b : Int) = ((a % b : Nat) : Int) := rfl
theorem tdivN (a b : Nat) : Int.tdiv (a : Int) (b : Int) = ((a / b : Nat) : Int) := rfl
theorem tmod_nn {a b : Int} (h : 0 ≤ a) : Int.tmod a b = a % b := Int.tmod_eq_emod_of_nonneg h
theorem tdiv_nn {a b : Int} (h : 0 ≤ a) : Int.tdiv a b = a / b := Int.tdiv_eq_ediv_of_nonneg h
/-! from some number of rounds on -/
theorem Ev.pos {α : Type} {c : Prop} [Decidable c] {f g : Nat → Option α} {r : α} (h : c) (e : Ev f r) : Ev (fun k => if c then f k else g k) r := by simpa only [if_pos h] using e
theorem Ev.neg {α : Type} {c : Prop} [Decidable c] {f g : Nat → Option α} {r : α} (h : ¬ c) (e : Ev g r) : Ev (fun k => if c then f k else g k) r := by simpa only [if_neg h] using e
theorem Ev.sm {α β : Type} {f : Nat → α → Option β} {a : α} {o : Option α} {r : β} (h : o = some a) (e : Ev (fun n => f n a) r) : Ev (fun n => o.bind (f n)) r := by subst h; simpa only [Option.bind_some] using e
theorem Ev.eq {α : Type} {f : Nat → Option α} {r r' : α} (h : r' = r) (e : Ev f r) : Ev f r' := h ▸ e
theorem Ev.of_some {α : Type} {o : Option α} {r : α} (h : o = some r) : Ev (fun _ => o) r := ⟨0, fun _ _ => h⟩
theorem Ev.uniq {α : Type} {g : Nat → Option α} {r q : α} (h : Ev g r) (h' : Ev g q) : r = q := by
  obtain ⟨K, h⟩ := h
  obtain ⟨K', h'⟩ := h'
  have := (h (max K K') (by omega)).symm.trans (h' (max K K') (by omega))
  exact Option.some.inj this
/-! a string as a list of numbers -/
def L (s : ByteArray) : List Int := s.data.toList.map (fun c => (c.toNat : Int))
theorem L_length (s : ByteArray) : (L s).length = s.size := by simp [L]
theorem bt_lo (s : ByteArray) (i : Int) : 0 ≤ bt s i := by unfold bt; split <;> omega
theorem bt_hi (s : ByteArray) (i : Int) : bt s i ≤ 255 := by
  unfold bt; split
  · have := UInt8.toNat_lt (s[i.toNat]); omega
  · omega
theorem bt_L (s : ByteArray) (n : Nat) : bt s (n : Int) = (L s).getD n 0 := by
  unfold bt L
  by_cases h : n < s.size
  · simp [h, List.getD_eq_getElem?_getD]; rfl
  · simp [h, List.getD_eq_getElem?_getD]
theorem L_get (s : ByteArray) (n : Nat) (h : n < s.size) : (L s)[n]? = some (bt s n) := by
  rw [bt_L, List.getD_eq_getElem?_getD]
  have : n < (L s).length := by rw [L_length]; exact h
  simp [this]
theorem L_mem {s : ByteArray} {c : Int} (h : c ∈ L s) : 0 ≤ c ∧ c ≤ 255 := by
  unfold L at h
  obtain ⟨u, _, rfl⟩ := List.mem_map.1 h
  have := UInt8.toNat_lt u
  omega
theorem map_toNat_inj : ∀ (l m : List UInt8), l.map (fun c => (c.toNat : Int)) = m.map (fun c => (c.toNat : Int)) → l = m
  | [], [], _ => rfl
  | [], _ :: _, h => by simp at h
  | _ :: _, [], h => by simp at h
  | a :: l, b :: m, h => by
    simp only [List.map_cons, List.cons.injEq] at h
    have h1 : a = b := by apply UInt8.toNat_inj.1; omega
    rw [h1, map_toNat_inj l m h.2]
theorem L_inj {s t : ByteArray} (h : L s = L t) : s = t := by
  have := map_toNat_inj _ _ h
  cases s; cases t
  congr 1
  exact Array.toList_inj.1 this
theorem toList_L {s t : ByteArray} : s.data.toList = t.data.toList ↔ L s = L t := by
  constructor
  · intro h; unfold L; rw [h]
  · intro h; exact map_toNat_inj _ _ h
theorem L_append (s t : ByteArray) : L (s ++ t) = L s ++ L t := by
  unfold L
  rw [ByteArray.data_append]
  simp
/-- The rest of a list from a place on. -/
theorem drop_cons {α : Type} {l : List α} {n : Nat} {c : α} {t : List α} (h : l.drop n = c :: t) : n < l.length ∧ l[n]? = some c ∧ l.drop (n + 1) = t := by
  have h1 : n < l.length := by
    by_cases h1 : n < l.length
    · exact h1
    · rw [List.drop_eq_nil_of_le (by omega)] at h; cases h
  rw [List.drop_eq_getElem_cons h1] at h
  simp only [List.cons.injEq] at h
  exact ⟨h1, by rw [List.getElem?_eq_getElem h1, h.1], h.2⟩
theorem drop_nil {α : Type} {l : List α} {n : Nat} (h : l.drop n = []) : l.length ≤ n := by simpa using h
theorem sdrop_cons {s : ByteArray} {n : Nat} {c : Int} {t : List Int} (h : (L s).drop n = c :: t) : n < s.size ∧ bt s n = c ∧ (L s).drop (n + 1) = t := by
  obtain ⟨h1, h2, h3⟩ := drop_cons h
  rw [L_length] at h1
  rw [L_get s n h1] at h2
  exact ⟨h1, Option.some.inj h2, h3⟩
theorem sdrop_nil {s : ByteArray} {n : Nat} (h : (L s).drop n = []) : s.size ≤ n := by have := drop_nil h; rwa [L_length] at this
theorem wsucc {n m : Nat} (h : n < m) (hm : m ≤ 140737488355328) : wrap64 ((n : Int) + 1) = ((n + 1 : Nat) : Int) := by rw [w64 (by omega) (by omega)]; rfl
/-! digits -/
def isD (c : Int) : Bool := decide (48 ≤ c) && decide (c ≤ 57)
theorem isD_t {c : Int} : isD c = true ↔ 48 ≤ c ∧ c ≤ 57 := by simp [isD]
theorem isD_f {c : Int} : isD c = false ↔ c < 48 ∨ 57 < c := by
  rw [← Bool.not_eq_true, isD_t]; omega
theorem dig_mod {c : Int} (h : isD c = true) : (c - 48) % 256 = c - 48 := by rw [isD_t] at h; omega
/-! ## l1In -/
theorem l1In_f (a b c : Int) : spec_l1In.f a b c = some (decide (b ≤ a) && decide (a ≤ c)) := by
  unfold spec_l1In.f; by_cases h : b ≤ a <;> simp [h]
/-! ## within -/
theorem within_f (a b c : Int) : impl_within.f a b c = some (decide (b ≤ a) && decide (a ≤ c)) := by
  unfold impl_within.f; by_cases h : b ≤ a <;> simp [h]
/-! ## RestOfOnes -/
theorem leDivisor_f (a : Int) : spec_leDivisor.f a = some (decide (1 ≤ a) && decide (a ≤ 400)) := by
  unfold spec_leDivisor.f; rw [l1In_f]; rfl
theorem isDivisor_f (a : Int) : impl_isDivisor.f a = some (decide (1 ≤ a) && decide (a ≤ 400)) := by
  unfold impl_isDivisor.f; rw [within_f]; rfl
/-- The number of so many ones. -/
def rep : Nat → Nat
  | 0 => 0
  | n + 1 => 10 * rep n + 1
/-- Ten to a power, kept closed. -/
def pw (b : Nat) : Nat := 10 ^ b
theorem rep_add (a b : Nat) : rep (a + b) = rep a * pw b + rep b := by
  induction b with
  | zero => simp [rep, pw]
  | succ b ih =>
    rw [Nat.add_succ, Nat.succ_eq_add_one, rep, ih, rep, show pw (b + 1) = pw b * 10 from Nat.pow_succ ..]
    have : rep a * (pw b * 10) = 10 * (rep a * pw b) := by rw [← Nat.mul_assoc, Nat.mul_comm]
    omega
theorem rep_nine (n : Nat) : 9 * rep n + 1 = pw n := by
  induction n with
  | zero => rfl
  | succ n ih => rw [rep, show pw (n + 1) = pw n * 10 from Nat.pow_succ ..]; omega
theorem pw_add (a b : Nat) : pw (a + b) = pw a * pw b := Nat.pow_add 10 a b
theorem two_mul_pow (b : Nat) : pw (2 * b) = pw b * pw b := by rw [← pw_add]; congr 1; omega
theorem mod3 (a b c n : Nat) : (a % n * (b % n) + c % n) % n = (a * b + c) % n := by simp [Nat.add_mod, Nat.mul_mod]
theorem mul_lt_of {a b n m : Nat} (ha : a < n) (hb : b < n) (hn : n ≤ m) : a * b ≤ m * m := Nat.mul_le_mul (by omega) (by omega)
theorem specRest_l0 (n : Nat) (h1 : 1 ≤ n) (h2 : n ≤ 400) : ∀ (o a b out p q : Nat), out = rep a % n → p = rep b % n → q = pw b % n → o ≤ 1000000000000 →
    Ev (fun k => spec_RestOfOnes.l0 k (n : Int) (o : Int) (out : Int) (p : Int) (q : Int)) (((rep (a + o * b) % n : Nat) : Int), true) := by
  intro o
  induction o using Nat.strongRecOn with
  | ind o ih =>
    intro a b out p q hout hp hq ho
    refine Ev.step (spec_RestOfOnes.l0.eq_2 (n : Int) (o : Int) (out : Int) (p : Int) (q : Int)) ?_
    have lo : out < n := by rw [hout]; exact Nat.mod_lt _ h1
    have lp : p < n := by rw [hp]; exact Nat.mod_lt _ h1
    have lq : q < n := by rw [hq]; exact Nat.mod_lt _ h1
    have b1 : out * q ≤ 160000 := mul_lt_of lo lq h2
    have b2 : p * q ≤ 160000 := mul_lt_of lp lq h2
    have b3 : q * q ≤ 160000 := mul_lt_of lq lq h2
    by_cases hz : o = 0
    · subst hz
      clear ho ih
      refine Ev.neg (by omega) (Ev.eq ?_ (Ev.now _))
      simp [hout]
    · refine Ev.pos (by omega) ?_
      have ep : Int.tmod (wrap64 ((wrap64 ((p : Int) * (q : Int))) + (p : Int))) (n : Int) = (((p * q + p) % n : Nat) : Int) := by
        rw [← Int.natCast_mul, w64n (by omega), ← Int.natCast_add, w64n (by omega), tmodN]
      have eo : Int.tmod (wrap64 ((wrap64 ((out : Int) * (q : Int))) + (p : Int))) (n : Int) = (((out * q + p) % n : Nat) : Int) := by
        rw [← Int.natCast_mul, w64n (by omega), ← Int.natCast_add, w64n (by omega), tmodN]
      have eq' : Int.tmod (wrap64 ((q : Int) * (q : Int))) (n : Int) = ((q * q % n : Nat) : Int) := by
        rw [← Int.natCast_mul, w64n (by omega), tmodN]
      have ed : wrap64 (Int.tdiv (o : Int) 2) = ((o / 2 : Nat) : Int) := by
        rw [show (2 : Int) = ((2 : Nat) : Int) from rfl, tdivN, w64n (by omega)]
      have em : Int.tmod (o : Int) 2 = ((o % 2 : Nat) : Int) := rfl
      rw [ep, eo, eq', ed, em]
      have hp' : (p * q + p) % n = rep (2 * b) % n := by
        rw [show 2 * b = b + b by omega, rep_add, hp, hq, mod3]
      have hq' : q * q % n = pw (2 * b) % n := by rw [two_mul_pow, hq, ← Nat.mul_mod]
      have ho' : (out * q + p) % n = rep (a + b) % n := by
        rw [rep_add, hout, hp, hq, mod3]
      by_cases hodd : o % 2 = 1
      · refine Ev.pos (by omega) (Ev.neg (by omega) (Ev.eq ?_ (ih (o / 2) (by omega) (a + b) (2 * b) _ _ _ ho' hp' hq' (by omega))))
        have : a + o * b = a + b + o / 2 * (2 * b) := by
          have : o * b = (2 * (o / 2) + 1) * b := by congr 1; omega
          rw [this, Nat.add_mul, Nat.one_mul, Nat.mul_comm 2 (o / 2), Nat.mul_assoc]; omega
        rw [this]
      · refine Ev.neg (by omega) (Ev.neg (by omega) (Ev.eq ?_ (ih (o / 2) (by omega) a (2 * b) _ _ _ hout hp' hq' (by omega))))
        have : a + o * b = a + o / 2 * (2 * b) := by
          have : o * b = (2 * (o / 2)) * b := by congr 1; omega
          rw [this, Nat.mul_comm 2 (o / 2), Nat.mul_assoc]
        rw [this]
theorem implRest_l0 (n : Nat) (h1 : 1 ≤ n) (h2 : n ≤ 400) : ∀ (o a b p q : Nat), p % (9 * n) = pw a % (9 * n) → p < 9 * n → q = pw b % (9 * n) ∨ (q = 10 ∧ b = 1) → o ≤ 1000000000000 →
    Ev (fun k => impl_RestOfOnes.l0 k (n : Int) (p : Int) (q : Int) (o : Int)) (((rep (a + o * b) % n : Nat) : Int), true) := by
  intro o
  induction o using Nat.strongRecOn with
  | ind o ih =>
    intro a b p q hp lp hq ho
    refine Ev.step (impl_RestOfOnes.l0.eq_2 (n : Int) (p : Int) (q : Int) (o : Int)) ?_
    have en : wrap64 (9 * (n : Int)) = ((9 * n : Nat) : Int) := by
      rw [show (9 : Int) * (n : Int) = ((9 * n : Nat) : Int) by omega, w64n (by omega)]
    have lq : q < 3610 := by
      rcases hq with hq | hq
      · have := Nat.mod_lt (pw b) (show 0 < 9 * n by omega); omega
      · omega
    have hq2 : q % (9 * n) = pw b % (9 * n) := by
      rcases hq with hq | ⟨hq, hb⟩
      · rw [hq, Nat.mod_mod]
      · rw [hq, hb]; rfl
    rw [en]
    by_cases hz : o = 0
    · subst hz
      clear ho ih
      refine Ev.neg (by omega) (Ev.neg (by omega) (Ev.eq ?_ (Ev.now _)))
      have e1 : wrap64 ((p : Int) + ((9 * n : Nat) : Int)) = ((p + 9 * n : Nat) : Int) := by rw [← Int.natCast_add, w64n (by omega)]
      have e2 : wrap64 (((p + 9 * n : Nat) : Int) - 1) = ((p + 9 * n - 1 : Nat) : Int) := by
        rw [show ((p + 9 * n : Nat) : Int) - 1 = ((p + 9 * n - 1 : Nat) : Int) by omega, w64n (by omega)]
      have lt9 := Nat.mod_lt (p + 9 * n - 1) (show 0 < 9 * n by omega)
      have e3 : wrap64 (Int.tdiv (((p + 9 * n - 1) % (9 * n) : Nat) : Int) 9) = (((p + 9 * n - 1) % (9 * n) / 9 : Nat) : Int) := by
        rw [show (9 : Int) = ((9 : Nat) : Int) from rfl, tdivN, w64n (by omega)]
      rw [e1, e2, tmodN, e3]
      have key : (p + 9 * n - 1) % (9 * n) = 9 * (rep a % n) := by
        rw [← Nat.mul_mod_mul_left]
        have h9 := rep_nine a
        have hA : (p + 9 * n - 1 + 1) % (9 * n) = (9 * rep a + 1) % (9 * n) := by
          rw [h9, show p + 9 * n - 1 + 1 = p + 9 * n by omega, Nat.add_mod_right, hp]
        have hB : (p + 9 * n - 1 + 1 + (9 * n - 1)) % (9 * n) = (9 * rep a + 1 + (9 * n - 1)) % (9 * n) := by
          rw [Nat.add_mod, hA, ← Nat.add_mod]
        rw [show p + 9 * n - 1 + 1 + (9 * n - 1) = p + 9 * n - 1 + 9 * n by omega, show 9 * rep a + 1 + (9 * n - 1) = 9 * rep a + 9 * n by omega, Nat.add_mod_right, Nat.add_mod_right] at hB
        exact hB
      rw [key, Nat.zero_mul, Nat.add_zero, Nat.mul_div_cancel_left _ (by omega)]
    · refine Ev.pos (by omega) ?_
      have b1 : p * q ≤ 13032100 := mul_lt_of (m := 3610) (show p < 3610 by omega) lq (Nat.le_refl _)
      have b3 : q * q ≤ 13032100 := mul_lt_of (m := 3610) lq lq (Nat.le_refl _)
      have ep : Int.tmod (wrap64 ((p : Int) * (q : Int))) ((9 * n : Nat) : Int) = ((p * q % (9 * n) : Nat) : Int) := by
        rw [← Int.natCast_mul, w64n (by omega), tmodN]
      have eq' : Int.tmod (wrap64 ((q : Int) * (q : Int))) ((9 * n : Nat) : Int) = ((q * q % (9 * n) : Nat) : Int) := by
        rw [← Int.natCast_mul, w64n (by omega), tmodN]
      have ed : wrap64 (Int.tdiv (o : Int) 2) = ((o / 2 : Nat) : Int) := by
        rw [show (2 : Int) = ((2 : Nat) : Int) from rfl, tdivN, w64n (by omega)]
      have em : Int.tmod (o : Int) 2 = ((o % 2 : Nat) : Int) := rfl
      rw [ep, eq', ed, em]
      have hq' : q * q % (9 * n) = pw (2 * b) % (9 * n) := by rw [two_mul_pow, Nat.mul_mod, hq2, ← Nat.mul_mod]
      have hp' : p * q % (9 * n) = pw (a + b) % (9 * n) := by rw [pw_add, Nat.mul_mod, hp, hq2, ← Nat.mul_mod]
      by_cases hodd : o % 2 = 1
      · refine Ev.pos (by omega) (Ev.neg (by omega) (Ev.eq ?_ (ih (o / 2) (by omega) (a + b) (2 * b) _ _ (by rw [Nat.mod_mod, hp']) (Nat.mod_lt _ (by omega)) (.inl hq') (by omega))))
        have : a + o * b = a + b + o / 2 * (2 * b) := by
          have : o * b = (2 * (o / 2) + 1) * b := by congr 1; omega
          rw [this, Nat.add_mul, Nat.one_mul, Nat.mul_comm 2 (o / 2), Nat.mul_assoc]; omega
        rw [this]
      · refine Ev.neg (by omega) (Ev.neg (by omega) (Ev.eq ?_ (ih (o / 2) (by omega) a (2 * b) _ _ hp lp (.inl hq') (by omega))))
        have : a + o * b = a + o / 2 * (2 * b) := by
          have : o * b = (2 * (o / 2)) * b := by congr 1; omega
          rw [this, Nat.mul_comm 2 (o / 2), Nat.mul_assoc]
        rw [this]
theorem specRest_f (n o : Nat) (h1 : 1 ≤ n) (h2 : n ≤ 400) (h3 : 1 ≤ o) (h4 : o ≤ 1000000000000) :
    Ev (fun k => spec_RestOfOnes.f k (n : Int) (o : Int)) (((rep o % n : Nat) : Int), true) := by
  refine Ev.sm (leDivisor_f _) (Ev.pos (by simp; omega) (Ev.sm (l1In_f _ _ _) ?_))
  refine Ev.step (spec_RestOfOnes.j0.eq_2 (n : Int) (o : Int) _) (Ev.neg (by simp; omega) (Ev.neg (by omega) ?_))
  have := specRest_l0 n h1 h2 o 0 1 0 (1 % n) (10 % n) (by simp [rep]) (by simp [rep]) rfl h4
  rw [Nat.mul_one, Nat.zero_add] at this
  exact this
theorem implRest_f (n o : Nat) (h1 : 1 ≤ n) (h2 : n ≤ 400) (h3 : 1 ≤ o) (h4 : o ≤ 1000000000000) :
    Ev (fun k => impl_RestOfOnes.f k (n : Int) (o : Int)) (((rep o % n : Nat) : Int), true) := by
  refine Ev.sm (isDivisor_f _) (Ev.pos (by simp; omega) (Ev.sm (within_f _ _ _) ?_))
  refine Ev.step (impl_RestOfOnes.j0.eq_2 (n : Int) (o : Int) _) (Ev.neg (by simp; omega) ?_)
  have := implRest_l0 n h1 h2 o 0 1 1 10 rfl (by omega) (.inr ⟨rfl, rfl⟩) h4
  rw [Nat.mul_one, Nat.zero_add] at this
  exact this
theorem specRest_no (a b : Int) (h : ¬ ((1 ≤ a ∧ a ≤ 400) ∧ 1 ≤ b ∧ b ≤ 1000000000000)) : Ev (fun k => spec_RestOfOnes.f k a b) (0, false) := by
  refine Ev.sm (leDivisor_f _) ?_
  by_cases ha : 1 ≤ a ∧ a ≤ 400
  · refine Ev.pos (by simp; omega) (Ev.sm (l1In_f _ _ _) (Ev.step (spec_RestOfOnes.j0.eq_2 a b _) (Ev.pos ?_ (Ev.now _))))
    simp; omega
  · exact Ev.neg (by simp; omega) (Ev.step (spec_RestOfOnes.j0.eq_2 a b _) (Ev.pos rfl (Ev.now _)))
theorem implRest_no (a b : Int) (h : ¬ ((1 ≤ a ∧ a ≤ 400) ∧ 1 ≤ b ∧ b ≤ 1000000000000)) : Ev (fun k => impl_RestOfOnes.f k a b) (0, false) := by
  refine Ev.sm (isDivisor_f _) ?_
  by_cases ha : 1 ≤ a ∧ a ≤ 400
  · refine Ev.pos (by simp; omega) (Ev.sm (within_f _ _ _) (Ev.step (impl_RestOfOnes.j0.eq_2 a b _) (Ev.pos ?_ (Ev.now _))))
    simp; omega
  · exact Ev.neg (by simp; omega) (Ev.step (impl_RestOfOnes.j0.eq_2 a b _) (Ev.pos rfl (Ev.now _)))
/-! ## FnExactRestOfOnes -/
theorem FnExactRestOfOnes : laws_FnExactRestOfOnes.Pure := by
  intro a b _ _
  refine Ev.rounds (g := fun k => laws_FnExactRestOfOnes.f k a b) ?_
  by_cases h : (1 ≤ a ∧ a ≤ 400) ∧ 1 ≤ b ∧ b ≤ 1000000000000
  · obtain ⟨n, rfl⟩ : ∃ n : Nat, a = n := ⟨a.toNat, by omega⟩
    obtain ⟨o, rfl⟩ : ∃ n : Nat, b = n := ⟨b.toNat, by omega⟩
    exact Ev.bind (specRest_f n o (by omega) (by omega) (by omega) (by omega)) (Ev.bind (implRest_f n o (by omega) (by omega) (by omega) (by omega)) (Ev.pos rfl (Ev.neg (by simp) (Ev.now _))))
  · exact Ev.bind (specRest_no a b h) (Ev.bind (implRest_no a b h) (Ev.pos rfl (Ev.neg (by simp) (Ev.now _))))

end Go.Proofs.Ytjbcjcpdchfakaa.Pure
