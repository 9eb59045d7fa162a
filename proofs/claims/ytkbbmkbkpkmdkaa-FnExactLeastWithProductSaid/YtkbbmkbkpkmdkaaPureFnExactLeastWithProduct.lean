/- The plain law of FnExactLeastWithProduct: at all arguments the printed function of the law answers true after some number of rounds. Conditions: none beyond the bounds that the printed statement itself bears. -/
import Derived.Test.YtkbbmkbkpkmdkaaQFnExactLeastWithProductx1
import Derived.Sort.LotA
namespace Go.Proofs.Ytkbbmkbkpkmdkaa.Pure
open Go.RowKit Go.Proofs.Ytkbbmkbkpkmdkaa.QFnExactLeastWithProduct Go.Proofs.YtkbbmkbkpkmdkaaW.PrintWords Go.Proofs.YtkbbmkbkpkmdkaaW.PrintLast Go.Proofs.Ytkbbmkbkpkmdkaa.Ext
set_option linter.unusedVariables false


/-! ## openA1 -/
open Go.Proofs.Ytkbbmkbkpkmdkaa.QA1
/-! ## base -/
/-! numbers in 64 bits -/
theorem w64 {x : Int} (h1 : -9223372036854775808 ≤ x) (h2 : x ≤ 9223372036854775807) : wrap64 x = x := by unfold wrap64; omega
theorem w64n {x : Nat} (h2 : x ≤ 9223372036854775807) : wrap64 (x : Int) = (x : Int) := w64 (by omega) (by omega)
theorem wf64 {x : Int} (h : (Lit.int .i64 x).wf = true) : -9223372036854775808 ≤ x ∧ x ≤ 9223372036854775807 := by
  have hmin : IntKind.i64.min = -9223372036854775808 := rfl
  have hmax : IntKind.i64.max = 9223372036854775807 := rfl
  simp only [Lit.wf, Bool.and_eq_true, decide_eq_true_eq, hmin, hmax] at h
  exact h
theorem tmodN (a b : Nat) : Int.tmod (a : Int) (b : Int) = ((a % b : Nat) : Int) := rfl
theorem tdivN (a b : Nat) : Int.tdiv (a : Int) (b : Int) = ((a / b : Nat) : Int) := rfl
theorem tmod_nn {a b : Int} (h : 0 ≤ a) : Int.tmod a b = a % b := Int.tmod_eq_emod_of_nonneg h
theorem tdiv_nn {a b : Int} (h : 0 ≤ a) : Int.tdiv a b = a / b := Int.tdiv_eq_ediv_of_nonneg h
/-! from some number of rounds on -/
theorem Ev.pos {α : Type} {c : Prop} [Decidable c] {f g : Nat → Option α} {r : α} (h : c) (e : Ev f r) : Ev (fun k => if c then f k else g k) r := by simpa only [if_pos h] using e
theorem Ev.neg {α : Type} {c : Prop} [Decidable c] {f g : Nat → Option α} {r : α} (h : ¬ c) (e : Ev g r) : Ev (fun k => if c then f k else g k) r := by simpa only [if_neg h] using e
theorem Ev.sm {α β : Type} {f : Nat → α → Option β} {a : α} {o : Option α} {r : β} (h : o = some a) (e : Ev (fun n => f n a) r) : Ev (fun n => o.bind (f n)) r := by subst h; simpa only [Option.bind_some] using e
theorem Ev.eq {α : Type} {f : Nat → Option α} {r r' : α} (h : r' = r) (e : Ev f r) : Ev f r' := h ▸ e
theorem Ev.of_some {α : Type} {o : Option α} {r : α} (h : o = some r) : Ev (fun _ => o) r := ⟨0, fun _ _ => h⟩
theorem Ev.uniq {α : Type} {g : Nat → Option α} {r q : α} (h : Ev g r) (h' : Ev g q) : r = q := by
  obtain ⟨K, h⟩ := h
  obtain ⟨K', h'⟩ := h'
  have := (h (max K K') (by omega)).symm.trans (h' (max K K') (by omega))
  exact Option.some.inj this
/-! a string as a list of numbers -/
def L (s : ByteArray) : List Int := s.data.toList.map (fun c => (c.toNat : Int))
theorem L_length (s : ByteArray) : (L s).length = s.size := by simp [L]
theorem bt_lo (s : ByteArray) (i : Int) : 0 ≤ bt s i := by unfold bt; split <;> omega
theorem bt_hi (s : ByteArray) (i : Int) : bt s i ≤ 255 := by
  unfold bt; split
  · have := UInt8.toNat_lt (s[i.toNat]); omega
  · omega
theorem bt_L (s : ByteArray) (n : Nat) : bt s (n : Int) = (L s).getD n 0 := by
  unfold bt L
  by_cases h : n < s.size
  · simp [h, List.getD_eq_getElem?_getD]; rfl
  · simp [h, List.getD_eq_getElem?_getD]
theorem L_get (s : ByteArray) (n : Nat) (h : n < s.size) : (L s)[n]? = some (bt s n) := by
  rw [bt_L, List.getD_eq_getElem?_getD]
  have : n < (L s).length := by rw [L_length]; exact h
  simp [this]
theorem L_mem {s : ByteArray} {c : Int} (h : c ∈ L s) : 0 ≤ c ∧ c ≤ 255 := by
  unfold L at h
  obtain ⟨u, _, rfl⟩ := List.mem_map.1 h
  have := UInt8.toNat_lt u
  omega
theorem map_toNat_inj : ∀ (l m : List UInt8), l.map (fun c => (c.toNat : Int)) = m.map (fun c => (c.toNat : Int)) → l = m
  | [], [], _ => rfl
  | [], _ :: _, h => by simp at h
  | _ :: _, [], h => by simp at h
  | a :: l, b :: m, h => by
    simp only [List.map_cons, List.cons.injEq] at h
    have h1 : a = b := by apply UInt8.toNat_inj.1; omega
    rw [h1, map_toNat_inj l m h.2]
theorem L_inj {s t : ByteArray} (h : L s = L t) : s = t := by
  have := map_toNat_inj _ _ h
  cases s; cases t
  congr 1
  exact Array.toList_inj.1 this
theorem toList_L {s t : ByteArray} : s.data.toList = t.data.toList ↔ L s = L t := by
  constructor
  · intro h; unfold L; rw [h]
  · intro h; exact map_toNat_inj _ _ h
theorem L_append (s t : ByteArray) : L (s ++ t) = L s ++ L t := by
  unfold L
  rw [ByteArray.data_append]
  simp
/-- The rest of a list from a place on. -/
theorem drop_cons {α : Type} {l : List α} {n : Nat} {c : α} {t : List α} (h : l.drop n = c :: t) : n < l.length ∧ l[n]? = some c ∧ l.drop (n + 1) = t := by
  have h1 : n < l.length := by
    by_cases h1 : n < l.length
    · exact h1
    · rw [List.drop_eq_nil_of_le (by omega)] at h; cases h
  rw [List.drop_eq_getElem_cons h1] at h
  simp only [List.cons.injEq] at h
  exact ⟨h1, by rw [List.getElem?_eq_getElem h1, h.1], h.2⟩
theorem drop_nil {α : Type} {l : List α} {n : Nat} (h : l.drop n = []) : l.length ≤ n := by simpa using h
theorem sdrop_cons {s : ByteArray} {n : Nat} {c : Int} {t : List Int} (h : (L s).drop n = c :: t) : n < s.size ∧ bt s n = c ∧ (L s).drop (n + 1) = t := by
  obtain ⟨h1, h2, h3⟩ := drop_cons h
  rw [L_length] at h1
  rw [L_get s n h1] at h2
  exact ⟨h1, Option.some.inj h2, h3⟩
theorem sdrop_nil {s : ByteArray} {n : Nat} (h : (L s).drop n = []) : s.size ≤ n := by have := drop_nil h; rwa [L_length] at this
theorem wsucc {n m : Nat} (h : n < m) (hm : m ≤ 140737488355328) : wrap64 ((n : Int) + 1) = ((n + 1 : Nat) : Int) := by rw [w64 (by omega) (by omega)]; rfl
/-! digits -/
def isD (c : Int) : Bool := decide (48 ≤ c) && decide (c ≤ 57)
theorem isD_t {c : Int} : isD c = true ↔ 48 ≤ c ∧ c ≤ 57 := by simp [isD]
theorem isD_f {c : Int} : isD c = false ↔ c < 48 ∨ 57 < c := by
  rw [← Bool.not_eq_true, isD_t]; omega
theorem dig_mod {c : Int} (h : isD c = true) : (c - 48) % 256 = c - 48 := by rw [isD_t] at h; omega
/-! ## num -/
/-- Ten to a power. -/
def p10 (n : Nat) : Int := 10 ^ n
theorem p10_succ (n : Nat) : p10 (n + 1) = 10 * p10 n := by unfold p10; rw [Int.pow_succ, Int.mul_comm]
theorem p10_pos (n : Nat) : 1 ≤ p10 n := by
  induction n with
  | zero => decide
  | succ n ih => rw [p10_succ]; omega
theorem p10_mono {n m : Nat} (h : n ≤ m) : p10 n ≤ p10 m := by
  obtain ⟨d, rfl⟩ : ∃ d, m = n + d := ⟨m - n, by omega⟩
  clear h
  induction d with
  | zero => exact Int.le_refl _
  | succ d ih => rw [← Nat.add_assoc, p10_succ]; have := p10_pos (n + d); omega
theorem p10_9 {n : Nat} (h : n ≤ 9) : p10 n ≤ 1000000000 := p10_mono h
/-- The number that digits tell, behind what stands before them. -/
def numF (a : Int) (l : List Int) : Int := l.foldl (fun n c => 10 * n + (c - 48)) a
theorem numF_cons (a c : Int) (l : List Int) : numF a (c :: l) = numF (10 * a + (c - 48)) l := rfl
theorem numF_bd : ∀ (l : List Int) (a : Int), l.all isD = true → 0 ≤ a → a * p10 l.length ≤ numF a l ∧ numF a l < (a + 1) * p10 l.length
  | [], a, _, h => by simp [numF, p10]; omega
  | c :: l, a, hl, h => by
    rw [List.all_cons, Bool.and_eq_true] at hl
    have hc := isD_t.1 hl.1
    have ih := numF_bd l (10 * a + (c - 48)) hl.2 (by omega)
    have hp := p10_pos l.length
    rw [numF_cons, List.length_cons, p10_succ]
    have e1 : a * (10 * p10 l.length) ≤ (10 * a + (c - 48)) * p10 l.length := by
      rw [← Int.mul_assoc]; exact Int.mul_le_mul_of_nonneg_right (by omega) (by omega)
    have e2 : (10 * a + (c - 48) + 1) * p10 l.length ≤ (a + 1) * (10 * p10 l.length) := by
      rw [← Int.mul_assoc]; exact Int.mul_le_mul_of_nonneg_right (by omega) (by omega)
    omega
/-- A number with room for so many digits behind it. -/
theorem num_step {a c : Int} {n : Nat} (ha : 0 ≤ a) (hc : 48 ≤ c ∧ c ≤ 57) (h : (a + 1) * p10 (n + 1) ≤ 1000000000000000000) : 0 ≤ 10 * a + (c - 48) ∧ (10 * a + (c - 48) + 1) * p10 n ≤ 1000000000000000000 ∧ 10 * a + (c - 48) ≤ 1000000000000000000 := by
  have hp := p10_pos n
  rw [p10_succ, ← Int.mul_assoc] at h
  have e2 : (10 * a + (c - 48) + 1) * p10 n ≤ (a + 1) * 10 * p10 n := Int.mul_le_mul_of_nonneg_right (by omega) (by omega)
  have e3 : (10 * a + (c - 48) + 1) * 1 ≤ (10 * a + (c - 48) + 1) * p10 n := Int.mul_le_mul_of_nonneg_left hp (by omega)
  omega
/-! ## lwpMath -/
/-! LeastWithProduct: a digit taken out as long as it divides -/
inductive Str (d : Nat) : Nat → List Nat → Nat → List Nat → Prop
  | stop {x : Nat} {l : List Nat} : x % d ≠ 0 → Str d x l x l
  | go {x : Nat} {l : List Nat} {y : Nat} {l' : List Nat} : x % d = 0 → Str d (x / d) (l ++ [d]) y l' → Str d x l y l'
theorem str_ex {d : Nat} (hd : 2 ≤ d) : ∀ (b x : Nat) (l : List Nat), x ≤ b → 1 ≤ x → ∃ y l', Str d x l y l'
  | 0, x, l, h, h1 => by omega
  | b + 1, x, l, h, h1 => by
    by_cases c : x % d = 0
    · have h2 : x / d < x := Nat.div_lt_self (by omega) hd
      have h3 : 1 ≤ x / d := Nat.div_pos (Nat.le_of_dvd (by omega) (Nat.dvd_of_mod_eq_zero c)) (by omega)
      obtain ⟨y, l', hs⟩ := str_ex hd b (x / d) (l ++ [d]) (by omega) h3
      exact ⟨y, l', .go c hs⟩
    · exact ⟨x, l, .stop c⟩
theorem Str.facts {d : Nat} (hd : 2 ≤ d) {x : Nat} {l : List Nat} {y : Nat} {l' : List Nat} (h : Str d x l y l') : ∃ e, l' = l ++ List.replicate e d ∧ x = y * d ^ e ∧ y % d ≠ 0 := by
  induction h with
  | stop c => exact ⟨0, by simp, by simp, c⟩
  | @go x l y l' c _ ih =>
    obtain ⟨e, h1, h2, h3⟩ := ih
    refine ⟨e + 1, by rw [h1, List.append_assoc, List.replicate_succ]; rfl, ?_, h3⟩
    have := Nat.div_add_mod x d
    rw [c, Nat.add_zero] at this
    rw [← this, h2, Nat.pow_succ, Nat.mul_comm d, Nat.mul_assoc]
/-- Where the digit is at least 5. -/
theorem Str.bound {d : Nat} (hd : 5 ≤ d) {M x : Nat} {l : List Nat} {y : Nat} {l' : List Nat} (h : Str d x l y l') : x * 5 ^ l.length ≤ M → y * 5 ^ l'.length ≤ M := by
  induction h with
  | stop _ => exact id
  | @go x l y l' c _ ih =>
    intro hb
    apply ih
    have h1 : x / d * 5 ≤ x := Nat.le_trans (Nat.mul_le_mul_left _ hd) (Nat.div_mul_le_self x d)
    rw [List.length_append, List.length_singleton, Nat.pow_succ, Nat.mul_comm (5 ^ l.length) 5, ← Nat.mul_assoc]
    exact Nat.le_trans (Nat.mul_le_mul_right _ h1) hb
theorem not_dvd_of {y e d q : Nat} (hq : (y * d ^ e) % q ≠ 0) : y % q ≠ 0 := by
  intro h
  apply hq
  rw [Nat.mul_mod, h, Nat.zero_mul, Nat.zero_mod]
/-- The digits of a product, from 9 down to 2, and what is left. -/
structure Chain (a y : Nat) (l : List Nat) : Prop where
  run : ∃ x9 l9 x8 l8 x7 l7 x6 l6 x5 l5 x4 l4 x3 l3, Str 9 a [] x9 l9 ∧ Str 8 x9 l9 x8 l8 ∧ Str 7 x8 l8 x7 l7 ∧ Str 6 x7 l7 x6 l6 ∧ Str 5 x6 l6 x5 l5 ∧ Str 4 x5 l5 x4 l4 ∧ Str 3 x4 l4 x3 l3 ∧ Str 2 x3 l3 y l
  len : l.length ≤ 17
  pos : 1 ≤ y
  digs : ∀ d ∈ l, 2 ≤ d ∧ d ≤ 9
  desc : l.Pairwise (· ≥ ·)
  nil : l = [] → y = a
theorem pow5_lt {k m M : Nat} (h : 5 ^ k ≤ M) (hM : M < 5 ^ m) : k < m := (Nat.pow_lt_pow_iff_right (a := 5) (by omega)).1 (Nat.lt_of_le_of_lt h hM)
theorem pow_cases {x y d e : Nat} (h : x = y * d ^ e) : (e = 0 ∧ x = y) ∨ (e = 1 ∧ x = y * d) ∨ (2 ≤ e ∧ ∃ k, x = k * (d * d)) := by
  match e, h with
  | 0, h => exact .inl ⟨rfl, by simpa using h⟩
  | 1, h => exact .inr (.inl ⟨rfl, by simpa using h⟩)
  | e + 2, h => exact .inr (.inr ⟨by omega, y * d ^ e, by rw [h, Nat.pow_succ, Nat.pow_succ, Nat.mul_assoc, Nat.mul_assoc]⟩)
theorem nil_step {d e x y : Nat} {l l' : List Nat} (f : l' = l ++ List.replicate e d) (h : l' = []) (g : x = y * d ^ e) : l = [] ∧ x = y := by
  rw [h] at f
  have h2 := List.append_eq_nil_iff.1 f.symm
  have h3 : e = 0 := by have := congrArg List.length h2.2; simpa using this
  exact ⟨h2.1, by rw [g, h3]; simp⟩
theorem desc_rep : ∀ (e d : Nat) (l : List Nat), l.Pairwise (· ≥ ·) → (∀ x ∈ l, d ≤ x) → (l ++ List.replicate e d).Pairwise (· ≥ ·) := by
  intro e d l h1 h2
  rw [List.pairwise_append]
  refine ⟨h1, ?_, fun a ha b hb => ?_⟩
  · rw [List.pairwise_replicate]; omega
  · rw [List.eq_of_mem_replicate hb]; exact h2 a ha
theorem lo_rep {e d : Nat} {l : List Nat} (h : ∀ x ∈ l, d + 1 ≤ x ∧ x ≤ 9) (hd : d ≤ 9) : ∀ x ∈ l ++ List.replicate e d, d ≤ x ∧ x ≤ 9 := by
  intro x hx
  rcases List.mem_append.1 hx with h1 | h1
  · have := h x h1; omega
  · rw [List.eq_of_mem_replicate h1]; omega
theorem Str.len_le {d x y : Nat} {l l' : List Nat} (h : Str d x l y l') : l.length ≤ l'.length := by
  induction h with
  | stop _ => exact Nat.le_refl _
  | go _ _ ih => rw [List.length_append] at ih; omega
theorem chain_ex (a : Nat) (h1 : 1 ≤ a) (ha : a ≤ 1000000000000) : ∃ y l, Chain a y l := by
  obtain ⟨x9, l9, s9⟩ := str_ex (d := 9) (by omega) a a [] (Nat.le_refl _) h1
  obtain ⟨e9, f9, g9, n9⟩ := s9.facts (by omega)
  have p9 : 1 ≤ x9 := Nat.pos_of_ne_zero (fun h => by rw [h] at n9; exact n9 rfl)
  obtain ⟨x8, l8, s8⟩ := str_ex (d := 8) (by omega) x9 x9 l9 (Nat.le_refl _) p9
  obtain ⟨e8, f8, g8, n8⟩ := s8.facts (by omega)
  have p8 : 1 ≤ x8 := Nat.pos_of_ne_zero (fun h => by rw [h] at n8; exact n8 rfl)
  obtain ⟨x7, l7, s7⟩ := str_ex (d := 7) (by omega) x8 x8 l8 (Nat.le_refl _) p8
  obtain ⟨e7, f7, g7, n7⟩ := s7.facts (by omega)
  have p7 : 1 ≤ x7 := Nat.pos_of_ne_zero (fun h => by rw [h] at n7; exact n7 rfl)
  obtain ⟨x6, l6, s6⟩ := str_ex (d := 6) (by omega) x7 x7 l7 (Nat.le_refl _) p7
  obtain ⟨e6, f6, g6, n6⟩ := s6.facts (by omega)
  have p6 : 1 ≤ x6 := Nat.pos_of_ne_zero (fun h => by rw [h] at n6; exact n6 rfl)
  obtain ⟨x5, l5, s5⟩ := str_ex (d := 5) (by omega) x6 x6 l6 (Nat.le_refl _) p6
  obtain ⟨e5, f5, g5, n5⟩ := s5.facts (by omega)
  have p5 : 1 ≤ x5 := Nat.pos_of_ne_zero (fun h => by rw [h] at n5; exact n5 rfl)
  obtain ⟨x4, l4, s4⟩ := str_ex (d := 4) (by omega) x5 x5 l5 (Nat.le_refl _) p5
  obtain ⟨e4, f4, g4, n4⟩ := s4.facts (by omega)
  have p4 : 1 ≤ x4 := Nat.pos_of_ne_zero (fun h => by rw [h] at n4; exact n4 rfl)
  obtain ⟨x3, l3, s3⟩ := str_ex (d := 3) (by omega) x4 x4 l4 (Nat.le_refl _) p4
  obtain ⟨e3, f3, g3, n3⟩ := s3.facts (by omega)
  have p3 : 1 ≤ x3 := Nat.pos_of_ne_zero (fun h => by rw [h] at n3; exact n3 rfl)
  obtain ⟨x2, l2, s2⟩ := str_ex (d := 2) (by omega) x3 x3 l3 (Nat.le_refl _) p3
  obtain ⟨e2, f2, g2, n2⟩ := s2.facts (by omega)
  have p2 : 1 ≤ x2 := Nat.pos_of_ne_zero (fun h => by rw [h] at n2; exact n2 rfl)
  have hb5 : x5 * 5 ^ l5.length ≤ 1000000000000 := s5.bound (by omega) (s6.bound (by omega) (s7.bound (by omega) (s8.bound (by omega) (s9.bound (by omega) (by simpa using ha)))))
  have d59 : x5 % 9 ≠ 0 := by
    have := n9
    rw [g8] at this; have := not_dvd_of this
    rw [g7] at this; have := not_dvd_of this
    rw [g6] at this; have := not_dvd_of this
    rw [g5] at this; exact not_dvd_of this
  have d58 : x5 % 8 ≠ 0 := by
    have := n8
    rw [g7] at this; have := not_dvd_of this
    rw [g6] at this; have := not_dvd_of this
    rw [g5] at this; exact not_dvd_of this
  have d56 : x5 % 6 ≠ 0 := by
    have := n6
    rw [g5] at this; exact not_dvd_of this
  have hsum : e4 + e3 + e2 ≤ 1 ∧ (e4 + e3 + e2 = 1 → 2 ≤ x5) := by
    rcases pow_cases g4 with ⟨q4, r4⟩ | ⟨q4, r4⟩ | ⟨q4, k4, r4⟩ <;> rcases pow_cases g3 with ⟨q3, r3⟩ | ⟨q3, r3⟩ | ⟨q3, k3, r3⟩ <;> rcases pow_cases g2 with ⟨q2, r2⟩ | ⟨q2, r2⟩ | ⟨q2, k2, r2⟩ <;> clear g2 g3 g4 g5 g6 g7 g8 g9 hb5 <;> omega
  have hlen : l2.length = l5.length + (e4 + e3 + e2) := by
    rw [f2, f3, f4]; simp only [List.length_append, List.length_replicate]; omega
  have b9 := lo_rep (l := []) (d := 9) (e := e9) (fun x hx => by cases hx) (by omega)
  rw [← f9] at b9
  have b8 := lo_rep (d := 8) (e := e8) b9 (by omega)
  rw [← f8] at b8
  have b7 := lo_rep (d := 7) (e := e7) b8 (by omega)
  rw [← f7] at b7
  have b6 := lo_rep (d := 6) (e := e6) b7 (by omega)
  rw [← f6] at b6
  have b5 := lo_rep (d := 5) (e := e5) b6 (by omega)
  rw [← f5] at b5
  have b4 := lo_rep (d := 4) (e := e4) b5 (by omega)
  rw [← f4] at b4
  have b3 := lo_rep (d := 3) (e := e3) b4 (by omega)
  rw [← f3] at b3
  have b2 := lo_rep (d := 2) (e := e2) b3 (by omega)
  rw [← f2] at b2
  have c9 := desc_rep e9 9 [] List.Pairwise.nil (fun x hx => by cases hx)
  rw [← f9] at c9
  have c8 := desc_rep e8 8 l9 c9 (fun x hx => by have := b9 x hx; omega)
  rw [← f8] at c8
  have c7 := desc_rep e7 7 l8 c8 (fun x hx => by have := b8 x hx; omega)
  rw [← f7] at c7
  have c6 := desc_rep e6 6 l7 c7 (fun x hx => by have := b7 x hx; omega)
  rw [← f6] at c6
  have c5 := desc_rep e5 5 l6 c6 (fun x hx => by have := b6 x hx; omega)
  rw [← f5] at c5
  have c4 := desc_rep e4 4 l5 c5 (fun x hx => by have := b5 x hx; omega)
  rw [← f4] at c4
  have c3 := desc_rep e3 3 l4 c4 (fun x hx => by have := b4 x hx; omega)
  rw [← f3] at c3
  have c2 := desc_rep e2 2 l3 c3 (fun x hx => by have := b3 x hx; omega)
  rw [← f2] at c2
  refine ⟨x2, l2, ⟨⟨x9, l9, x8, l8, x7, l7, x6, l6, x5, l5, x4, l4, x3, l3, s9, s8, s7, s6, s5, s4, s3, s2⟩, ?_, p2, b2, c2, ?_⟩⟩
  · rw [hlen]
    rcases Nat.lt_or_ge (e4 + e3 + e2) 1 with h | h
    · have h5 : 5 ^ l5.length ≤ 1000000000000 := Nat.le_trans (Nat.le_mul_of_pos_left _ p5) hb5
      have := pow5_lt (m := 18) h5 (by decide)
      omega
    · have h5 : 2 * 5 ^ l5.length ≤ 1000000000000 := Nat.le_trans (Nat.mul_le_mul_right _ (hsum.2 (by omega))) hb5
      have h6 : 5 ^ l5.length ≤ 500000000000 := by omega
      have := pow5_lt (m := 17) h6 (by decide)
      omega
  · intro h
    obtain ⟨h3, y3⟩ := nil_step f2 h g2
    obtain ⟨h4, y4⟩ := nil_step f3 h3 g3
    obtain ⟨h5, y5⟩ := nil_step f4 h4 g4
    obtain ⟨h6, y6⟩ := nil_step f5 h5 g5
    obtain ⟨h7, y7⟩ := nil_step f6 h6 g6
    obtain ⟨h8, y8⟩ := nil_step f7 h7 g7
    obtain ⟨h9, y9⟩ := nil_step f8 h8 g8
    obtain ⟨_, y10⟩ := nil_step f9 h9 g9
    rw [y10, y9, y8, y7, y6, y5, y4, y3]
theorem Str.sub_ {d x y : Nat} {l l' : List Nat} (h : Str d x l y l') (hd : 2 ≤ d) : y ≤ x ∧ ∀ e ∈ l, e ∈ l' := by
  induction h with
  | stop _ => exact ⟨Nat.le_refl _, fun _ h => h⟩
  | @go x l y l' c _ ih => exact ⟨Nat.le_trans ih.1 (Nat.div_le_self x d), fun e he => ih.2 e (List.mem_append_left _ he)⟩
theorem chain_le {a y : Nat} {l : List Nat} (h : Chain a y l) : y ≤ a := by
  obtain ⟨x9, l9, x8, l8, x7, l7, x6, l6, x5, l5, x4, l4, x3, l3, s9, s8, s7, s6, s5, s4, s3, s2⟩ := h.run
  have q2 := (s2.sub_ (by omega)).1
  have q3 := (s3.sub_ (by omega)).1
  have q4 := (s4.sub_ (by omega)).1
  have q5 := (s5.sub_ (by omega)).1
  have q6 := (s6.sub_ (by omega)).1
  have q7 := (s7.sub_ (by omega)).1
  have q8 := (s8.sub_ (by omega)).1
  have q9 := (s9.sub_ (by omega)).1
  omega
theorem str_one {d y : Nat} {l l' : List Nat} (hd : 2 ≤ d) (h : Str d 1 l y l') : y = 1 ∧ l' = l := by
  cases h with
  | stop _ => exact ⟨rfl, rfl⟩
  | go c _ => rw [Nat.mod_eq_of_lt (by omega)] at c; cases c
theorem chain_one {a y : Nat} {l : List Nat} (h : Chain a y l) (ha : a = 1) : l = [] := by
  subst ha
  obtain ⟨x9, l9, x8, l8, x7, l7, x6, l6, x5, l5, x4, l4, x3, l3, s9, s8, s7, s6, s5, s4, s3, s2⟩ := h.run
  obtain ⟨rfl, rfl⟩ := str_one (by omega) s9
  obtain ⟨rfl, rfl⟩ := str_one (by omega) s8
  obtain ⟨rfl, rfl⟩ := str_one (by omega) s7
  obtain ⟨rfl, rfl⟩ := str_one (by omega) s6
  obtain ⟨rfl, rfl⟩ := str_one (by omega) s5
  obtain ⟨rfl, rfl⟩ := str_one (by omega) s4
  obtain ⟨rfl, rfl⟩ := str_one (by omega) s3
  exact (str_one (by omega) s2).2
/-! ## room18 -/
theorem room18 {n : Nat} (h : n ≤ 18) : ((0 : Int) + 1) * p10 n ≤ 1000000000000000000 := by
  rw [Int.zero_add, Int.one_mul]; exact p10_mono (m := 18) h
/-! ## numberOf -/
theorem numberOf_l0 (s : ByteArray) (hs : s.size ≤ 18) : ∀ (l : List Int) (n : Nat) (a : Int), (L s).drop n = l → l.all isD = true → 0 ≤ a → (a + 1) * p10 l.length ≤ 1000000000000000000 →
    Ev (fun k => impl_numberOf.l0 k s a (s.size : Int) (n : Int)) (numF a l) := by
  intro l
  induction l with
  | nil =>
    intro n a h _ _ _
    have h1 := sdrop_nil h
    exact Ev.step (fun _ => impl_numberOf.l0.eq_2 ..) (Ev.neg (by omega) (Ev.now _))
  | cons c t ih =>
    intro n a h hl ha hb
    obtain ⟨h1, h2, h3⟩ := sdrop_cons h
    rw [List.all_cons, Bool.and_eq_true] at hl
    have hc := isD_t.1 hl.1
    obtain ⟨g1, g2, g3⟩ := num_step ha hc hb
    refine Ev.step (fun _ => impl_numberOf.l0.eq_2 ..) (Ev.pos (by omega) (Ev.pos (by omega) (Ev.pos (by omega) ?_)))
    rw [h2, dig_mod hl.1, wsucc h1 (by omega), w64 (x := 10 * a) (by omega) (by omega), w64 (x := 10 * a + (c - 48)) (by omega) (by omega)]
    exact ih (n + 1) _ h3 hl.2 g1 g2
theorem numberOf_f (s : ByteArray) (hd : (L s).all isD = true) (hs : s.size ≤ 18) : Ev (fun k => impl_numberOf.f k s) (numF 0 (L s)) :=
  numberOf_l0 s hs (L s) 0 0 rfl hd (by omega) (room18 (by rw [L_length]; exact hs))
/-! ## within -/
theorem within_f (a b c : Int) : impl_within.f a b c = some (decide (b ≤ a) && decide (a ≤ c)) := by
  unfold impl_within.f; by_cases h : b ≤ a <;> simp [h]
/-! ## l1In -/
theorem l1In_f (a b c : Int) : spec_l1In.f a b c = some (decide (b ≤ a) && decide (a ≤ c)) := by
  unfold spec_l1In.f; by_cases h : b ≤ a <;> simp [h]
/-! ## str -/
theorem tl_eq {s t : ByteArray} : s.toList = t.toList ↔ s = t := by
  rw [ByteArray.toList_eq, ByteArray.toList_eq, toList_L]
  exact ⟨L_inj, fun h => by rw [h]⟩
theorem L_extract (s : ByteArray) (a b : Nat) : L (s.extract a b) = ((L s).take b).drop a := by
  unfold L
  rw [ByteArray.data_extract]
  simp [List.map_drop, List.map_take, List.drop_take]
theorem L_nil : L (⟨#[]⟩ : ByteArray) = [] := rfl
theorem size_L (s : ByteArray) : s.size = (L s).length := (L_length s).symm
theorem size_ext (s : ByteArray) (a b : Nat) : (s.extract a b).size = min b s.size - a := by rw [size_L, L_extract, List.length_drop, List.length_take, L_length]
theorem size_app (s t : ByteArray) : (s ++ t).size = s.size + t.size := by rw [size_L, L_append, List.length_append, L_length, L_length]
/-! ## strnum -/
theorem ofNat_toNat {c : Int} (h : 0 ≤ c ∧ c ≤ 255) : (((UInt8.ofNat c.toNat).toNat : Nat) : Int) = c := by
  rw [UInt8.toNat_ofNat', Nat.mod_eq_of_lt (by omega)]; omega
theorem L_strOfNums (l : List Int) (h : ∀ c ∈ l, 0 ≤ c ∧ c ≤ 255) : L (strOfNums l) = l := by
  unfold L strOfNums
  rw [List.map_map]
  conv => rhs; rw [← List.map_id l]
  exact List.map_congr_left (fun c hc => ofNat_toNat (h c hc))
/-! ## FnExactLeastWithProduct -/
/-! LeastWithProduct: both take the digits from 9 down; the program puts them in order, the specification adds them up -/
def numR : List Nat → Nat
  | [] => 0
  | d :: t => d + 10 * numR t
theorem numR_app (d : Nat) : ∀ l : List Nat, numR (l ++ [d]) = numR l + d * 10 ^ l.length
  | [] => by simp [numR]
  | e :: t => by
    rw [List.cons_append, numR, numR_app d t, numR, List.length_cons, Nat.pow_succ, Nat.mul_add, ← Nat.mul_assoc 10, Nat.mul_comm 10 d, Nat.mul_assoc d, Nat.mul_comm (10 ^ t.length) 10, Nat.add_assoc]
theorem numR_hi : ∀ l : List Nat, (∀ d ∈ l, 2 ≤ d ∧ d ≤ 9) → numR l < 10 ^ l.length
  | [], _ => by simp [numR]
  | e :: t, h => by
    have h1 := numR_hi t (fun d hd => h d (List.mem_cons_of_mem _ hd))
    have h2 := h e List.mem_cons_self
    rw [numR, List.length_cons, Nat.pow_succ]; omega
theorem numR_lo : ∀ l : List Nat, (∀ d ∈ l, 2 ≤ d ∧ d ≤ 9) → l ≠ [] → 2 * 10 ^ (l.length - 1) ≤ numR l
  | [], _, h => absurd rfl h
  | [e], h, _ => by
    have h2 := h e List.mem_cons_self
    simp [numR]; omega
  | e :: f :: t, h, _ => by
    have h1 := numR_lo (f :: t) (fun d hd => h d (List.mem_cons_of_mem _ hd)) (by simp)
    rw [numR]
    simp only [List.length_cons, Nat.add_sub_cancel] at h1 ⊢
    rw [Nat.pow_succ]; omega
def chs (l : List Nat) : List Int := l.map (fun d : Nat => 48 + (d : Int))
theorem numF_snoc (a c : Int) (l : List Int) : numF a (l ++ [c]) = 10 * numF a l + (c - 48) := by
  unfold numF; rw [List.foldl_append]; rfl
theorem numF_rev : ∀ l : List Nat, numF 0 (chs l.reverse) = (numR l : Int)
  | [] => rfl
  | d :: t => by
    have ih := numF_rev t
    unfold chs at ih ⊢
    rw [List.reverse_cons, List.map_append, List.map_singleton, numF_snoc, ih, numR]; omega
theorem Str.mono_len {d x y : Nat} {l l' : List Nat} (h : Str d x l y l') : l.length ≤ l'.length := by
  induction h with
  | stop _ => exact Nat.le_refl _
  | go _ _ ih => rw [List.length_append] at ih; omega
theorem wd {d : Nat} (h2 : 2 ≤ d) (h9 : d ≤ 9) : wrap64 ((d : Int) - 1) = ((d - 1 : Nat) : Int) := by rw [w64 (by omega) (by omega)]; omega
theorem p10_17 {k : Nat} (h : k ≤ 17) : 10 ^ k ≤ 100000000000000000 := Nat.pow_le_pow_right (n := 10) (by omega) h
theorem tmod_ne {x d : Nat} : Int.tmod (x : Int) (d : Int) = 0 ↔ x % d = 0 := by rw [tmodN]; omega
theorem spec_str {d x y : Nat} {l l' : List Nat} (hs : Str d x l y l') (h2 : 2 ≤ d) (h9 : d ≤ 9) : x ≤ 1000000000000 → l'.length ≤ 17 → (∀ e ∈ l, 2 ≤ e ∧ e ≤ 9) → ∀ R,
    Ev (fun k => spec_LeastWithProduct.l0 k (y : Int) (numR l' : Int) ((10 ^ l'.length : Nat) : Int) ((d - 1 : Nat) : Int)) R → Ev (fun k => spec_LeastWithProduct.l1 k (x : Int) (numR l : Int) ((10 ^ l.length : Nat) : Int) (d : Int)) R := by
  induction hs with
  | @stop x l c =>
    intro hx hl hdg R hR
    refine Ev.step (fun _ => spec_LeastWithProduct.l1.eq_2 ..) (Ev.neg (by omega) (Ev.neg (by rw [tmod_ne]; exact c) ?_))
    rw [wd h2 h9]; exact hR
  | @go x l y l' c hs ih =>
    intro hx hl hdg R hR
    have hle := hs.mono_len
    rw [List.length_append, List.length_singleton] at hle
    have hn := numR_hi l hdg
    have hp := p10_17 (k := l.length) (by omega)
    have hp2 := p10_17 (k := l.length + 1) (by omega)
    have hdq : d * 10 ^ l.length ≤ 9 * 10 ^ l.length := Nat.mul_le_mul_right _ h9
    have hxd : x / d ≤ x := Nat.div_le_self _ _
    have hdg2 : ∀ e ∈ l ++ [d], 2 ≤ e ∧ e ≤ 9 := by
      intro e he
      rcases List.mem_append.1 he with h | h
      · exact hdg e h
      · rw [List.mem_singleton] at h; omega
    have h := ih (by omega) hl hdg2 R hR
    rw [numR_app, List.length_append, List.length_singleton] at h
    refine Ev.step (fun _ => spec_LeastWithProduct.l1.eq_2 ..) (Ev.neg (by omega) (Ev.pos (tmod_ne.2 c) ?_))
    obtain ⟨q, hq⟩ : ∃ q, q = 10 ^ l.length := ⟨_, rfl⟩
    rw [← hq] at hn hp hdq h ⊢
    rw [Nat.pow_succ, ← hq] at h hp2
    have e1 : (d : Int) * (q : Int) = ((d * q : Nat) : Int) := by rw [Int.natCast_mul]
    obtain ⟨z, hz⟩ : ∃ z, z = d * q := ⟨_, rfl⟩
    rw [tdivN, w64n (x := x / d) (by omega), e1, ← hz, w64n (x := z) (by omega), w64 (x := (numR l : Int) + (z : Int)) (by omega) (by omega), w64 (x := (q : Int) * 10) (by omega) (by omega)]
    rw [← hz] at h
    rw [show (numR l : Int) + (z : Int) = ((numR l + z : Nat) : Int) by omega, show (q : Int) * 10 = ((q * 10 : Nat) : Int) by omega]
    exact h
theorem impl_str {d x y : Nat} {l l' : List Nat} (hs : Str d x l y l') (h2 : 2 ≤ d) (h9 : d ≤ 9) : x ≤ 1000000000000 → l'.length ≤ 17 → ∀ R,
    Ev (fun k => impl_LeastWithProduct.l0 k (y : Int) (chs l') ((d - 1 : Nat) : Int)) R → Ev (fun k => impl_LeastWithProduct.l1 k (x : Int) (chs l) (d : Int)) R := by
  induction hs with
  | @stop x l c =>
    intro hx hl R hR
    refine Ev.step (fun _ => impl_LeastWithProduct.l1.eq_2 ..) (Ev.neg (by omega) (Ev.neg (by rw [tmod_ne]; exact c) ?_))
    rw [wd h2 h9]; exact hR
  | @go x l y l' c hs ih =>
    intro hx hl R hR
    have hle := hs.mono_len
    rw [List.length_append, List.length_singleton] at hle
    have hxd : x / d ≤ x := Nat.div_le_self _ _
    have h := ih (by omega) hl R hR
    refine Ev.step (fun _ => impl_LeastWithProduct.l1.eq_2 ..) (Ev.neg (by omega) (Ev.pos (tmod_ne.2 c) (Ev.pos (by unfold chs; rw [List.length_map]; omega) ?_)))
    rw [tdivN, w64n (x := x / d) (by omega), w64 (x := 48 + (d : Int)) (by omega) (by omega), Int.emod_eq_of_lt (by omega) (by omega)]
    have e : chs l ++ [48 + (d : Int)] = chs (l ++ [d]) := by unfold chs; rw [List.map_append]; rfl
    rw [e]
    exact h
theorem sortedL_facts (xs : List Int) : (sortedL xs).Pairwise (· ≤ ·) ∧ (sortedL xs).Perm xs := by
  obtain ⟨d, hd⟩ : ∃ d, d = xs.toArray := ⟨_, rfl⟩
  have h := Go.Sort.insertionSort_holds (lt := Go.Sort.ltInt) Go.Sort.swo_ltInt d 0 d.size (Nat.zero_le _) (Nat.le_refl _)
  obtain ⟨⟨h1, _, h3⟩, h4⟩ := h
  have hs : sortedL xs = (Go.Sort.insertionSort Go.Sort.ltInt d 0 d.size).toList := by unfold sortedL; rw [hd]
  obtain ⟨d2, hd2⟩ : ∃ d2, d2 = Go.Sort.insertionSort Go.Sort.ltInt d 0 d.size := ⟨_, rfl⟩
  rw [← hd2] at h1 h3 h4 hs
  have e1 : d2.extract 0 d.size = d2 := by
    apply Array.ext'
    rw [Array.toList_extract]
    show (d2.toList.take _).drop 0 = _
    rw [List.drop_zero, List.take_of_length_le]
    rw [Array.length_toList]; omega
  have e2 : d.extract 0 d.size = d := by
    apply Array.ext'
    rw [Array.toList_extract]
    show (d.toList.take _).drop 0 = _
    rw [List.drop_zero, List.take_of_length_le]
    rw [Array.length_toList]; exact Nat.le_refl _
  have h3' : (d2.extract 0 d.size).toList.Perm (d.extract 0 d.size).toList := h3
  rw [e1, e2] at h3'
  refine ⟨?_, ?_⟩
  · rw [hs, List.pairwise_iff_getElem]
    intro i j hi hj hij
    rw [Array.length_toList] at hi hj
    have h5 : decide (d2[j]! < d2[i]!) = false := h4 i j (Nat.zero_le _) hij (by omega)
    rw [decide_eq_false_iff_not, getElem!_pos d2 j hj, getElem!_pos d2 i hi] at h5
    rw [Array.getElem_toList, Array.getElem_toList]
    omega
  · rw [hs]
    rw [hd] at h3'
    exact h3'
theorem sortedL_chs {l : List Nat} (hd : l.Pairwise (· ≥ ·)) : sortedL (chs l) = chs l.reverse := by
  obtain ⟨h1, h2⟩ := sortedL_facts (chs l)
  refine List.Perm.eq_of_pairwise (le := fun x y : Int => x ≤ y) (fun a b _ _ h1 h2 => Int.le_antisymm h1 h2) h1 ?_ (h2.trans ?_)
  · unfold chs
    rw [List.pairwise_map, List.pairwise_reverse]
    exact hd.imp (fun h => by omega)
  · unfold chs
    exact ((List.reverse_perm l).map _).symm
theorem asLeast_f {l : List Nat} (h1 : 1 ≤ l.length) (h17 : l.length ≤ 17) (hg : ∀ d ∈ l, 2 ≤ d ∧ d ≤ 9) (hd : l.Pairwise (· ≥ ·)) :
    Ev (fun k => impl_asLeast.f k (chs l)) (if 12 < l.length then (0, false) else ((numR l : Int), true)) := by
  have hcl : (chs l).length = l.length := by unfold chs; rw [List.length_map]
  unfold impl_asLeast.f
  rw [hcl]
  refine Ev.pos ⟨h1, h17⟩ ?_
  by_cases c : 12 < l.length
  · rw [if_pos c]; exact Ev.neg (by omega) (Ev.now _)
  · rw [if_neg c]
    refine Ev.pos (by omega) ?_
    have hb : ∀ c ∈ chs l.reverse, 50 ≤ c ∧ c ≤ 57 := by
      intro c hc
      unfold chs at hc
      obtain ⟨d, hd2, rfl⟩ := List.mem_map.1 hc
      have := hg d (List.mem_reverse.1 hd2)
      omega
    have hL : L (strOfNums (sortedL (chs l))) = chs l.reverse := by
      rw [sortedL_chs hd, L_strOfNums _ (fun c hc => by have := hb c hc; omega)]
    have hz : (strOfNums (sortedL (chs l))).size = l.length := by rw [size_L, hL]; unfold chs; rw [List.length_map, List.length_reverse]
    obtain ⟨K, h⟩ := numberOf_f (strOfNums (sortedL (chs l))) (by rw [hL, List.all_eq_true]; intro c hc; rw [isD_t]; have := hb c hc; omega) (by omega)
    refine ⟨K, fun k hk => ?_⟩
    show (impl_numberOf.f k _).map _ = _
    have h2 : impl_numberOf.f k (strOfNums (sortedL (chs l))) = _ := h k hk
    rw [h2, hL, numF_rev]; rfl
def lwpAns (y : Nat) (l : List Nat) : Int × Bool := if 1 < y then (0, false) else if 12 < l.length then (0, false) else (if l = [] then 1 else (numR l : Int), true)
theorem l1Most_f (a b : Int) : spec_l1Most.f a b = some (if a > b then a else b) := by unfold spec_l1Most.f; split <;> rfl
theorem spec_run {a y : Nat} {l : List Nat} (h : Chain a y l) (ha : a ≤ 1000000000000) : Ev (fun k => spec_LeastWithProduct.l0 k (a : Int) 0 1 9) (lwpAns y l) := by
  obtain ⟨x9, l9, x8, l8, x7, l7, x6, l6, x5, l5, x4, l4, x3, l3, s9, s8, s7, s6, s5, s4, s3, s2⟩ := h.run
  have hl := h.len
  have hd := h.digs
  have m2 := s2.mono_len
  have m3 := s3.mono_len
  have m4 := s4.mono_len
  have m5 := s5.mono_len
  have m6 := s6.mono_len
  have m7 := s7.mono_len
  have m8 := s8.mono_len
  have q2 := s2.sub_ (by omega)
  have q3 := s3.sub_ (by omega)
  have q4 := s4.sub_ (by omega)
  have q5 := s5.sub_ (by omega)
  have q6 := s6.sub_ (by omega)
  have q7 := s7.sub_ (by omega)
  have q8 := s8.sub_ (by omega)
  have q9 := s9.sub_ (by omega)
  have hy := h.pos
  have e : ∀ (d : Nat), 2 ≤ d → d ≤ 9 → ∀ (x : Nat) (l : List Nat) (y : Nat) (l' : List Nat), Str d x l y l' → x ≤ 1000000000000 → l'.length ≤ 17 → (∀ e ∈ l, 2 ≤ e ∧ e ≤ 9) → ∀ R,
      Ev (fun k => spec_LeastWithProduct.l0 k (y : Int) (numR l' : Int) ((10 ^ l'.length : Nat) : Int) ((d - 1 : Nat) : Int)) R → Ev (fun k => spec_LeastWithProduct.l0 k (x : Int) (numR l : Int) ((10 ^ l.length : Nat) : Int) (d : Int)) R :=
    fun d h2 h9 x l y l' hs hx hl hg R hR => Ev.step (fun _ => spec_LeastWithProduct.l0.eq_2 ..) (Ev.pos (by omega) (spec_str hs h2 h9 hx hl hg R hR))
  have g3 : ∀ e ∈ l3, 2 ≤ e ∧ e ≤ 9 := fun e he => hd e (q2.2 e he)
  have g4 : ∀ e ∈ l4, 2 ≤ e ∧ e ≤ 9 := fun e he => g3 e (q3.2 e he)
  have g5 : ∀ e ∈ l5, 2 ≤ e ∧ e ≤ 9 := fun e he => g4 e (q4.2 e he)
  have g6 : ∀ e ∈ l6, 2 ≤ e ∧ e ≤ 9 := fun e he => g5 e (q5.2 e he)
  have g7 : ∀ e ∈ l7, 2 ≤ e ∧ e ≤ 9 := fun e he => g6 e (q6.2 e he)
  have g8 : ∀ e ∈ l8, 2 ≤ e ∧ e ≤ 9 := fun e he => g7 e (q7.2 e he)
  have g9 : ∀ e ∈ l9, 2 ≤ e ∧ e ≤ 9 := fun e he => g8 e (q8.2 e he)
  have i9 := q9.1
  have i8 := q8.1
  have i7 := q7.1
  have i6 := q6.1
  have i5 := q5.1
  have i4 := q4.1
  have i3 := q3.1
  refine e 9 (by omega) (by omega) a [] x9 l9 s9 ha (by omega) (fun e he => by cases he) _ (e 8 (by omega) (by omega) _ _ _ _ s8 (by omega) (by omega) g9 _ (e 7 (by omega) (by omega) _ _ _ _ s7 (by omega) (by omega) g8 _ (e 6 (by omega) (by omega) _ _ _ _ s6 (by omega) (by omega) g7 _ (e 5 (by omega) (by omega) _ _ _ _ s5 (by omega) (by omega) g6 _ (e 4 (by omega) (by omega) _ _ _ _ s4 (by omega) (by omega) g5 _ (e 3 (by omega) (by omega) _ _ _ _ s3 (by omega) (by omega) g4 _ (e 2 (by omega) (by omega) _ _ _ _ s2 (by omega) hl g3 _ ?_)))))))
  refine Ev.step (fun _ => spec_LeastWithProduct.l0.eq_2 ..) (Ev.neg (by decide) ?_)
  unfold lwpAns
  by_cases c : 1 < y
  · rw [if_pos c]; exact Ev.pos (by omega) (Ev.now _)
  · rw [if_neg c]
    refine Ev.neg (by omega) ?_
    by_cases c2 : 12 < l.length
    · rw [if_pos c2]
      refine Ev.pos ?_ (Ev.now _)
      have h1 := numR_lo l hd (fun e => by rw [e] at c2; cases c2)
      have h2 : 10 ^ 12 ≤ 10 ^ (l.length - 1) := Nat.pow_le_pow_right (by omega) (by omega)
      have h3 : (10 : Nat) ^ 12 = 1000000000000 := by decide
      omega
    · rw [if_neg c2]
      have h1 := numR_hi l hd
      have h2 : 10 ^ l.length ≤ 10 ^ 12 := Nat.pow_le_pow_right (by omega) (by omega)
      have h3 : (10 : Nat) ^ 12 = 1000000000000 := by decide
      refine Ev.neg (by omega) (Ev.sm (l1Most_f _ _) (Ev.eq ?_ (Ev.now _)))
      by_cases c3 : l = []
      · subst c3; rfl
      · have h4 := numR_lo l hd c3
        have h5 : 0 < 10 ^ (l.length - 1) := Nat.pow_pos (by omega)
        rw [if_neg c3, if_neg (by omega)]
theorem impl_run {a y : Nat} {l : List Nat} (h : Chain a y l) (ha : a ≤ 1000000000000) (h2 : 2 ≤ a) : Ev (fun k => impl_LeastWithProduct.l0 k (a : Int) [] 9) (lwpAns y l) := by
  obtain ⟨x9, l9, x8, l8, x7, l7, x6, l6, x5, l5, x4, l4, x3, l3, s9, s8, s7, s6, s5, s4, s3, s2⟩ := h.run
  have hl := h.len
  have m2 := s2.mono_len
  have m3 := s3.mono_len
  have m4 := s4.mono_len
  have m5 := s5.mono_len
  have m6 := s6.mono_len
  have m7 := s7.mono_len
  have m8 := s8.mono_len
  have i9 := (s9.sub_ (by omega)).1
  have i8 := (s8.sub_ (by omega)).1
  have i7 := (s7.sub_ (by omega)).1
  have i6 := (s6.sub_ (by omega)).1
  have i5 := (s5.sub_ (by omega)).1
  have i4 := (s4.sub_ (by omega)).1
  have i3 := (s3.sub_ (by omega)).1
  have hy := h.pos
  have e : ∀ (d : Nat), 2 ≤ d → d ≤ 9 → ∀ (x : Nat) (l : List Nat) (y : Nat) (l' : List Nat), Str d x l y l' → x ≤ 1000000000000 → l'.length ≤ 17 → ∀ R,
      Ev (fun k => impl_LeastWithProduct.l0 k (y : Int) (chs l') ((d - 1 : Nat) : Int)) R → Ev (fun k => impl_LeastWithProduct.l0 k (x : Int) (chs l) (d : Int)) R :=
    fun d h2 h9 x l y l' hs hx hl R hR => Ev.step (fun _ => impl_LeastWithProduct.l0.eq_2 ..) (Ev.pos (by omega) (impl_str hs h2 h9 hx hl R hR))
  refine e 9 (by omega) (by omega) a [] x9 l9 s9 ha (by omega) _ (e 8 (by omega) (by omega) _ _ _ _ s8 (by omega) (by omega) _ (e 7 (by omega) (by omega) _ _ _ _ s7 (by omega) (by omega) _ (e 6 (by omega) (by omega) _ _ _ _ s6 (by omega) (by omega) _ (e 5 (by omega) (by omega) _ _ _ _ s5 (by omega) (by omega) _ (e 4 (by omega) (by omega) _ _ _ _ s4 (by omega) (by omega) _ (e 3 (by omega) (by omega) _ _ _ _ s3 (by omega) (by omega) _ (e 2 (by omega) (by omega) _ _ _ _ s2 (by omega) hl _ ?_)))))))
  refine Ev.step (fun _ => impl_LeastWithProduct.l0.eq_2 ..) (Ev.neg (by decide) ?_)
  unfold lwpAns
  by_cases c : 1 < y
  · rw [if_pos c]; exact Ev.pos (by omega) (Ev.now _)
  · rw [if_neg c]
    refine Ev.neg (by omega) ?_
    have hnn : l ≠ [] := fun e => by have := h.nil e; omega
    have hl1 : 1 ≤ l.length := List.length_pos_iff.2 hnn
    refine Ev.bind (asLeast_f hl1 hl h.digs h.desc) (Ev.eq ?_ (Ev.now _))
    by_cases c2 : 12 < l.length
    · rw [if_pos c2, if_pos c2]
    · rw [if_neg c2, if_neg c2, if_neg hnn]
theorem within_pf (a : Int) : impl_isProduct.f a = some (decide (1 ≤ a) && decide (a ≤ 1000000000000)) := by
  unfold impl_isProduct.f; rw [within_f]; rfl
theorem FnExactLeastWithProduct : laws_FnExactLeastWithProduct.Pure := by
  intro a _
  refine Ev.rounds (g := fun k => laws_FnExactLeastWithProduct.f k a) ?_
  unfold laws_FnExactLeastWithProduct.f
  by_cases ha : 1 ≤ a ∧ a ≤ 1000000000000
  · obtain ⟨n, rfl⟩ : ∃ n : Nat, a = (n : Int) := ⟨a.toNat, by omega⟩
    have hb : (decide (1 ≤ (n : Int)) && decide ((n : Int) ≤ 1000000000000)) = true := by rw [decide_eq_true ha.1, decide_eq_true ha.2]; rfl
    obtain ⟨y, l, hc⟩ := chain_ex n (by omega) (by omega)
    have hs : Ev (fun k => spec_LeastWithProduct.f k (n : Int)) (lwpAns y l) := Ev.sm (l1In_f _ _ _) (Ev.pos hb (spec_run hc (by omega)))
    have hi : Ev (fun k => impl_LeastWithProduct.f k (n : Int)) (lwpAns y l) := by
      refine Ev.sm (within_pf _) (Ev.pos hb ?_)
      by_cases h1 : (n : Int) = 1
      · refine Ev.pos h1 (Ev.eq ?_ (Ev.now _))
        have hn : n = 1 := by omega
        have hle := chain_le hc
        have hy := hc.pos
        have hl : l = [] := chain_one hc hn
        unfold lwpAns
        rw [if_neg (by omega), hl]; rfl
      · exact Ev.neg h1 (impl_run hc (by omega) (by omega))
    exact Ev.bind hs (Ev.bind hi (Ev.pos rfl (Ev.neg (by simp) (Ev.now _))))
  · have hb : ¬ (decide (1 ≤ a) && decide (a ≤ 1000000000000)) = true := by rw [Bool.and_eq_true, decide_eq_true_eq, decide_eq_true_eq]; exact ha
    exact Ev.bind (a := (0, false)) (Ev.sm (l1In_f _ _ _) (Ev.neg hb (Ev.now _))) (Ev.bind (a := (0, false)) (Ev.sm (within_pf _) (Ev.neg hb (Ev.now _))) (Ev.pos rfl (Ev.neg (by decide) (Ev.now _))))

end Go.Proofs.Ytkbbmkbkpkmdkaa.Pure
