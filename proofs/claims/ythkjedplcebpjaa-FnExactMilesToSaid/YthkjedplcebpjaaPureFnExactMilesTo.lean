/- The plain law of FnExactMilesTo: at all arguments the printed function of the law answers true after some number of rounds. Conditions: none beyond the bounds that the printed statement itself bears. -/
import Derived.Test.YthkjedplcebpjaaPFnExactMilesTox2
namespace Go.Proofs.Ythkjedplcebpjaa.Pure
open Go.RowKit Go.Proofs.Ythkjedplcebpjaa.PFnExactMilesTo Go.Proofs.YthkjedplcebpjaaW.PrintWords Go.Proofs.YthkjedplcebpjaaW.PrintLast
set_option linter.unusedVariables false

/-! ## base -/
/-! numbers in 64 bits -/
theorem w64 {x : Int} (h1 : -9223372036854775808 ≤ x) (h2 : x ≤ 9223372036854775807) : wrap64 x = x := by unfold wrap64; omega
theorem w64n {x : Nat} (h2 : x ≤ 9223372036854775807) : wrap64 (x : Int) = (x : Int) := w64 (by omega) (by omega)
theorem wf64 {x : Int} (h : (Lit.int .i64 x).wf = true) : -9223372036854775808 ≤ x ∧ x ≤ 9223372036854775807 := by
  have hmin : IntKind.i64.min = -9223372036854775808 := rfl
  have hmax : IntKind.i64.max = 9223372036854775807 := rfl
  simp only [Lit.wf, Bool.and_eq_true, decide_eq_true_eq, hmin, hmax] at h
  exact h
theorem tmodN (a b : Nat) : Int.tmod (a : Int) (b : Int) = ((a % b : Nat) : Int) := rfl
theorem tdivN (a b : Nat) : Int.tdiv (a : Int) (b : Int) = ((a / b : Nat) : Int) := rfl
theorem tmod_nn {a b : Int} (h : 0 ≤ a) : Int.tmod a b = a % b := Int.tmod_eq_emod_of_nonneg h
theorem tdiv_nn {a b : Int} (h : 0 ≤ a) : Int.tdiv a b = a / b := Int.tdiv_eq_ediv_of_nonneg h
/-! from some number of rounds on -/
theorem Ev.pos {α : Type} {c : Prop} [Decidable c] {f g : Nat → Option α} {r : α} (h : c) (e : Ev f r) : Ev (fun k => if c then f k else g k) r := by simpa only [if_pos h] using e
theorem Ev.neg {α : Type} {c : Prop} [Decidable c] {f g : Nat → Option α} {r : α} (h : ¬ c) (e : Ev g r) : Ev (fun k => if c then f k else g k) r := by simpa only [if_neg h] using e
theorem Ev.sm {α β : Type} {f : Nat → α → Option β} {a : α} {o : Option α} {r : β} (h : o = some a) (e : Ev (fun n => f n a) r) : Ev (fun n => o.bind (f n)) r := by subst h; simpa only [Option.bind_some] using e
theorem Ev.eq {α : Type} {f : Nat → Option α} {r r' : α} (h : r' = r) (e : Ev f r) : Ev f r' := h ▸ e
theorem Ev.of_some {α : Type} {o : Option α} {r : α} (h : o = some r) : Ev (fun _ => o) r := ⟨0, fun _ _ => h⟩
theorem Ev.uniq {α : Type} {g : Nat → Option α} {r q : α} (h : Ev g r) (h' : Ev g q) : r = q := by
  obtain ⟨K, h⟩ := h
  obtain ⟨K', h'⟩ := h'
  have := (h (max K K') (by omega)).symm.trans (h' (max K K') (by omega))
  exact Option.some.inj this
/-! a string as a list of numbers -/
def L (s : ByteArray) : List Int := s.data.toList.map (fun c => (c.toNat : Int))
theorem L_length (s : ByteArray) : (L s).length = s.size := by simp [L]
theorem bt_lo (s : ByteArray) (i : Int) : 0 ≤ bt s i := by unfold bt; split <;> omega
theorem bt_hi (s : ByteArray) (i : Int) : bt s i ≤ 255 := by
  unfold bt; split
  · have := UInt8.toNat_lt (s[i.toNat]); omega
  · omega
theorem bt_L (s : ByteArray) (n : Nat) : bt s (n : Int) = (L s).getD n 0 := by
  unfold bt L
  by_cases h : n < s.size
  · simp [h, List.getD_eq_getElem?_getD]; rfl
  · simp [h, List.getD_eq_getElem?_getD]
theorem L_get (s : ByteArray) (n : Nat) (h : n < s.size) : (L s)[n]? = some (bt s n) := by
  rw [bt_L, List.getD_eq_getElem?_getD]
  have : n < (L s).length := by rw [L_length]; exact h
  simp [this]
theorem L_mem {s : ByteArray} {c : Int} (h : c ∈ L s) : 0 ≤ c ∧ c ≤ 255 := by
  unfold L at h
  obtain ⟨u, _, rfl⟩ := List.mem_map.1 h
  have := UInt8.toNat_lt u
  omega
theorem map_toNat_inj : ∀ (l m : List UInt8), l.map (fun c => (c.toNat : Int)) = m.map (fun c => (c.toNat : Int)) → l = m
  | [], [], _ => rfl
  | [], _ :: _, h => by simp at h
  | _ :: _, [], h => by simp at h
  | a :: l, b :: m, h => by
    simp only [List.map_cons, List.cons.injEq] at h
    have h1 : a = b := by apply UInt8.toNat_inj.1; omega
    rw [h1, map_toNat_inj l m h.2]
theorem L_inj {s t : ByteArray} (h : L s = L t) : s = t := by
  have := map_toNat_inj _ _ h
  cases s; cases t
  congr 1
  exact Array.toList_inj.1 this
theorem toList_L {s t : ByteArray} : s.data.toList = t.data.toList ↔ L s = L t := by
  constructor
  · intro h; unfold L; rw [h]
  · intro h; exact map_toNat_inj _ _ h
theorem L_append (s t : ByteArray) : L (s ++ t) = L s ++ L t := by
  unfold L
  rw [ByteArray.data_append]
  simp
/-- The rest of a list from a place on. -/
theorem drop_cons {α : Type} {l : List α} {n : Nat} {c : α} {t : List α} (h : l.drop n = c :: t) : n < l.length ∧ l[n]? = some c ∧ l.drop (n + 1) = t := by
  have h1 : n < l.length := by
    by_cases h1 : n < l.length
    · exact h1
    · rw [List.drop_eq_nil_of_le (by omega)] at h; cases h
  rw [List.drop_eq_getElem_cons h1] at h
  simp only [List.cons.injEq] at h
  exact ⟨h1, by rw [List.getElem?_eq_getElem h1, h.1], h.2⟩
theorem drop_nil {α : Type} {l : List α} {n : Nat} (h : l.drop n = []) : l.length ≤ n := by simpa using h
theorem sdrop_cons {s : ByteArray} {n : Nat} {c : Int} {t : List Int} (h : (L s).drop n = c :: t) : n < s.size ∧ bt s n = c ∧ (L s).drop (n + 1) = t := by
  obtain ⟨h1, h2, h3⟩ := drop_cons h
  rw [L_length] at h1
  rw [L_get s n h1] at h2
  exact ⟨h1, Option.some.inj h2, h3⟩
theorem sdrop_nil {s : ByteArray} {n : Nat} (h : (L s).drop n = []) : s.size ≤ n := by have := drop_nil h; rwa [L_length] at this
theorem wsucc {n m : Nat} (h : n < m) (hm : m ≤ 140737488355328) : wrap64 ((n : Int) + 1) = ((n + 1 : Nat) : Int) := by rw [w64 (by omega) (by omega)]; rfl
/-! digits -/
def isD (c : Int) : Bool := decide (48 ≤ c) && decide (c ≤ 57)
theorem isD_t {c : Int} : isD c = true ↔ 48 ≤ c ∧ c ≤ 57 := by simp [isD]
theorem isD_f {c : Int} : isD c = false ↔ c < 48 ∨ 57 < c := by
  rw [← Bool.not_eq_true, isD_t]; omega
theorem dig_mod {c : Int} (h : isD c = true) : (c - 48) % 256 = c - 48 := by rw [isD_t] at h; omega
/-! ## num -/
/-- Ten to a power. -/
def p10 (n : Nat) : Int := 10 ^ n
theorem p10_succ (n : Nat) : p10 (n + 1) = 10 * p10 n := by unfold p10; rw [Int.pow_succ, Int.mul_comm]
theorem p10_pos (n : Nat) : 1 ≤ p10 n := by
  induction n with
  | zero => decide
  | succ n ih => rw [p10_succ]; omega
theorem p10_mono {n m : Nat} (h : n ≤ m) : p10 n ≤ p10 m := by
  obtain ⟨d, rfl⟩ : ∃ d, m = n + d := ⟨m - n, by omega⟩
  clear h
  induction d with
  | zero => exact Int.le_refl _
  | succ d ih => rw [← Nat.add_assoc, p10_succ]; have := p10_pos (n + d); omega
theorem p10_9 {n : Nat} (h : n ≤ 9) : p10 n ≤ 1000000000 := p10_mono h
/-- The number that digits tell, behind what stands before them. -/
def numF (a : Int) (l : List Int) : Int := l.foldl (fun n c => 10 * n + (c - 48)) a
theorem numF_cons (a c : Int) (l : List Int) : numF a (c :: l) = numF (10 * a + (c - 48)) l := rfl
theorem numF_bd : ∀ (l : List Int) (a : Int), l.all isD = true → 0 ≤ a → a * p10 l.length ≤ numF a l ∧ numF a l < (a + 1) * p10 l.length
  | [], a, _, h => by simp [numF, p10]; omega
  | c :: l, a, hl, h => by
    rw [List.all_cons, Bool.and_eq_true] at hl
    have hc := isD_t.1 hl.1
    have ih := numF_bd l (10 * a + (c - 48)) hl.2 (by omega)
    have hp := p10_pos l.length
    rw [numF_cons, List.length_cons, p10_succ]
    have e1 : a * (10 * p10 l.length) ≤ (10 * a + (c - 48)) * p10 l.length := by
      rw [← Int.mul_assoc]; exact Int.mul_le_mul_of_nonneg_right (by omega) (by omega)
    have e2 : (10 * a + (c - 48) + 1) * p10 l.length ≤ (a + 1) * (10 * p10 l.length) := by
      rw [← Int.mul_assoc]; exact Int.mul_le_mul_of_nonneg_right (by omega) (by omega)
    omega
/-- A number with room for so many digits behind it. -/
theorem num_step {a c : Int} {n : Nat} (ha : 0 ≤ a) (hc : 48 ≤ c ∧ c ≤ 57) (h : (a + 1) * p10 (n + 1) ≤ 1000000000000000000) : 0 ≤ 10 * a + (c - 48) ∧ (10 * a + (c - 48) + 1) * p10 n ≤ 1000000000000000000 ∧ 10 * a + (c - 48) ≤ 1000000000000000000 := by
  have hp := p10_pos n
  rw [p10_succ, ← Int.mul_assoc] at h
  have e2 : (10 * a + (c - 48) + 1) * p10 n ≤ (a + 1) * 10 * p10 n := Int.mul_le_mul_of_nonneg_right (by omega) (by omega)
  have e3 : (10 * a + (c - 48) + 1) * 1 ≤ (10 * a + (c - 48) + 1) * p10 n := Int.mul_le_mul_of_nonneg_left hp (by omega)
  omega
/-! ## l1In -/
theorem l1In_f (a b c : Int) : spec_l1In.f a b c = some (decide (b ≤ a) && decide (a ≤ c)) := by
  unfold spec_l1In.f; by_cases h : b ≤ a <;> simp [h]
/-! ## miGood -/
theorem miGood_l0 (s : ByteArray) (hs : s.size ≤ 140737488351232) : ∀ (l : List Int) (n : Nat), (L s).drop n = l →
    Ev (fun k => spec_miGood.l0 k s (n : Int)) (l.all isD) := by
  intro l
  induction l with
  | nil =>
    intro n h
    have h1 := sdrop_nil h
    exact Ev.step (spec_miGood.l0.eq_2 s (n : Int)) (Ev.neg (by omega) (Ev.now _))
  | cons c t ih =>
    intro n h
    obtain ⟨h1, h2, h3⟩ := sdrop_cons h
    refine Ev.step (spec_miGood.l0.eq_2 s (n : Int)) (Ev.pos (by omega) (Ev.pos (by omega) ?_))
    rw [h2, wsucc h1 (by omega)]
    by_cases hc : isD c = true
    · have hc' := isD_t.1 hc
      refine Ev.neg (by omega) (Ev.neg (by omega) (Ev.eq ?_ (ih (n + 1) h3)))
      simp [hc]
    · have hc' := isD_f.1 (by simpa using hc)
      by_cases h48 : c < 48
      · exact Ev.pos h48 (Ev.eq (by simp [hc]) (Ev.now _))
      · exact Ev.neg h48 (Ev.pos (by omega) (Ev.eq (by simp [hc]) (Ev.now _)))
theorem miGood_f (s : ByteArray) (hs : s.size ≤ 140737488351232) :
    Ev (fun k => spec_miGood.f k s) ((L s).all isD && (decide ((1 : Int) ≤ s.size) && decide ((s.size : Int) ≤ 9))) := by
  refine Ev.sm (l1In_f _ _ _) ?_
  by_cases h : (decide ((1 : Int) ≤ s.size) && decide ((s.size : Int) ≤ 9)) = true
  · exact Ev.pos h (Ev.eq (by rw [h, Bool.and_true]) (miGood_l0 s hs (L s) 0 rfl))
  · exact Ev.neg h (Ev.eq (by rw [Bool.not_eq_true] at h; rw [h, Bool.and_false]) (Ev.now _))
/-! ## within -/
theorem within_f (a b c : Int) : impl_within.f a b c = some (decide (b ≤ a) && decide (a ≤ c)) := by
  unfold impl_within.f; by_cases h : b ≤ a <;> simp [h]
/-! ## areDigits -/
theorem areDigits_l0 (s : ByteArray) (lo hi : Int) (hs : s.size ≤ 140737488351232) : ∀ (l : List Int) (n : Nat), (L s).drop n = l →
    Ev (fun k => impl_areDigits.l0 k s lo hi (s.size : Int) (n : Int)) (l.all isD && (decide (lo ≤ s.size) && decide ((s.size : Int) ≤ hi))) := by
  intro l
  induction l with
  | nil =>
    intro n h
    have h1 := sdrop_nil h
    refine Ev.step (impl_areDigits.l0.eq_2 s lo hi (s.size : Int) (n : Int)) ?_
    refine Ev.neg (by omega) (Ev.sm (within_f _ _ _) (Ev.eq ?_ (Ev.now _)))
    simp
  | cons c t ih =>
    intro n h
    obtain ⟨h1, h2, h3⟩ := sdrop_cons h
    refine Ev.step (impl_areDigits.l0.eq_2 s lo hi (s.size : Int) (n : Int)) (Ev.pos (by omega) (Ev.pos (by omega) (Ev.pos (by omega) ?_)))
    rw [h2, wsucc h1 (by omega)]
    by_cases hc : isD c = true
    · have hc' := isD_t.1 hc
      refine Ev.neg (by omega) (Ev.neg (by omega) (Ev.eq ?_ (ih (n + 1) h3)))
      simp [hc]
    · have hc' := isD_f.1 (by simpa using hc)
      by_cases h48 : c < 48
      · exact Ev.pos h48 (Ev.eq (by simp [hc]) (Ev.now _))
      · exact Ev.neg h48 (Ev.pos (by omega) (Ev.eq (by simp [hc]) (Ev.now _)))
theorem areDigits_f (s : ByteArray) (lo hi : Int) (hs : s.size ≤ 140737488351232) :
    Ev (fun k => impl_areDigits.f k s lo hi) ((L s).all isD && (decide (lo ≤ s.size) && decide ((s.size : Int) ≤ hi))) :=
  areDigits_l0 s lo hi hs (L s) 0 rfl
/-! ## miles -/
theorem miAll_l0 : ∀ (n : Nat) (a : Int), 0 ≤ a → n ≤ 18 → a * p10 n ≤ 1000000000000000000 → Ev (fun k => spec_miAll.l0 k (n : Int) a) (a * p10 n)
  | 0, a, _, _, _ => Ev.step (fun _ => spec_miAll.l0.eq_2 ..) (Ev.neg (by omega) (Ev.eq (by simp [p10]) (Ev.now _)))
  | n + 1, a, h0, hn, h => by
    refine Ev.step (fun _ => spec_miAll.l0.eq_2 ..) (Ev.pos (by omega) ?_)
    have hp := p10_pos n
    have e : a * p10 (n + 1) = a * 10 * p10 n := by rw [p10_succ, Int.mul_assoc]
    have e3 : a * 10 * 1 ≤ a * 10 * p10 n := Int.mul_le_mul_of_nonneg_left hp (by omega)
    rw [e] at h ⊢
    rw [w64 (x := a * 10) (by omega) (by omega), w64 (by omega) (by omega), show ((n + 1 : Nat) : Int) - 1 = (n : Int) by omega]
    exact miAll_l0 n (a * 10) (by omega) (by omega) h
theorem miAll_f (n : Nat) (h : n ≤ 18) : Ev (fun k => spec_miAll.f k (n : Int)) (p10 n) := by
  have h1 := miAll_l0 n 1 (by omega) h (by rw [Int.one_mul]; exact p10_mono (m := 18) h)
  rw [Int.one_mul] at h1
  exact h1
theorem round_l0 (n : Nat) (hn : n ≤ 18) : ∀ (d i : Nat), i + d = n → Ev (fun k => impl_round.l0 k (p10 i) (n : Int) (i : Int)) (p10 n)
  | 0, i, h => by
    obtain rfl : i = n := by omega
    exact Ev.step (fun _ => impl_round.l0.eq_2 ..) (Ev.neg (by omega) (Ev.now _))
  | d + 1, i, h => by
    refine Ev.step (fun _ => impl_round.l0.eq_2 ..) (Ev.pos (by omega) ?_)
    have hp := p10_pos i
    have hq : p10 (i + 1) ≤ 1000000000000000000 := p10_mono (m := 18) (by omega)
    rw [p10_succ] at hq
    rw [w64 (x := p10 i * 10) (by omega) (by omega), wsucc (m := n) (by omega) (by omega), Int.mul_comm, ← p10_succ]
    exact round_l0 n hn d (i + 1) (by omega)
theorem round_f (n : Nat) (h : n ≤ 18) : Ev (fun k => impl_round.f k (n : Int)) (p10 n) := round_l0 n h n 0 (by omega)
theorem tkNumber_l0 (s : ByteArray) (hs : s.size ≤ 18) : ∀ (l : List Int) (n : Nat) (a : Int), (L s).drop n = l → l.all isD = true → 0 ≤ a → (a + 1) * p10 l.length ≤ 1000000000000000000 →
    Ev (fun k => spec_tkNumber.l0 k s a (n : Int)) (numF a l) := by
  intro l
  induction l with
  | nil =>
    intro n a h _ _ _
    have h1 := sdrop_nil h
    exact Ev.step (fun _ => spec_tkNumber.l0.eq_2 ..) (Ev.neg (by omega) (Ev.now _))
  | cons c t ih =>
    intro n a h hl ha hb
    obtain ⟨h1, h2, h3⟩ := sdrop_cons h
    rw [List.all_cons, Bool.and_eq_true] at hl
    have hc := isD_t.1 hl.1
    obtain ⟨g1, g2, g3⟩ := num_step ha hc hb
    refine Ev.step (fun _ => spec_tkNumber.l0.eq_2 ..) (Ev.pos (by omega) (Ev.pos (by omega) ?_))
    rw [h2, dig_mod hl.1, wsucc h1 (by omega), w64 (x := a * 10) (by omega) (by omega), Int.mul_comm a 10, w64 (x := 10 * a + (c - 48)) (by omega) (by omega)]
    exact ih (n + 1) _ h3 hl.2 g1 g2
theorem numberOf_l0 (s : ByteArray) (hs : s.size ≤ 18) : ∀ (l : List Int) (n : Nat) (a : Int), (L s).drop n = l → l.all isD = true → 0 ≤ a → (a + 1) * p10 l.length ≤ 1000000000000000000 →
    Ev (fun k => impl_numberOf.l0 k s a (s.size : Int) (n : Int)) (numF a l) := by
  intro l
  induction l with
  | nil =>
    intro n a h _ _ _
    have h1 := sdrop_nil h
    exact Ev.step (fun _ => impl_numberOf.l0.eq_2 ..) (Ev.neg (by omega) (Ev.now _))
  | cons c t ih =>
    intro n a h hl ha hb
    obtain ⟨h1, h2, h3⟩ := sdrop_cons h
    rw [List.all_cons, Bool.and_eq_true] at hl
    have hc := isD_t.1 hl.1
    obtain ⟨g1, g2, g3⟩ := num_step ha hc hb
    refine Ev.step (fun _ => impl_numberOf.l0.eq_2 ..) (Ev.pos (by omega) (Ev.pos (by omega) (Ev.pos (by omega) ?_)))
    rw [h2, dig_mod hl.1, wsucc h1 (by omega), w64 (x := 10 * a) (by omega) (by omega), w64 (x := 10 * a + (c - 48)) (by omega) (by omega)]
    exact ih (n + 1) _ h3 hl.2 g1 g2
theorem room18 {n : Nat} (h : n ≤ 18) : ((0 : Int) + 1) * p10 n ≤ 1000000000000000000 := by
  rw [Int.zero_add, Int.one_mul]; exact p10_mono (m := 18) h
theorem tkNumber_f (s : ByteArray) (hd : (L s).all isD = true) (hs : s.size ≤ 18) : Ev (fun k => spec_tkNumber.f k s) (numF 0 (L s)) :=
  tkNumber_l0 s hs (L s) 0 0 rfl hd (by omega) (room18 (by rw [L_length]; exact hs))
theorem numberOf_f (s : ByteArray) (hd : (L s).all isD = true) (hs : s.size ≤ 18) : Ev (fun k => impl_numberOf.f k s) (numF 0 (L s)) :=
  numberOf_l0 s hs (L s) 0 0 rfl hd (by omega) (room18 (by rw [L_length]; exact hs))
/-! ## miTo -/
/-- From one number to another one on a dial of n digits. -/
def toGo (a b : ByteArray) : Int := Int.tmod (wrap64 ((wrap64 (numF 0 (L b) - numF 0 (L a))) + p10 a.size)) (p10 a.size)
theorem miTo_f (a b : ByteArray) (ha : (L a).all isD = true) (hb : (L b).all isD = true) (ha9 : a.size ≤ 9) (hb9 : b.size ≤ 9) : Ev (fun k => spec_miTo.f k a b) (toGo a b) :=
  Ev.bind (miAll_f a.size (by omega)) (Ev.bind (tkNumber_f b hb (by omega)) (Ev.bind (tkNumber_f a ha (by omega)) (Ev.neg (by have := p10_pos a.size; omega) (Ev.now _))))
theorem milesTo_f (a b : ByteArray) (ha : (L a).all isD = true) (hb : (L b).all isD = true) (ha9 : a.size ≤ 9) (hb9 : b.size ≤ 9) : Ev (fun k => impl_milesTo.f k a b) (toGo a b) :=
  Ev.bind (round_f a.size (by omega)) (Ev.bind (numberOf_f b hb (by omega)) (Ev.bind (numberOf_f a ha (by omega)) (Ev.neg (by have := p10_pos a.size; omega) (Ev.now _))))
/-! ## reading -/
/-- Is a text a reading. -/
def good (s : ByteArray) : Bool := (L s).all isD && (decide ((1 : Int) ≤ s.size) && decide ((s.size : Int) ≤ 9))
theorem good_t {s : ByteArray} (h : good s = true) : (L s).all isD = true ∧ 1 ≤ s.size ∧ s.size ≤ 9 := by
  unfold good at h
  rw [Bool.and_eq_true, Bool.and_eq_true, decide_eq_true_eq, decide_eq_true_eq] at h
  exact ⟨h.1, by omega, by omega⟩
/-! ## FnExactMilesTo -/
theorem FnExactMilesTo : laws_FnExactMilesTo.Pure := by
  intro a b ha hb
  refine Ev.rounds (g := fun k => laws_FnExactMilesTo.f k a b) ?_
  unfold laws_FnExactMilesTo.f
  by_cases b1 : (a.size : Int) > 1048576
  · exact Ev.pos b1 (Ev.now _)
  · by_cases b2 : (b.size : Int) > 1048576
    · exact Ev.neg b1 (Ev.pos b2 (Ev.now _))
    · refine Ev.neg b1 (Ev.neg b2 ?_)
      have fin : ∀ r : Int × Bool, Ev (fun k => spec_MilesTo.f k a b) r → Ev (fun k => impl_MilesTo.f k a b) r → Ev (fun k => (spec_MilesTo.f k a b).bind fun bt116 => ((impl_MilesTo.f k a b).bind fun bt118 => (if bt118.1 = bt116.1 then (if (bt118.2 != bt116.2) = true then (some false) else (some true)) else (some false)))) true := by
        intro r h1 h2
        exact Ev.bind h1 (Ev.bind h2 (Ev.pos rfl (Ev.neg (by simp) (Ev.now _))))
      have ga : Ev (fun k => spec_miGood.f k a) (good a) := miGood_f a ha
      have gb : Ev (fun k => spec_miGood.f k b) (good b) := miGood_f b hb
      have ia : Ev (fun k => impl_IsReading.f k a) (good a) := Ev.bind (areDigits_f a 1 9 ha) (Ev.now _)
      have ib : Ev (fun k => impl_IsReading.f k b) (good b) := Ev.bind (areDigits_f b 1 9 hb) (Ev.now _)
      by_cases c1 : good a = true
      · by_cases c2 : good b = true
        · have h1 := good_t c1
          have h2 := good_t c2
          by_cases c3 : (a.size : Int) = (b.size : Int)
          · exact fin (toGo a b, true) (Ev.bind ga (Ev.pos c1 (Ev.bind gb (Ev.pos c2 (Ev.pos c3 (Ev.bind (miTo_f a b h1.1 h2.1 h1.2.2 h2.2.2) (Ev.now _)))))))
              (Ev.bind ia (Ev.pos c1 (Ev.bind ib (Ev.pos c2 (Ev.pos c3 (Ev.bind (milesTo_f a b h1.1 h2.1 h1.2.2 h2.2.2) (Ev.now _)))))))
          · exact fin (0, false) (Ev.bind ga (Ev.pos c1 (Ev.bind gb (Ev.pos c2 (Ev.neg c3 (Ev.now _))))))
              (Ev.bind ia (Ev.pos c1 (Ev.bind ib (Ev.pos c2 (Ev.neg c3 (Ev.now _))))))
        · exact fin (0, false) (Ev.bind ga (Ev.pos c1 (Ev.bind gb (Ev.neg c2 (Ev.now _))))) (Ev.bind ia (Ev.pos c1 (Ev.bind ib (Ev.neg c2 (Ev.now _)))))
      · exact fin (0, false) (Ev.bind ga (Ev.neg c1 (Ev.now _))) (Ev.bind ia (Ev.neg c1 (Ev.now _)))

end Go.Proofs.Ythkjedplcebpjaa.Pure
