/- The plain law of FnExactCountOfDigits: at all arguments the printed function of the law answers true after some number of rounds. Conditions: none beyond the bounds that the printed statement itself bears. -/
import Derived.Test.YtjbcjcpdchfakaaQFnExactCountOfDigitsx2
namespace Go.Proofs.Ytjbcjcpdchfakaa.Pure
open Go.RowKit Go.Proofs.Ytjbcjcpdchfakaa.QFnExactCountOfDigits Go.Proofs.YtjbcjcpdchfakaaW.PrintWords Go.Proofs.YtjbcjcpdchfakaaW.PrintLast
set_option linter.unusedVariables false

/-! ## base -/
/-! numbers in 64 bits -/
theorem w64 {x : Int} (h1 : -9223372036854775808 ≤ x) (h2 : x ≤ 9223372036854775807) : wrap64 x = x := by unfold wrap64; omega
theorem w64n {x : Nat} (h2 : x ≤ 9223372036854775807) : wrap64 (x : Int) = (x : Int) := w64 (by omega) (by omega)
theorem wf64 {x : Int} (h : (Lit.int .i64 x).wf = true) : -9223372036854775808 ≤ x ∧ x ≤ 9223372036854775807 := by
  have hmin : IntKind.i64.min = -9223372036854775808 := rfl
  have hmax : IntKind.i64.max = 9223372036854775807 := rfl
  simp only [Lit.wf, Bool.and_eq_true, decide_eq_true_eq, hmin, hmax] at h
  exact h
theorem tmodN (a b : Nat) : Int.tmod (a : Int) (b : Int) = ((a % b : Nat) : Int) := rfl
theorem tdivN (a b : Nat) : Int.tdiv (a : Int) (b : Int) = ((a / b : Nat) : Int) := rfl
theorem tmod_nn {a b : Int} (h : 0 ≤ a) : Int.tmod a b = a % b := Int.tmod_eq_emod_of_nonneg h
theorem tdiv_nn {a b : Int} (h : 0 ≤ a) : Int.tdiv a b = a / b := Int.tdiv_eq_ediv_of_nonneg h
/-! from some number of rounds on -/
theorem Ev.pos {α : Type} {c : Prop} [Decidable c] {f g : Nat → Option α} {r : α} (h : c) (e : Ev f r) : Ev (fun k => if c then f k else g k) r := by simpa only [if_pos h] using e
theorem Ev.neg {α : Type} {c : Prop} [Decidable c] {f g : Nat → Option α} {r : α} (h : ¬ c) (e : Ev g r) : Ev (fun k => if c then f k else g k) r := by simpa only [if_neg h] using e
theorem Ev.sm {α β : Type} {f : Nat → α → Option β} {a : α} {o : Option α} {r : β} (h : o = some a) (e : Ev (fun n => f n a) r) : Ev (fun n => o.bind (f n)) r := by subst h; simpa only [Option.bind_some] using e
theorem Ev.eq {α : Type} {f : Nat → Option α} {r r' : α} (h : r' = r) (e : Ev f r) : Ev f r' := h ▸ e
theorem Ev.of_some {α : Type} {o : Option α} {r : α} (h : o = some r) : Ev (fun _ => o) r := ⟨0, fun _ _ => h⟩
theorem Ev.uniq {α : Type} {g : Nat → Option α} {r q : α} (h : Ev g r) (h' : Ev g q) : r = q := by
  obtain ⟨K, h⟩ := h
  obtain ⟨K', h'⟩ := h'
  have := (h (max K K') (by omega)).symm.trans (h' (max K K') (by omega))
  exact Option.some.inj this
/-! a string as a list of numbers -/
def L (s : ByteArray) : List Int := s.data.toList.map (fun c => (c.toNat : Int))
theorem L_length (s : ByteArray) : (L s).length = s.size := by simp [L]
theorem bt_lo (s : ByteArray) (i : Int) : 0 ≤ bt s i := by unfold bt; split <;> omega
theorem bt_hi (s : ByteArray) (i : Int) : bt s i ≤ 255 := by
  unfold bt; split
  · have := UInt8.toNat_lt (s[i.toNat]); omega
  · omega
theorem bt_L (s : ByteArray) (n : Nat) : bt s (n : Int) = (L s).getD n 0 := by
  unfold bt L
  by_cases h : n < s.size
  · simp [h, List.getD_eq_getElem?_getD]; rfl
  · simp [h, List.getD_eq_getElem?_getD]
theorem L_get (s : ByteArray) (n : Nat) (h : n < s.size) : (L s)[n]? = some (bt s n) := by
  rw [bt_L, List.getD_eq_getElem?_getD]
  have : n < (L s).length := by rw [L_length]; exact h
  simp [this]
theorem L_mem {s : ByteArray} {c : Int} (h : c ∈ L s) : 0 ≤ c ∧ c ≤ 255 := by
  unfold L at h
  obtain ⟨u, _, rfl⟩ := List.mem_map.1 h
  have := UInt8.toNat_lt u
  omega
theorem map_toNat_inj : ∀ (l m : List UInt8), l.map (fun c => (c.toNat : Int)) = m.map (fun c => (c.toNat : Int)) → l = m
  | [], [], _ => rfl
  | [], _ :: _, h => by simp at h
  | _ :: _, [], h => by simp at h
  | a :: l, b :: m, h => by
    simp only [List.map_cons, List.cons.injEq] at h
    have h1 : a = b := by apply UInt8.toNat_inj.1; omega
    rw [h1, map_toNat_inj l m h.2]
theorem L_inj {s t : ByteArray} (h : L s = L t) : s = t := by
  have := map_toNat_inj _ _ h
  cases s; cases t
  congr 1
  exact Array.toList_inj.1 this
theorem toList_L {s t : ByteArray} : s.data.toList = t.data.toList ↔ L s = L t := by
  constructor
  · intro h; unfold L; rw [h]
  · intro h; exact map_toNat_inj _ _ h
theorem L_append (s t : ByteArray) : L (s ++ t) = L s ++ L t := by
  unfold L
  rw [ByteArray.data_append]
  simp
/-- The rest of a list from a place on. -/
theorem drop_cons {α : Type} {l : List α} {n : Nat} {c : α} {t : List α} (h : l.drop n = c :: t) : n < l.length ∧ l[n]? = some c ∧ l.drop (n + 1) = t := by
  have h1 : n < l.length := by
    by_cases h1 : n < l.length
    · exact h1
    · rw [List.drop_eq_nil_of_le (by omega)] at h; cases h
  rw [List.drop_eq_getElem_cons h1] at h
  simp only [List.cons.injEq] at h
  exact ⟨h1, by rw [List.getElem?_eq_getElem h1, h.1], h.2⟩
theorem drop_nil {α : Type} {l : List α} {n : Nat} (h : l.drop n = []) : l.length ≤ n := by simpa using h
theorem sdrop_cons {s : ByteArray} {n : Nat} {c : Int} {t : List Int} (h : (L s).drop n = c :: t) : n < s.size ∧ bt s n = c ∧ (L s).drop (n + 1) = t := by
  obtain ⟨h1, h2, h3⟩ := drop_cons h
  rw [L_length] at h1
  rw [L_get s n h1] at h2
  exact ⟨h1, Option.some.inj h2, h3⟩
theorem sdrop_nil {s : ByteArray} {n : Nat} (h : (L s).drop n = []) : s.size ≤ n := by have := drop_nil h; rwa [L_length] at this
theorem wsucc {n m : Nat} (h : n < m) (hm : m ≤ 140737488355328) : wrap64 ((n : Int) + 1) = ((n + 1 : Nat) : Int) := by rw [w64 (by omega) (by omega)]; rfl
/-! digits -/
def isD (c : Int) : Bool := decide (48 ≤ c) && decide (c ≤ 57)
theorem isD_t {c : Int} : isD c = true ↔ 48 ≤ c ∧ c ≤ 57 := by simp [isD]
theorem isD_f {c : Int} : isD c = false ↔ c < 48 ∨ 57 < c := by
  rw [← Bool.not_eq_true, isD_t]; omega
theorem dig_mod {c : Int} (h : isD c = true) : (c - 48) % 256 = c - 48 := by rw [isD_t] at h; omega
/-! ## tab -/
/-! a list told by a function of its places -/
def tab (n : Nat) (f : Nat → Int) : List Int := (List.range n).map f
theorem tab_length (n : Nat) (f : Nat → Int) : (tab n f).length = n := by simp [tab]
theorem tab_get {n : Nat} {f : Nat → Int} {i : Nat} (h : i < n) : (tab n f)[i]? = some (f i) := by simp [tab, h]
theorem rd_tab {n : Nat} {f : Nat → Int} {i : Nat} (h : i < n) : rd (tab n f) (i : Int) = f i := by
  unfold rd; rw [Int.toNat_natCast, List.getD_eq_getElem?_getD, tab_get h]; rfl
theorem tab_congr {n : Nat} {f g : Nat → Int} (h : ∀ j, j < n → f j = g j) : tab n f = tab n g := by
  unfold tab; exact List.map_congr_left (fun j hj => h j (List.mem_range.1 hj))
theorem set_tab {n : Nat} {f : Nat → Int} (i : Nat) (v : Int) : (tab n f).set i v = tab n (fun j => if j = i then v else f j) := by
  apply List.ext_getElem?
  intro j
  rw [List.getElem?_set]
  by_cases hj : j < n
  · rw [tab_get (f := fun j => if j = i then v else f j) hj]
    by_cases e : i = j
    · subst e; rw [if_pos rfl, if_pos (by rw [tab_length]; exact hj), if_pos rfl]
    · rw [if_neg e, tab_get hj, if_neg (fun h => e h.symm)]
  · have h1 : (tab n f)[j]? = none := List.getElem?_eq_none (by rw [tab_length]; omega)
    have h2 : (tab n (fun j => if j = i then v else f j))[j]? = none := List.getElem?_eq_none (by rw [tab_length]; omega)
    rw [h1, h2]
    by_cases e : i = j
    · subst e; rw [if_pos rfl, if_neg (by rw [tab_length]; exact hj)]
    · rw [if_neg e]
theorem rep_tab (n : Nat) : List.replicate n (0 : Int) = tab n (fun _ => 0) := by
  apply List.ext_getElem?
  intro j
  by_cases hj : j < n
  · rw [tab_get hj]; simp [hj]
  · rw [List.getElem?_eq_none (by simp; omega), List.getElem?_eq_none (by rw [tab_length]; omega)]
theorem tab_one (v : Int) : [v] = tab 1 (fun _ => v) := rfl
/-! ## G -/
/-- The sum, over t below s, of what f has at t, where j is one of the places t + z to t + 9. -/
def G (z : Nat) (f : Nat → Int) (j : Nat) : Nat → Int
  | 0 => 0
  | t + 1 => G z f j t + (if t + z ≤ j ∧ j < t + 10 then f t else 0)
theorem G_lo {z : Nat} {f : Nat → Int} {j : Nat} : ∀ s, (∀ t, t < s → 0 ≤ f t) → 0 ≤ G z f j s
  | 0, _ => Int.le_refl _
  | s + 1, h => by
    have h1 := G_lo (z := z) (j := j) s (fun t ht => h t (by omega))
    have h2 := h s (by omega)
    rw [G]; split <;> omega
theorem G_hi {z : Nat} {f : Nat → Int} {j : Nat} {M : Int} (hM : 0 ≤ M) : ∀ s, (∀ t, t < s → f t ≤ M) → G z f j s ≤ M * ((min (s - (j - 9)) 10 : Nat) : Int)
  | 0, _ => by simp [G]
  | s + 1, h => by
    have h1 := G_hi (z := z) (j := j) hM s (fun t ht => h t (by omega))
    have h2 := h s (by omega)
    rw [G]
    by_cases hc : s + z ≤ j ∧ j < s + 10
    · rw [if_pos hc]
      have e : min (s + 1 - (j - 9)) 10 = min (s - (j - 9)) 10 + 1 := by omega
      rw [e, Int.natCast_add, Int.mul_add]
      simp only [Int.natCast_one, Int.mul_one]
      omega
    · rw [if_neg hc, Int.add_zero]
      refine Int.le_trans h1 (Int.mul_le_mul_of_nonneg_left ?_ hM)
      omega
theorem G_ten {z : Nat} {f : Nat → Int} {j s : Nat} {M : Int} (hM : 0 ≤ M) (h : ∀ t, t < s → f t ≤ M) : G z f j s ≤ M * 10 := by
  refine Int.le_trans (G_hi hM s h) (Int.mul_le_mul_of_nonneg_left ?_ hM)
  omega
theorem G_stab {z : Nat} {f : Nat → Int} {j s : Nat} : ∀ d, (∀ t, s ≤ t → t < s + d → t + z ≤ j → j < t + 10 → f t = 0) → G z f j (s + d) = G z f j s
  | 0, _ => rfl
  | d + 1, h => by
    have h1 := G_stab (z := z) (f := f) (j := j) (s := s) d (fun t a b => h t a (by omega))
    rw [← Nat.add_assoc, G, h1]
    by_cases hc : s + d + z ≤ j ∧ j < s + d + 10
    · rw [if_pos hc, h (s + d) (by omega) (by omega) hc.1 hc.2, Int.add_zero]
    · rw [if_neg hc, Int.add_zero]
theorem G_congr {z : Nat} {f g : Nat → Int} {j : Nat} : ∀ s, (∀ t, t < s → f t = g t) → G z f j s = G z g j s
  | 0, _ => rfl
  | s + 1, h => by rw [G, G, G_congr s (fun t ht => h t (by omega)), h s (by omega)]
theorem G_sub {z : Nat} {f g : Nat → Int} {j : Nat} : ∀ s, G z (fun t => f t - g t) j s = G z f j s - G z g j s
  | 0 => rfl
  | s + 1 => by rw [G, G, G, G_sub s]; split <;> omega
/-- How many texts of d digits have the sum j. -/
def W : Nat → Nat → Int
  | 0, j => if j = 0 then 1 else 0
  | d + 1, j => G 0 (W d) j (j + 1)
theorem W_lo : ∀ d j, 0 ≤ W d j
  | 0, j => by rw [W]; split <;> omega
  | d + 1, j => by rw [W]; exact G_lo _ (fun t _ => W_lo d t)
theorem W_hi : ∀ d j, W d j ≤ 10 ^ d
  | 0, j => by rw [W]; split <;> omega
  | d + 1, j => by
    rw [W, Int.pow_succ]
    exact G_ten (Int.le_of_lt (Int.pow_pos (by omega))) (fun t _ => W_hi d t)
theorem W_far : ∀ d j, 9 * d < j → W d j = 0
  | 0, j, h => by rw [W, if_neg (by omega)]
  | d + 1, j, h => by
    rw [W]
    have := G_stab (z := 0) (f := W d) (j := j) (s := 0) (j + 1) (fun t _ _ h1 h2 => W_far d t (by omega))
    rw [Nat.zero_add] at this
    rw [this]; rfl
/-- Any number of rounds that reaches all that counts. -/
theorem W_at (d j s : Nat) (hs : 9 * d < s ∨ j < s) : G 0 (W d) j s = W (d + 1) j := by
  rw [W]
  rcases Nat.le_total s (j + 1) with h | h
  · have := G_stab (z := 0) (f := W d) (j := j) (s := s) (j + 1 - s) (fun t a b _ _ => W_far d t (by omega))
    rw [show s + (j + 1 - s) = j + 1 by omega] at this
    exact this.symm
  · have := G_stab (z := 0) (f := W d) (j := j) (s := j + 1) (s - (j + 1)) (fun t a b h1 _ => by omega)
    rw [show j + 1 + (s - (j + 1)) = s by omega] at this
    exact this
theorem W_13 {d : Nat} (h : d ≤ 13) (j : Nat) : W d j ≤ 10000000000000 := by
  refine Int.le_trans (W_hi d j) ?_
  have : (10 : Int) ^ d ≤ 10 ^ 13 := by exact_mod_cast Nat.pow_le_pow_right (by omega) h
  exact this
/-! ## within -/
theorem within_f (a b c : Int) : impl_within.f a b c = some (decide (b ≤ a) && decide (a ≤ c)) := by
  unfold impl_within.f; by_cases h : b ≤ a <;> simp [h]
/-! ## ways -/
theorem at_f (n : Nat) (f : Nat → Int) (i : Int) (hn : n ≤ 1000) : impl_at.f (tab n f) i = some (if 0 ≤ i ∧ i < n then f i.toNat else 0) := by
  unfold impl_at.f
  rw [tab_length, within_f, w64 (by omega) (by omega)]
  simp only [Option.bind_some]
  by_cases h : 0 ≤ i ∧ i < n
  · rw [if_pos (by simp; omega), if_pos h.1, if_pos h.2, if_pos h]
    obtain ⟨m, rfl⟩ : ∃ m : Nat, i = m := ⟨i.toNat, by omega⟩
    rw [rd_tab (by omega), Int.toNat_natCast]
  · rw [if_neg (by simp; omega), if_neg h]
theorem ways_l2 {n s : Nat} {v B : Int} {x9 x10 x17 x18 : Int} {x16 : List Int} {r : List Int} (hn : n ≤ 1000) (hs : s + 10 ≤ n) (hv : 0 ≤ v ∧ v ≤ B) (hB : B ≤ 1000000000000000000) : ∀ m d : Nat, d + m = 10 → ∀ f : Nat → Int, (∀ j, s + d ≤ j → 0 ≤ f j ∧ f j ≤ B) →
    Ev (fun k => impl_ways.l1 k (tab n (fun j => if s + d ≤ j ∧ j < s + 10 then f j + v else f j)) x9 x10 x16 x17 (wrap64 (x18 + 1))) r →
    Ev (fun k => impl_ways.l2 k (tab n f) (s : Int) v x9 x10 x16 x17 x18 (d : Int)) r := by
  intro m
  induction m with
  | zero =>
    intro d hd f hf h
    refine Ev.step (fun _ => impl_ways.l2.eq_2 ..) (Ev.neg (by omega) ?_)
    rw [tab_congr (g := f) (fun j _ => if_neg (by omega))] at h
    exact h
  | succ m ih =>
    intro d hd f hf h
    refine Ev.step (fun _ => impl_ways.l2.eq_2 ..) (Ev.pos (by omega) ?_)
    have e : wrap64 ((s : Int) + (d : Int)) = ((s + d : Nat) : Int) := by rw [w64 (by omega) (by omega)]; rfl
    have hj := hf (s + d) (by omega)
    rw [e, Int.toNat_natCast, tab_length, rd_tab (by omega), w64 (x := f (s + d) + v) (by omega) (by omega), set_tab, w64 (x := (d : Int) + 1) (by omega) (by omega)]
    refine Ev.pos (by omega) (Ev.pos (by omega) (ih (d + 1) (by omega) _ ?_ ?_))
    · intro j hj2
      rw [if_neg (by omega)]; exact hf j (by omega)
    · rw [tab_congr (g := (fun j => if s + d ≤ j ∧ j < s + 10 then f j + v else f j))]
      · exact h
      · intro j _
        by_cases e1 : j = s + d
        · subst e1; rw [if_neg (by omega), if_pos rfl, if_pos (by omega)]
        · by_cases e2 : s + (d + 1) ≤ j ∧ j < s + 10
          · rw [if_pos e2, if_neg e1, if_pos (by omega)]
          · rw [if_neg e2, if_neg e1, if_neg (by omega)]
theorem ways_l1 {n len : Nat} {f : Nat → Int} {M : Int} {x9 x10 : Int} {r : List Int} (hn : n ≤ 1000) (hl : len + 9 ≤ n) (hf : ∀ j, 0 ≤ f j ∧ f j ≤ M) (hM : M ≤ 10000000000000) : ∀ m s : Nat, s + m = len →
    Ev (fun k => impl_ways.l0 k (tab n (fun j => G 0 f j len)) x9 (wrap64 (x10 + 1))) r →
    Ev (fun k => impl_ways.l1 k (tab n (fun j => G 0 f j s)) x9 x10 (tab len f) (len : Int) (s : Int)) r := by
  intro m
  induction m with
  | zero =>
    intro s hs h
    obtain rfl : s = len := by omega
    exact Ev.step (fun _ => impl_ways.l1.eq_2 ..) (Ev.neg (by omega) h)
  | succ m ih =>
    intro s hs h
    refine Ev.step (fun _ => impl_ways.l1.eq_2 ..) (Ev.pos (by omega) (Ev.pos (by omega) ?_))
    rw [tab_length, rd_tab (by omega)]
    refine Ev.pos (by omega) ?_
    have hM0 : 0 ≤ M := by have := hf 0; omega
    refine ways_l2 hn (by omega) (B := M * 10 + M) ⟨(hf s).1, by have := (hf s).2; omega⟩ (by omega) 10 0 (by omega) _ (fun j _ => ⟨G_lo _ (fun t _ => (hf t).1), ?_⟩) ?_
    · have := G_ten (z := 0) (j := j) (s := s) hM0 (fun t _ => (hf t).2); omega
    · rw [w64 (x := (s : Int) + 1) (by omega) (by omega), show (s : Int) + 1 = ((s + 1 : Nat) : Int) from rfl]
      rw [tab_congr (g := fun j => G 0 f j (s + 1))]
      · exact ih (s + 1) (by omega) h
      · intro j _
        rw [G]
        by_cases hc : s + 0 ≤ j ∧ j < s + 10
        · rw [if_pos hc, if_pos hc]
        · rw [if_neg hc, if_neg hc, Int.add_zero]
theorem ways_l0 (dg : Nat) (hd : dg ≤ 13) : ∀ m i : Nat, i + m = dg →
    Ev (fun k => impl_ways.l0 k (tab (9 * i + 1) (W i)) (dg : Int) (i : Int)) (tab (9 * dg + 1) (W dg)) := by
  intro m
  induction m with
  | zero =>
    intro i hi
    obtain rfl : i = dg := by omega
    exact Ev.step (fun _ => impl_ways.l0.eq_2 ..) (Ev.neg (by omega) (Ev.now _))
  | succ m ih =>
    intro i hi
    refine Ev.step (fun _ => impl_ways.l0.eq_2 ..) (Ev.pos (by omega) ?_)
    rw [tab_length]
    have e : wrap64 (((9 * i + 1 : Nat) : Int) + 9) = ((9 * (i + 1) + 1 : Nat) : Int) := by rw [w64 (by omega) (by omega)]; omega
    rw [e, Int.toNat_natCast, rep_tab]
    refine Ev.pos (by omega) (Ev.pos (by omega) ?_)
    refine ways_l1 (n := 9 * (i + 1) + 1) (len := 9 * i + 1) (f := W i) (M := 10000000000000) (by omega) (by omega) (fun j => ⟨W_lo i j, W_13 (by omega) j⟩) (by omega) (9 * i + 1) 0 (by omega) ?_
    rw [w64 (x := (i : Int) + 1) (by omega) (by omega), show (i : Int) + 1 = ((i + 1 : Nat) : Int) from rfl]
    rw [tab_congr (g := W (i + 1)) (fun j _ => W_at i j _ (.inl (by omega)))]
    exact ih (i + 1) (by omega)
theorem ways_f (dg : Nat) (hd : dg ≤ 13) : Ev (fun k => impl_ways.f k (dg : Int)) (tab (9 * dg + 1) (W dg)) := by
  have h := ways_l0 dg hd dg 0 (by omega)
  have e : tab (9 * 0 + 1) (W 0) = [1] := rfl
  rw [e] at h
  exact h
/-- What at tells of ways: the number itself, 0 outside. -/
def Wz (d : Nat) (i : Int) : Int := if 0 ≤ i then W d i.toNat else 0
theorem atW (d : Nat) (hd : d ≤ 13) (i : Int) : impl_at.f (tab (9 * d + 1) (W d)) i = some (Wz d i) := by
  rw [at_f _ _ _ (by omega)]
  unfold Wz
  by_cases h : 0 ≤ i
  · by_cases h2 : i < ((9 * d + 1 : Nat) : Int)
    · rw [if_pos ⟨h, h2⟩, if_pos h]
    · rw [if_neg (fun x => h2 x.2), if_pos h, W_far d _ (by omega)]
  · rw [if_neg (fun x => h x.1), if_neg h]
/-! ## bit -/
theorem bit_f (b : Bool) : impl_bit.f b = some (if b = true then 1 else 0) := by unfold impl_bit.f; split <;> rfl
/-! ## l1In -/
theorem l1In_f (a b c : Int) : spec_l1In.f a b c = some (decide (b ≤ a) && decide (a ≤ c)) := by
  unfold spec_l1In.f; by_cases h : b ≤ a <;> simp [h]
/-! ## sums -/
theorem leSum_f (a : Int) : spec_leSum.f a = some (decide (0 ≤ a) && decide (a ≤ 108)) := by
  unfold spec_leSum.f; rw [l1In_f]; rfl
theorem isSum_f (a : Int) : impl_isSum.f a = some (decide (0 ≤ a) && decide (a ≤ 108)) := by
  unfold impl_isSum.f; rw [within_f]; rfl
/-! ## FnExactCountOfDigits -/
theorem cd_l2 {dg i : Int} {sm s z : Nat} {v B : Int} {x34 : Int} {x33 : List Int} {r : Int × Bool} (hsm : sm ≤ 1000) (hs : s ≤ sm) (hz : (0 < i ∨ dg = 1) ∧ z = 0 ∨ (¬ 0 < i ∧ ¬ dg = 1) ∧ z = 1) (hv : 0 ≤ v ∧ v ≤ B) (hB : B ≤ 1000000000000000000) :
    ∀ m d : Nat, d + m = 10 → ∀ f : Nat → Int, (∀ j, s + d ≤ j → 0 ≤ f j ∧ f j ≤ B) →
    Ev (fun k => spec_CountOfDigits.l1 k dg (sm : Int) i (tab (sm + 1) (fun j => if s + max d z ≤ j ∧ j < s + 10 then f j + v else f j)) x33 x34 (wrap64 ((s : Int) + 1))) r →
    Ev (fun k => spec_CountOfDigits.l2 k dg (sm : Int) i (tab (sm + 1) f) (s : Int) v (d : Int) x33 x34 (s : Int)) r := by
  intro m
  induction m with
  | zero =>
    intro d hd f hf h
    refine Ev.step (fun _ => spec_CountOfDigits.l2.eq_2 ..) (Ev.neg (by omega) (Ev.step (fun _ => spec_CountOfDigits.j4.eq_2 ..) (Ev.neg (by simp) ?_)))
    rw [tab_congr (g := f) (fun j _ => if_neg (by omega))] at h
    exact h
  | succ m ih =>
    intro d hd f hf h
    refine Ev.step (fun _ => spec_CountOfDigits.l2.eq_2 ..) (Ev.pos (by omega) (Ev.step (fun _ => spec_CountOfDigits.j4.eq_2 ..) ?_))
    have e : wrap64 ((s : Int) + (d : Int)) = ((s + d : Nat) : Int) := by rw [w64 (by omega) (by omega)]; rfl
    rw [e, Int.toNat_natCast, tab_length, w64 (x := (d : Int) + 1) (by omega) (by omega)]
    by_cases hle : s + d ≤ sm
    · have hj := hf (s + d) (by omega)
      rw [rd_tab (by omega), w64 (x := f (s + d) + v) (by omega) (by omega), set_tab]
      refine Ev.pos (by simp; omega) ?_
      have go : max d z = d → Ev (fun k => spec_CountOfDigits.l2 k dg (sm : Int) i (tab (sm + 1) (fun j => if j = s + d then f (s + d) + v else f j)) (s : Int) v ((d : Int) + 1) x33 x34 (s : Int)) r := by
        intro hdz
        refine ih (d + 1) (by omega) _ ?_ ?_
        · intro j hj2
          rw [if_neg (by omega)]; exact hf j (by omega)
        · rw [tab_congr (g := (fun j => if s + max d z ≤ j ∧ j < s + 10 then f j + v else f j))]
          · exact h
          · intro j _
            rw [hdz, show max (d + 1) z = d + 1 by omega]
            by_cases e1 : j = s + d
            · subst e1; rw [if_neg (by omega), if_pos rfl, if_pos (by omega)]
            · by_cases e2 : s + (d + 1) ≤ j ∧ j < s + 10
              · rw [if_pos e2, if_neg e1, if_pos (by omega)]
              · rw [if_neg e2, if_neg e1, if_neg (by omega)]
      by_cases hi : 0 < i
      · exact Ev.pos hi (Ev.pos (by omega) (Ev.pos (by omega) (go (by omega))))
      · refine Ev.neg hi ?_
        by_cases hd0 : d = 0
        · refine Ev.neg (by omega) ?_
          by_cases h1 : dg = 1
          · exact Ev.pos h1 (Ev.pos (by omega) (Ev.pos (by omega) (go (by omega))))
          · refine Ev.neg h1 (ih (d + 1) (by omega) f (fun j hj => hf j (by omega)) ?_)
            rw [show max (d + 1) z = max d z by omega]
            exact h
        · exact Ev.pos (by omega) (Ev.pos (by omega) (Ev.pos (by omega) (go (by omega))))
    · refine Ev.neg (by simp; omega) ?_
      rw [tab_congr (g := f) (fun j hj => if_neg (by omega))] at h
      exact h
theorem cd_l1 {dg i : Int} {sm z : Nat} {f : Nat → Int} {M : Int} {r : Int × Bool} (hsm : sm ≤ 1000) (hz : (0 < i ∨ dg = 1) ∧ z = 0 ∨ (¬ 0 < i ∧ ¬ dg = 1) ∧ z = 1) (hf : ∀ j, 0 ≤ f j ∧ f j ≤ M) (hM : M ≤ 10000000000000) : ∀ m s : Nat, s + m = sm + 1 →
    Ev (fun k => spec_CountOfDigits.l0 k dg (sm : Int) (tab (sm + 1) (fun j => G z f j (sm + 1))) (wrap64 (i + 1))) r →
    Ev (fun k => spec_CountOfDigits.l1 k dg (sm : Int) i (tab (sm + 1) (fun j => G z f j s)) (tab (sm + 1) f) ((sm + 1 : Nat) : Int) (s : Int)) r := by
  intro m
  induction m with
  | zero =>
    intro s hs h
    obtain rfl : s = sm + 1 := by omega
    exact Ev.step (fun _ => spec_CountOfDigits.l1.eq_2 ..) (Ev.neg (by omega) h)
  | succ m ih =>
    intro s hs h
    refine Ev.step (fun _ => spec_CountOfDigits.l1.eq_2 ..) (Ev.pos (by omega) (Ev.pos (by omega) ?_))
    rw [tab_length, rd_tab (by omega)]
    refine Ev.pos (by omega) ?_
    have hM0 : 0 ≤ M := by have := hf 0; omega
    refine cd_l2 hsm (by omega) hz (B := M * 10 + M) ⟨(hf s).1, by have := (hf s).2; omega⟩ (by omega) 10 0 (by omega) _ (fun j _ => ⟨G_lo _ (fun t _ => (hf t).1), ?_⟩) ?_
    · have := G_ten (z := z) (j := j) (s := s) hM0 (fun t _ => (hf t).2); omega
    · rw [w64 (x := (s : Int) + 1) (by omega) (by omega), show (s : Int) + 1 = ((s + 1 : Nat) : Int) from rfl]
      rw [tab_congr (g := fun j => G z f j (s + 1))]
      · exact ih (s + 1) (by omega) h
      · intro j _
        rw [G, show max 0 z = z by omega]
        by_cases hc : s + z ≤ j ∧ j < s + 10
        · rw [if_pos hc, if_pos hc]
        · rw [if_neg hc, if_neg hc, Int.add_zero]
/-- How many numbers of i digits, the first one not 0, have the sum j. -/
def X : Nat → Nat → Int
  | 0, j => W 0 j
  | i + 1, j => W (i + 1) j - W i j
theorem W_mono (d j : Nat) : W d j ≤ W (d + 1) j := by
  rw [W, G, if_pos (by omega)]
  have := G_lo (z := 0) (f := W d) (j := j) j (fun t _ => W_lo d t)
  omega
theorem X_bd (i j : Nat) (hi : i ≤ 13) : 0 ≤ X i j ∧ X i j ≤ 10000000000000 := by
  cases i with
  | zero => exact ⟨W_lo 0 j, W_13 hi j⟩
  | succ i =>
    have h1 := W_mono i j
    have h2 := W_13 hi j
    have h3 := W_lo i j
    rw [X]; omega
theorem G_W0 (z j : Nat) : ∀ s, G z (W 0) j (s + 1) = if z ≤ j ∧ j < 10 then 1 else 0
  | 0 => by
    rw [G, G, W, if_pos rfl]
    simp
  | s + 1 => by
    have h : W 0 (s + 1) = 0 := by rw [W]; exact if_neg (by omega)
    rw [G, G_W0 z j s, h]
    simp
theorem X_step (i j s : Nat) (hj : j < s) : G (if i = 0 then 1 else 0) (X i) j s = X (i + 1) j := by
  cases i with
  | zero =>
    obtain ⟨s, rfl⟩ : ∃ t, s = t + 1 := ⟨s - 1, by omega⟩
    rw [if_pos rfl, G_congr (f := X 0) (g := W 0) _ (fun t _ => rfl), G_W0, X, show W (0 + 1) j = G 0 (W 0) j (j + 1) from rfl, G_W0, show W 0 j = if j = 0 then 1 else 0 from rfl]
    by_cases h : j < 10
    · by_cases h0 : j = 0
      · subst h0; rfl
      · rw [if_pos (by omega), if_pos (by omega), if_neg h0]; rfl
    · rw [if_neg (by omega), if_neg (by omega), if_neg (by omega)]; rfl
  | succ i =>
    rw [if_neg (by omega), G_congr (f := X (i + 1)) (g := fun t => W (i + 1) t - W i t) _ (fun t _ => rfl), G_sub, W_at _ _ _ (.inr hj), W_at _ _ _ (.inr hj), X]
theorem cd_l0 (dg sm : Nat) (h2 : 2 ≤ dg) (h12 : dg ≤ 12) (hsm : sm ≤ 108) : ∀ m i : Nat, i + m = dg →
    Ev (fun k => spec_CountOfDigits.l0 k (dg : Int) (sm : Int) (tab (sm + 1) (X i)) (i : Int)) (X dg sm, true) := by
  intro m
  induction m with
  | zero =>
    intro i hi
    obtain rfl : i = dg := by omega
    refine Ev.step (fun _ => spec_CountOfDigits.l0.eq_2 ..) (Ev.neg (by omega) (Ev.pos (by omega) ?_))
    rw [tab_length, rd_tab (by omega)]
    exact Ev.pos (by omega) (Ev.now _)
  | succ m ih =>
    intro i hi
    refine Ev.step (fun _ => spec_CountOfDigits.l0.eq_2 ..) (Ev.pos (by omega) ?_)
    have e : wrap64 ((sm : Int) + 1) = ((sm + 1 : Nat) : Int) := by rw [w64 (by omega) (by omega)]; rfl
    rw [tab_length, e, Int.toNat_natCast, rep_tab]
    refine Ev.pos (by omega) (Ev.pos (by omega) ?_)
    refine cd_l1 (z := if i = 0 then 1 else 0) (f := X i) (M := 10000000000000) (by omega) ?_ (fun j => X_bd i j (by omega)) (by omega) (sm + 1) 0 (by omega) ?_
    · by_cases h0 : i = 0
      · right; rw [if_pos h0]; omega
      · left; rw [if_neg h0]; omega
    · rw [w64 (x := (i : Int) + 1) (by omega) (by omega), show (i : Int) + 1 = ((i + 1 : Nat) : Int) from rfl]
      rw [tab_congr (g := X (i + 1)) (fun j hj => X_step i j _ hj)]
      exact ih (i + 1) (by omega)
theorem cd_one (sm : Nat) (hsm : sm ≤ 108) :
    Ev (fun k => spec_CountOfDigits.l0 k 1 (sm : Int) (tab (sm + 1) (W 0)) 0) (W 1 sm, true) := by
  refine Ev.step (fun _ => spec_CountOfDigits.l0.eq_2 ..) (Ev.pos (by omega) ?_)
  have e : wrap64 ((sm : Int) + 1) = ((sm + 1 : Nat) : Int) := by rw [w64 (by omega) (by omega)]; rfl
  rw [tab_length, e, Int.toNat_natCast, rep_tab]
  refine Ev.pos (by omega) (Ev.pos (by omega) ?_)
  refine cd_l1 (z := 0) (f := W 0) (M := 10000000000000) (by omega) (.inl ⟨.inr rfl, rfl⟩) (fun j => ⟨W_lo 0 j, W_13 (by omega) j⟩) (by omega) (sm + 1) 0 (by omega) ?_
  rw [tab_congr (g := W 1) (fun j hj => W_at 0 j _ (.inr hj))]
  refine Ev.step (fun _ => spec_CountOfDigits.l0.eq_2 ..) (Ev.neg (by rw [w64 (by omega) (by omega)]; omega) (Ev.pos (by omega) ?_))
  rw [tab_length, rd_tab (by omega)]
  exact Ev.pos (by omega) (Ev.now _)
theorem tab_W0 (n : Nat) : (tab (n + 1) (fun _ => 0)).set (0 : Int).toNat 1 = tab (n + 1) (W 0) := by
  rw [show (0 : Int).toNat = 0 from rfl, set_tab]; exact tab_congr (fun j _ => rfl)
theorem specCD_f (dg sm : Nat) (h1 : 1 ≤ dg) (h12 : dg ≤ 12) (hsm : sm ≤ 108) :
    Ev (fun k => spec_CountOfDigits.f k (dg : Int) (sm : Int)) (if dg = 1 then W 1 sm else X dg sm, true) := by
  refine Ev.sm (l1In_f _ _ _) (Ev.pos (by simp; omega) (Ev.sm (leSum_f _) ?_))
  refine Ev.step (fun _ => spec_CountOfDigits.j0.eq_2 ..) (Ev.neg (by simp; omega) ?_)
  have e : wrap64 ((sm : Int) + 1) = ((sm + 1 : Nat) : Int) := by rw [w64 (by omega) (by omega)]; rfl
  rw [e, Int.toNat_natCast, rep_tab]
  refine Ev.pos (by omega) (Ev.pos (by omega) (Ev.sm rfl ?_))
  rw [tab_length, tab_W0]
  refine Ev.pos (by omega) ?_
  by_cases hd : dg = 1
  · subst hd; rw [if_pos rfl]; exact cd_one sm hsm
  · rw [if_neg hd]; exact cd_l0 dg sm (by omega) h12 hsm dg 0 (by omega)
theorem implCD_f (dg sm : Nat) (h1 : 1 ≤ dg) (h12 : dg ≤ 12) (hsm : sm ≤ 108) :
    Ev (fun k => impl_CountOfDigits.f k (dg : Int) (sm : Int)) (if dg = 1 then W 1 sm else X dg sm, true) := by
  refine Ev.sm (within_f _ _ _) (Ev.pos (by simp; omega) (Ev.sm (isSum_f _) ?_))
  refine Ev.step (fun _ => impl_CountOfDigits.j0.eq_2 ..) (Ev.neg (by simp; omega) ?_)
  by_cases hd : dg = 1
  · subst hd
    refine Ev.pos (by decide) (Ev.sm (bit_f _) (Ev.eq ?_ (Ev.now _)))
    rw [if_pos rfl, W, G_W0]
    by_cases h : sm < 10
    · rw [if_pos (by omega), if_pos (by simp; omega)]
    · rw [if_neg (by omega), if_neg (by simp; omega)]
  · refine Ev.neg (by omega) (Ev.bind (ways_f dg (by omega)) (Ev.sm (atW dg (by omega) _) ?_))
    have e : wrap64 ((dg : Int) - 1) = ((dg - 1 : Nat) : Int) := by rw [w64 (by omega) (by omega)]; omega
    rw [e]
    refine Ev.bind (ways_f (dg - 1) (by omega)) (Ev.sm (atW (dg - 1) (by omega) _) (Ev.eq ?_ (Ev.now _)))
    obtain ⟨d, rfl⟩ : ∃ d, dg = d + 1 := ⟨dg - 1, by omega⟩
    rw [if_neg hd, Wz, Wz, if_pos (by omega), if_pos (by omega), Int.toNat_natCast, Nat.add_sub_cancel, X]
    have b1 := W_13 (d := d + 1) (by omega) sm
    have b2 := W_lo (d + 1) sm
    have b3 := W_13 (d := d) (by omega) sm
    have b4 := W_lo d sm
    rw [w64 (by omega) (by omega)]
theorem specCD_no (a b : Int) (h : ¬ ((1 ≤ a ∧ a ≤ 12) ∧ 0 ≤ b ∧ b ≤ 108)) : Ev (fun k => spec_CountOfDigits.f k a b) (0, false) := by
  refine Ev.sm (l1In_f _ _ _) ?_
  by_cases ha : 1 ≤ a ∧ a ≤ 12
  · refine Ev.pos (by simp; omega) (Ev.sm (leSum_f _) (Ev.step (fun _ => spec_CountOfDigits.j0.eq_2 ..) (Ev.pos ?_ (Ev.now _))))
    simp; omega
  · exact Ev.neg (by simp; omega) (Ev.step (fun _ => spec_CountOfDigits.j0.eq_2 ..) (Ev.pos rfl (Ev.now _)))
theorem implCD_no (a b : Int) (h : ¬ ((1 ≤ a ∧ a ≤ 12) ∧ 0 ≤ b ∧ b ≤ 108)) : Ev (fun k => impl_CountOfDigits.f k a b) (0, false) := by
  refine Ev.sm (within_f _ _ _) ?_
  by_cases ha : 1 ≤ a ∧ a ≤ 12
  · refine Ev.pos (by simp; omega) (Ev.sm (isSum_f _) (Ev.step (fun _ => impl_CountOfDigits.j0.eq_2 ..) (Ev.pos ?_ (Ev.now _))))
    simp; omega
  · exact Ev.neg (by simp; omega) (Ev.step (fun _ => impl_CountOfDigits.j0.eq_2 ..) (Ev.pos rfl (Ev.now _)))
theorem FnExactCountOfDigits : laws_FnExactCountOfDigits.Pure := by
  intro a b _ _
  refine Ev.rounds (g := fun k => laws_FnExactCountOfDigits.f k a b) ?_
  by_cases h : (1 ≤ a ∧ a ≤ 12) ∧ 0 ≤ b ∧ b ≤ 108
  · obtain ⟨n, rfl⟩ : ∃ n : Nat, a = n := ⟨a.toNat, by omega⟩
    obtain ⟨o, rfl⟩ : ∃ n : Nat, b = n := ⟨b.toNat, by omega⟩
    exact Ev.bind (specCD_f n o (by omega) (by omega) (by omega)) (Ev.bind (implCD_f n o (by omega) (by omega) (by omega)) (Ev.pos rfl (Ev.neg (by simp) (Ev.now _))))
  · exact Ev.bind (specCD_no a b h) (Ev.bind (implCD_no a b h) (Ev.pos rfl (Ev.neg (by simp) (Ev.now _))))

end Go.Proofs.Ytjbcjcpdchfakaa.Pure
