/- The plain law of FnExactLeastWithSum: at all arguments the printed function of the law answers true after some number of rounds. Conditions: none beyond the bounds that the printed statement itself bears. -/
import Derived.Test.YthkjedplcebpjaaPFnExactLeastWithSumx2
namespace Go.Proofs.Ythkjedplcebpjaa.Pure
open Go.RowKit Go.Proofs.Ythkjedplcebpjaa.PFnExactLeastWithSum Go.Proofs.YthkjedplcebpjaaW.PrintWords Go.Proofs.YthkjedplcebpjaaW.PrintLast
set_option linter.unusedVariables false

/-! ## base -/
/-! numbers in 64 bits -/
theorem w64 {x : Int} (h1 : -9223372036854775808 ≤ x) (h2 : x ≤ 9223372036854775807) : wrap64 x = x := by unfold wrap64; omega
theorem w64n {x : Nat} (h2 : x ≤ 9223372036854775807) : wrap64 (x : Int) = (x : Int) := w64 (by omega) (by omega)
theorem wf64 {x : Int} (h : (Lit.int .i64 x).wf = true) : -9223372036854775808 ≤ x ∧ x ≤ 9223372036854775807 := by
  have hmin : IntKind.i64.min = -9223372036854775808 := rfl
  have hmax : IntKind.i64.max = 9223372036854775807 := rfl
  simp only [Lit.wf, Bool.and_eq_true, decide_eq_true_eq, hmin, hmax] at h
  exact h
theorem tmodN (a b : Nat) : Int.tmod (a : Int) (b : Int) = ((a % b : Nat) : Int) := rfl
theorem tdivN (a b : Nat) : Int.tdiv (a : Int) (b : Int) = ((a / b : Nat) : Int) := rfl
theorem tmod_nn {a b : Int} (h : 0 ≤ a) : Int.tmod a b = a % b := Int.tmod_eq_emod_of_nonneg h
theorem tdiv_nn {a b : Int} (h : 0 ≤ a) : Int.tdiv a b = a / b := Int.tdiv_eq_ediv_of_nonneg h
/-! from some number of rounds on -/
theorem Ev.pos {α : Type} {c : Prop} [Decidable c] {f g : Nat → Option α} {r : α} (h : c) (e : Ev f r) : Ev (fun k => if c then f k else g k) r := by simpa only [if_pos h] using e
theorem Ev.neg {α : Type} {c : Prop} [Decidable c] {f g : Nat → Option α} {r : α} (h : ¬ c) (e : Ev g r) : Ev (fun k => if c then f k else g k) r := by simpa only [if_neg h] using e
theorem Ev.sm {α β : Type} {f : Nat → α → Option β} {a : α} {o : Option α} {r : β} (h : o = some a) (e : Ev (fun n => f n a) r) : Ev (fun n => o.bind (f n)) r := by subst h; simpa only [Option.bind_some] using e
theorem Ev.eq {α : Type} {f : Nat → Option α} {r r' : α} (h : r' = r) (e : Ev f r) : Ev f r' := h ▸ e
theorem Ev.of_some {α : Type} {o : Option α} {r : α} (h : o = some r) : Ev (fun _ => o) r := ⟨0, fun _ _ => h⟩
theorem Ev.uniq {α : Type} {g : Nat → Option α} {r q : α} (h : Ev g r) (h' : Ev g q) : r = q := by
  obtain ⟨K, h⟩ := h
  obtain ⟨K', h'⟩ := h'
  have := (h (max K K') (by omega)).symm.trans (h' (max K K') (by omega))
  exact Option.some.inj this
/-! a string as a list of numbers -/
def L (s : ByteArray) : List Int := s.data.toList.map (fun c => (c.toNat : Int))
theorem L_length (s : ByteArray) : (L s).length = s.size := by simp [L]
theorem bt_lo (s : ByteArray) (i : Int) : 0 ≤ bt s i := by unfold bt; split <;> omega
theorem bt_hi (s : ByteArray) (i : Int) : bt s i ≤ 255 := by
  unfold bt; split
  · have := UInt8.toNat_lt (s[i.toNat]); omega
  · omega
theorem bt_L (s : ByteArray) (n : Nat) : bt s (n : Int) = (L s).getD n 0 := by
  unfold bt L
  by_cases h : n < s.size
  · simp [h, List.getD_eq_getElem?_getD]; rfl
  · simp [h, List.getD_eq_getElem?_getD]
theorem L_get (s : ByteArray) (n : Nat) (h : n < s.size) : (L s)[n]? = some (bt s n) := by
  rw [bt_L, List.getD_eq_getElem?_getD]
  have : n < (L s).length := by rw [L_length]; exact h
  simp [this]
theorem L_mem {s : ByteArray} {c : Int} (h : c ∈ L s) : 0 ≤ c ∧ c ≤ 255 := by
  unfold L at h
  obtain ⟨u, _, rfl⟩ := List.mem_map.1 h
  have := UInt8.toNat_lt u
  omega
theorem map_toNat_inj : ∀ (l m : List UInt8), l.map (fun c => (c.toNat : Int)) = m.map (fun c => (c.toNat : Int)) → l = m
  | [], [], _ => rfl
  | [], _ :: _, h => by simp at h
  | _ :: _, [], h => by simp at h
  | a :: l, b :: m, h => by
    simp only [List.map_cons, List.cons.injEq] at h
    have h1 : a = b := by apply UInt8.toNat_inj.1; omega
    rw [h1, map_toNat_inj l m h.2]
theorem L_inj {s t : ByteArray} (h : L s = L t) : s = t := by
  have := map_toNat_inj _ _ h
  cases s; cases t
  congr 1
  exact Array.toList_inj.1 this
theorem toList_L {s t : ByteArray} : s.data.toList = t.data.toList ↔ L s = L t := by
  constructor
  · intro h; unfold L; rw [h]
  · intro h; exact map_toNat_inj _ _ h
theorem L_append (s t : ByteArray) : L (s ++ t) = L s ++ L t := by
  unfold L
  rw [ByteArray.data_append]
  simp
/-- The rest of a list from a place on. -/
theorem drop_cons {α : Type} {l : List α} {n : Nat} {c : α} {t : List α} (h : l.drop n = c :: t) : n < l.length ∧ l[n]? = some c ∧ l.drop (n + 1) = t := by
  have h1 : n < l.length := by
    by_cases h1 : n < l.length
    · exact h1
    · rw [List.drop_eq_nil_of_le (by omega)] at h; cases h
  rw [List.drop_eq_getElem_cons h1] at h
  simp only [List.cons.injEq] at h
  exact ⟨h1, by rw [List.getElem?_eq_getElem h1, h.1], h.2⟩
theorem drop_nil {α : Type} {l : List α} {n : Nat} (h : l.drop n = []) : l.length ≤ n := by simpa using h
theorem sdrop_cons {s : ByteArray} {n : Nat} {c : Int} {t : List Int} (h : (L s).drop n = c :: t) : n < s.size ∧ bt s n = c ∧ (L s).drop (n + 1) = t := by
  obtain ⟨h1, h2, h3⟩ := drop_cons h
  rw [L_length] at h1
  rw [L_get s n h1] at h2
  exact ⟨h1, Option.some.inj h2, h3⟩
theorem sdrop_nil {s : ByteArray} {n : Nat} (h : (L s).drop n = []) : s.size ≤ n := by have := drop_nil h; rwa [L_length] at this
theorem wsucc {n m : Nat} (h : n < m) (hm : m ≤ 140737488355328) : wrap64 ((n : Int) + 1) = ((n + 1 : Nat) : Int) := by rw [w64 (by omega) (by omega)]; rfl
/-! digits -/
def isD (c : Int) : Bool := decide (48 ≤ c) && decide (c ≤ 57)
theorem isD_t {c : Int} : isD c = true ↔ 48 ≤ c ∧ c ≤ 57 := by simp [isD]
theorem isD_f {c : Int} : isD c = false ↔ c < 48 ∨ 57 < c := by
  rw [← Bool.not_eq_true, isD_t]; omega
theorem dig_mod {c : Int} (h : isD c = true) : (c - 48) % 256 = c - 48 := by rw [isD_t] at h; omega
/-! ## tab -/
/-! a list told by a function of its places -/
def tab (n : Nat) (f : Nat → Int) : List Int := (List.range n).map f
theorem tab_length (n : Nat) (f : Nat → Int) : (tab n f).length = n := by simp [tab]
theorem tab_get {n : Nat} {f : Nat → Int} {i : Nat} (h : i < n) : (tab n f)[i]? = some (f i) := by simp [tab, h]
theorem rd_tab {n : Nat} {f : Nat → Int} {i : Nat} (h : i < n) : rd (tab n f) (i : Int) = f i := by
  unfold rd; rw [Int.toNat_natCast, List.getD_eq_getElem?_getD, tab_get h]; rfl
theorem tab_congr {n : Nat} {f g : Nat → Int} (h : ∀ j, j < n → f j = g j) : tab n f = tab n g := by
  unfold tab; exact List.map_congr_left (fun j hj => h j (List.mem_range.1 hj))
theorem set_tab {n : Nat} {f : Nat → Int} (i : Nat) (v : Int) : (tab n f).set i v = tab n (fun j => if j = i then v else f j) := by
  apply List.ext_getElem?
  intro j
  rw [List.getElem?_set]
  by_cases hj : j < n
  · rw [tab_get (f := fun j => if j = i then v else f j) hj]
    by_cases e : i = j
    · subst e; rw [if_pos rfl, if_pos (by rw [tab_length]; exact hj), if_pos rfl]
    · rw [if_neg e, tab_get hj, if_neg (fun h => e h.symm)]
  · have h1 : (tab n f)[j]? = none := List.getElem?_eq_none (by rw [tab_length]; omega)
    have h2 : (tab n (fun j => if j = i then v else f j))[j]? = none := List.getElem?_eq_none (by rw [tab_length]; omega)
    rw [h1, h2]
    by_cases e : i = j
    · subst e; rw [if_pos rfl, if_neg (by rw [tab_length]; exact hj)]
    · rw [if_neg e]
theorem rep_tab (n : Nat) : List.replicate n (0 : Int) = tab n (fun _ => 0) := by
  apply List.ext_getElem?
  intro j
  by_cases hj : j < n
  · rw [tab_get hj]; simp [hj]
  · rw [List.getElem?_eq_none (by simp; omega), List.getElem?_eq_none (by rw [tab_length]; omega)]
theorem tab_one (v : Int) : [v] = tab 1 (fun _ => v) := rfl
/-! ## G -/
/-- The sum, over t below s, of what f has at t, where j is one of the places t + z to t + 9. -/
def G (z : Nat) (f : Nat → Int) (j : Nat) : Nat → Int
  | 0 => 0
  | t + 1 => G z f j t + (if t + z ≤ j ∧ j < t + 10 then f t else 0)
theorem G_lo {z : Nat} {f : Nat → Int} {j : Nat} : ∀ s, (∀ t, t < s → 0 ≤ f t) → 0 ≤ G z f j s
  | 0, _ => Int.le_refl _
  | s + 1, h => by
    have h1 := G_lo (z := z) (j := j) s (fun t ht => h t (by omega))
    have h2 := h s (by omega)
    rw [G]; split <;> omega
theorem G_hi {z : Nat} {f : Nat → Int} {j : Nat} {M : Int} (hM : 0 ≤ M) : ∀ s, (∀ t, t < s → f t ≤ M) → G z f j s ≤ M * ((min (s - (j - 9)) 10 : Nat) : Int)
  | 0, _ => by simp [G]
  | s + 1, h => by
    have h1 := G_hi (z := z) (j := j) hM s (fun t ht => h t (by omega))
    have h2 := h s (by omega)
    rw [G]
    by_cases hc : s + z ≤ j ∧ j < s + 10
    · rw [if_pos hc]
      have e : min (s + 1 - (j - 9)) 10 = min (s - (j - 9)) 10 + 1 := by omega
      rw [e, Int.natCast_add, Int.mul_add]
      simp only [Int.natCast_one, Int.mul_one]
      omega
    · rw [if_neg hc, Int.add_zero]
      refine Int.le_trans h1 (Int.mul_le_mul_of_nonneg_left ?_ hM)
      omega
theorem G_ten {z : Nat} {f : Nat → Int} {j s : Nat} {M : Int} (hM : 0 ≤ M) (h : ∀ t, t < s → f t ≤ M) : G z f j s ≤ M * 10 := by
  refine Int.le_trans (G_hi hM s h) (Int.mul_le_mul_of_nonneg_left ?_ hM)
  omega
theorem G_stab {z : Nat} {f : Nat → Int} {j s : Nat} : ∀ d, (∀ t, s ≤ t → t < s + d → t + z ≤ j → j < t + 10 → f t = 0) → G z f j (s + d) = G z f j s
  | 0, _ => rfl
  | d + 1, h => by
    have h1 := G_stab (z := z) (f := f) (j := j) (s := s) d (fun t a b => h t a (by omega))
    rw [← Nat.add_assoc, G, h1]
    by_cases hc : s + d + z ≤ j ∧ j < s + d + 10
    · rw [if_pos hc, h (s + d) (by omega) (by omega) hc.1 hc.2, Int.add_zero]
    · rw [if_neg hc, Int.add_zero]
theorem G_congr {z : Nat} {f g : Nat → Int} {j : Nat} : ∀ s, (∀ t, t < s → f t = g t) → G z f j s = G z g j s
  | 0, _ => rfl
  | s + 1, h => by rw [G, G, G_congr s (fun t ht => h t (by omega)), h s (by omega)]
theorem G_sub {z : Nat} {f g : Nat → Int} {j : Nat} : ∀ s, G z (fun t => f t - g t) j s = G z f j s - G z g j s
  | 0 => rfl
  | s + 1 => by rw [G, G, G, G_sub s]; split <;> omega
/-- How many texts of d digits have the sum j. -/
def W : Nat → Nat → Int
  | 0, j => if j = 0 then 1 else 0
  | d + 1, j => G 0 (W d) j (j + 1)
theorem W_lo : ∀ d j, 0 ≤ W d j
  | 0, j => by rw [W]; split <;> omega
  | d + 1, j => by rw [W]; exact G_lo _ (fun t _ => W_lo d t)
theorem W_hi : ∀ d j, W d j ≤ 10 ^ d
  | 0, j => by rw [W]; split <;> omega
  | d + 1, j => by
    rw [W, Int.pow_succ]
    exact G_ten (Int.le_of_lt (Int.pow_pos (by omega))) (fun t _ => W_hi d t)
theorem W_far : ∀ d j, 9 * d < j → W d j = 0
  | 0, j, h => by rw [W, if_neg (by omega)]
  | d + 1, j, h => by
    rw [W]
    have := G_stab (z := 0) (f := W d) (j := j) (s := 0) (j + 1) (fun t _ _ h1 h2 => W_far d t (by omega))
    rw [Nat.zero_add] at this
    rw [this]; rfl
/-- Any number of rounds that reaches all that counts. -/
theorem W_at (d j s : Nat) (hs : 9 * d < s ∨ j < s) : G 0 (W d) j s = W (d + 1) j := by
  rw [W]
  rcases Nat.le_total s (j + 1) with h | h
  · have := G_stab (z := 0) (f := W d) (j := j) (s := s) (j + 1 - s) (fun t a b _ _ => W_far d t (by omega))
    rw [show s + (j + 1 - s) = j + 1 by omega] at this
    exact this.symm
  · have := G_stab (z := 0) (f := W d) (j := j) (s := j + 1) (s - (j + 1)) (fun t a b h1 _ => by omega)
    rw [show j + 1 + (s - (j + 1)) = s by omega] at this
    exact this
theorem W_13 {d : Nat} (h : d ≤ 13) (j : Nat) : W d j ≤ 10000000000000 := by
  refine Int.le_trans (W_hi d j) ?_
  have : (10 : Int) ^ d ≤ 10 ^ 13 := by exact_mod_cast Nat.pow_le_pow_right (by omega) h
  exact this
/-! ## within -/
theorem within_f (a b c : Int) : impl_within.f a b c = some (decide (b ≤ a) && decide (a ≤ c)) := by
  unfold impl_within.f; by_cases h : b ≤ a <;> simp [h]
/-! ## ways -/
theorem at_f (n : Nat) (f : Nat → Int) (i : Int) (hn : n ≤ 1000) : impl_at.f (tab n f) i = some (if 0 ≤ i ∧ i < n then f i.toNat else 0) := by
  unfold impl_at.f
  rw [tab_length, within_f, w64 (by omega) (by omega)]
  simp only [Option.bind_some]
  by_cases h : 0 ≤ i ∧ i < n
  · rw [if_pos (by simp; omega), if_pos h.1, if_pos h.2, if_pos h]
    obtain ⟨m, rfl⟩ : ∃ m : Nat, i = m := ⟨i.toNat, by omega⟩
    rw [rd_tab (by omega), Int.toNat_natCast]
  · rw [if_neg (by simp; omega), if_neg h]
theorem ways_l2 {n s : Nat} {v B : Int} {x9 x10 x17 x18 : Int} {x16 : List Int} {r : List Int} (hn : n ≤ 1000) (hs : s + 10 ≤ n) (hv : 0 ≤ v ∧ v ≤ B) (hB : B ≤ 1000000000000000000) : ∀ m d : Nat, d + m = 10 → ∀ f : Nat → Int, (∀ j, s + d ≤ j → 0 ≤ f j ∧ f j ≤ B) →
    Ev (fun k => impl_ways.l1 k (tab n (fun j => if s + d ≤ j ∧ j < s + 10 then f j + v else f j)) x9 x10 x16 x17 (wrap64 (x18 + 1))) r →
    Ev (fun k => impl_ways.l2 k (tab n f) (s : Int) v x9 x10 x16 x17 x18 (d : Int)) r := by
  intro m
  induction m with
  | zero =>
    intro d hd f hf h
    refine Ev.step (fun _ => impl_ways.l2.eq_2 ..) (Ev.neg (by omega) ?_)
    rw [tab_congr (g := f) (fun j _ => if_neg (by omega))] at h
    exact h
  | succ m ih =>
    intro d hd f hf h
    refine Ev.step (fun _ => impl_ways.l2.eq_2 ..) (Ev.pos (by omega) ?_)
    have e : wrap64 ((s : Int) + (d : Int)) = ((s + d : Nat) : Int) := by rw [w64 (by omega) (by omega)]; rfl
    have hj := hf (s + d) (by omega)
    rw [e, Int.toNat_natCast, tab_length, rd_tab (by omega), w64 (x := f (s + d) + v) (by omega) (by omega), set_tab, w64 (x := (d : Int) + 1) (by omega) (by omega)]
    refine Ev.pos (by omega) (Ev.pos (by omega) (ih (d + 1) (by omega) _ ?_ ?_))
    · intro j hj2
      rw [if_neg (by omega)]; exact hf j (by omega)
    · rw [tab_congr (g := (fun j => if s + d ≤ j ∧ j < s + 10 then f j + v else f j))]
      · exact h
      · intro j _
        by_cases e1 : j = s + d
        · subst e1; rw [if_neg (by omega), if_pos rfl, if_pos (by omega)]
        · by_cases e2 : s + (d + 1) ≤ j ∧ j < s + 10
          · rw [if_pos e2, if_neg e1, if_pos (by omega)]
          · rw [if_neg e2, if_neg e1, if_neg (by omega)]
theorem ways_l1 {n len : Nat} {f : Nat → Int} {M : Int} {x9 x10 : Int} {r : List Int} (hn : n ≤ 1000) (hl : len + 9 ≤ n) (hf : ∀ j, 0 ≤ f j ∧ f j ≤ M) (hM : M ≤ 10000000000000) : ∀ m s : Nat, s + m = len →
    Ev (fun k => impl_ways.l0 k (tab n (fun j => G 0 f j len)) x9 (wrap64 (x10 + 1))) r →
    Ev (fun k => impl_ways.l1 k (tab n (fun j => G 0 f j s)) x9 x10 (tab len f) (len : Int) (s : Int)) r := by
  intro m
  induction m with
  | zero =>
    intro s hs h
    obtain rfl : s = len := by omega
    exact Ev.step (fun _ => impl_ways.l1.eq_2 ..) (Ev.neg (by omega) h)
  | succ m ih =>
    intro s hs h
    refine Ev.step (fun _ => impl_ways.l1.eq_2 ..) (Ev.pos (by omega) (Ev.pos (by omega) ?_))
    rw [tab_length, rd_tab (by omega)]
    refine Ev.pos (by omega) ?_
    have hM0 : 0 ≤ M := by have := hf 0; omega
    refine ways_l2 hn (by omega) (B := M * 10 + M) ⟨(hf s).1, by have := (hf s).2; omega⟩ (by omega) 10 0 (by omega) _ (fun j _ => ⟨G_lo _ (fun t _ => (hf t).1), ?_⟩) ?_
    · have := G_ten (z := 0) (j := j) (s := s) hM0 (fun t _ => (hf t).2); omega
    · rw [w64 (x := (s : Int) + 1) (by omega) (by omega), show (s : Int) + 1 = ((s + 1 : Nat) : Int) from rfl]
      rw [tab_congr (g := fun j => G 0 f j (s + 1))]
      · exact ih (s + 1) (by omega) h
      · intro j _
        rw [G]
        by_cases hc : s + 0 ≤ j ∧ j < s + 10
        · rw [if_pos hc, if_pos hc]
        · rw [if_neg hc, if_neg hc, Int.add_zero]
theorem ways_l0 (dg : Nat) (hd : dg ≤ 13) : ∀ m i : Nat, i + m = dg →
    Ev (fun k => impl_ways.l0 k (tab (9 * i + 1) (W i)) (dg : Int) (i : Int)) (tab (9 * dg + 1) (W dg)) := by
  intro m
  induction m with
  | zero =>
    intro i hi
    obtain rfl : i = dg := by omega
    exact Ev.step (fun _ => impl_ways.l0.eq_2 ..) (Ev.neg (by omega) (Ev.now _))
  | succ m ih =>
    intro i hi
    refine Ev.step (fun _ => impl_ways.l0.eq_2 ..) (Ev.pos (by omega) ?_)
    rw [tab_length]
    have e : wrap64 (((9 * i + 1 : Nat) : Int) + 9) = ((9 * (i + 1) + 1 : Nat) : Int) := by rw [w64 (by omega) (by omega)]; omega
    rw [e, Int.toNat_natCast, rep_tab]
    refine Ev.pos (by omega) (Ev.pos (by omega) ?_)
    refine ways_l1 (n := 9 * (i + 1) + 1) (len := 9 * i + 1) (f := W i) (M := 10000000000000) (by omega) (by omega) (fun j => ⟨W_lo i j, W_13 (by omega) j⟩) (by omega) (9 * i + 1) 0 (by omega) ?_
    rw [w64 (x := (i : Int) + 1) (by omega) (by omega), show (i : Int) + 1 = ((i + 1 : Nat) : Int) from rfl]
    rw [tab_congr (g := W (i + 1)) (fun j _ => W_at i j _ (.inl (by omega)))]
    exact ih (i + 1) (by omega)
theorem ways_f (dg : Nat) (hd : dg ≤ 13) : Ev (fun k => impl_ways.f k (dg : Int)) (tab (9 * dg + 1) (W dg)) := by
  have h := ways_l0 dg hd dg 0 (by omega)
  have e : tab (9 * 0 + 1) (W 0) = [1] := rfl
  rw [e] at h
  exact h
/-- What at tells of ways: the number itself, 0 outside. -/
def Wz (d : Nat) (i : Int) : Int := if 0 ≤ i then W d i.toNat else 0
theorem atW (d : Nat) (hd : d ≤ 13) (i : Int) : impl_at.f (tab (9 * d + 1) (W d)) i = some (Wz d i) := by
  rw [at_f _ _ _ (by omega)]
  unfold Wz
  by_cases h : 0 ≤ i
  · by_cases h2 : i < ((9 * d + 1 : Nat) : Int)
    · rw [if_pos ⟨h, h2⟩, if_pos h]
    · rw [if_neg (fun x => h2 x.2), if_pos h, W_far d _ (by omega)]
  · rw [if_neg (fun x => h x.1), if_neg h]
/-! ## num -/
/-- Ten to a power. -/
def p10 (n : Nat) : Int := 10 ^ n
theorem p10_succ (n : Nat) : p10 (n + 1) = 10 * p10 n := by unfold p10; rw [Int.pow_succ, Int.mul_comm]
theorem p10_pos (n : Nat) : 1 ≤ p10 n := by
  induction n with
  | zero => decide
  | succ n ih => rw [p10_succ]; omega
theorem p10_mono {n m : Nat} (h : n ≤ m) : p10 n ≤ p10 m := by
  obtain ⟨d, rfl⟩ : ∃ d, m = n + d := ⟨m - n, by omega⟩
  clear h
  induction d with
  | zero => exact Int.le_refl _
  | succ d ih => rw [← Nat.add_assoc, p10_succ]; have := p10_pos (n + d); omega
theorem p10_9 {n : Nat} (h : n ≤ 9) : p10 n ≤ 1000000000 := p10_mono h
/-- The number that digits tell, behind what stands before them. -/
def numF (a : Int) (l : List Int) : Int := l.foldl (fun n c => 10 * n + (c - 48)) a
theorem numF_cons (a c : Int) (l : List Int) : numF a (c :: l) = numF (10 * a + (c - 48)) l := rfl
theorem numF_bd : ∀ (l : List Int) (a : Int), l.all isD = true → 0 ≤ a → a * p10 l.length ≤ numF a l ∧ numF a l < (a + 1) * p10 l.length
  | [], a, _, h => by simp [numF, p10]; omega
  | c :: l, a, hl, h => by
    rw [List.all_cons, Bool.and_eq_true] at hl
    have hc := isD_t.1 hl.1
    have ih := numF_bd l (10 * a + (c - 48)) hl.2 (by omega)
    have hp := p10_pos l.length
    rw [numF_cons, List.length_cons, p10_succ]
    have e1 : a * (10 * p10 l.length) ≤ (10 * a + (c - 48)) * p10 l.length := by
      rw [← Int.mul_assoc]; exact Int.mul_le_mul_of_nonneg_right (by omega) (by omega)
    have e2 : (10 * a + (c - 48) + 1) * p10 l.length ≤ (a + 1) * (10 * p10 l.length) := by
      rw [← Int.mul_assoc]; exact Int.mul_le_mul_of_nonneg_right (by omega) (by omega)
    omega
/-- A number with room for so many digits behind it. -/
theorem num_step {a c : Int} {n : Nat} (ha : 0 ≤ a) (hc : 48 ≤ c ∧ c ≤ 57) (h : (a + 1) * p10 (n + 1) ≤ 1000000000000000000) : 0 ≤ 10 * a + (c - 48) ∧ (10 * a + (c - 48) + 1) * p10 n ≤ 1000000000000000000 ∧ 10 * a + (c - 48) ≤ 1000000000000000000 := by
  have hp := p10_pos n
  rw [p10_succ, ← Int.mul_assoc] at h
  have e2 : (10 * a + (c - 48) + 1) * p10 n ≤ (a + 1) * 10 * p10 n := Int.mul_le_mul_of_nonneg_right (by omega) (by omega)
  have e3 : (10 * a + (c - 48) + 1) * 1 ≤ (10 * a + (c - 48) + 1) * p10 n := Int.mul_le_mul_of_nonneg_left hp (by omega)
  omega
/-! ## leFill -/
theorem l1Most_f (a b : Int) : spec_l1Most.f a b = some (if a > b then a else b) := by unfold spec_l1Most.f; split <;> rfl
theorem l1Least_f (a b : Int) : spec_l1Least.f a b = some (if a < b then a else b) := by unfold spec_l1Least.f; split <;> rfl
/-- Digit by digit the least number of k digits more with a sum. -/
def leastF : Nat → Nat → Int → Int
  | 0, _, n => n
  | k + 1, s, n => leastF k (s - (s - 9 * k)) (10 * n + ((s - 9 * k : Nat) : Int))
theorem leastF_bd : ∀ (k s : Nat) (n : Int), s ≤ 9 * k → 0 ≤ n → n * p10 k ≤ leastF k s n ∧ leastF k s n < (n + 1) * p10 k
  | 0, s, n, _, h => by simp [leastF, p10]; omega
  | k + 1, s, n, hs, h => by
    have ih := leastF_bd k (s - (s - 9 * k)) (10 * n + ((s - 9 * k : Nat) : Int)) (by omega) (by omega)
    have hp := p10_pos k
    rw [leastF, p10_succ]
    have e1 : n * (10 * p10 k) ≤ (10 * n + ((s - 9 * k : Nat) : Int)) * p10 k := by
      rw [← Int.mul_assoc]; exact Int.mul_le_mul_of_nonneg_right (by omega) (by omega)
    have e2 : (10 * n + ((s - 9 * k : Nat) : Int) + 1) * p10 k ≤ (n + 1) * (10 * p10 k) := by
      rw [← Int.mul_assoc]; exact Int.mul_le_mul_of_nonneg_right (by omega) (by omega)
    omega
theorem leFill_least : ∀ (k s : Nat) (n : Int), k ≤ 18 → s ≤ 9 * k → 0 ≤ n → (n + 1) * p10 k ≤ 1000000000000000000 →
    Ev (fun r => spec_leFill.l0 r (s : Int) false n ((k : Int) - 1)) (leastF k s n)
  | 0, s, n, _, _, _, _ => Ev.step (fun _ => spec_leFill.l0.eq_2 ..) (Ev.neg (by omega) (Ev.now _))
  | k + 1, s, n, hk, hs, h0, h => by
    have hc : (48 : Int) ≤ 48 + ((s - 9 * k : Nat) : Int) ∧ 48 + ((s - 9 * k : Nat) : Int) ≤ 57 := by omega
    obtain ⟨g1, g2, g3⟩ := num_step h0 hc h
    rw [show 48 + ((s - 9 * k : Nat) : Int) - 48 = ((s - 9 * k : Nat) : Int) by omega] at g1 g2 g3
    refine Ev.step (fun _ => spec_leFill.l0.eq_2 ..) (Ev.pos (by omega) (Ev.sm (l1Most_f _ _) (Ev.neg (by decide) ?_)))
    rw [show ((k + 1 : Nat) : Int) - 1 = (k : Int) by omega, w64 (x := 9 * (k : Int)) (by omega) (by omega), w64 (x := (s : Int) - 9 * (k : Int)) (by omega) (by omega)]
    have ed : (if (0 : Int) > (s : Int) - 9 * (k : Int) then (0 : Int) else (s : Int) - 9 * (k : Int)) = ((s - 9 * k : Nat) : Int) := by split <;> omega
    rw [ed, w64 (x := (s : Int) - ((s - 9 * k : Nat) : Int)) (by omega) (by omega), w64 (x := 10 * n) (by omega) (by omega), w64 (x := 10 * n + ((s - 9 * k : Nat) : Int)) (by omega) (by omega), w64 (x := (k : Int) - 1) (by omega) (by omega)]
    rw [show (s : Int) - ((s - 9 * k : Nat) : Int) = ((s - (s - 9 * k) : Nat) : Int) by omega]
    exact leFill_least k _ _ (by omega) (by omega) g1 g2
/-! ## ofSum0 -/
theorem G_term {z : Nat} {f : Nat → Int} {j t : Nat} (hc : t + z ≤ j ∧ j < t + 10) : ∀ s, t < s → (∀ i, i < s → 0 ≤ f i) → f t ≤ G z f j s
  | 0, h, _ => by omega
  | s + 1, h, hf => by
    rw [G]
    by_cases e : t = s
    · subst e
      rw [if_pos hc]
      have := G_lo (z := z) (f := f) (j := j) t (fun i hi => hf i (by omega))
      omega
    · have := G_term hc s (by omega) (fun i hi => hf i (by omega))
      have := hf s (by omega)
      split <;> omega
theorem W_pos : ∀ d j, j ≤ 9 * d → 0 < W d j
  | 0, j, h => by rw [W, if_pos (by omega)]; decide
  | d + 1, j, h => by
    have h1 := W_pos d (j - 9) (by omega)
    have h2 := G_term (z := 0) (f := W d) (j := j) (t := j - 9) (by omega) (j + 1) (by omega) (fun i _ => W_lo d i)
    rw [W]; omega
theorem ofSum_l1 (k s : Nat) (n : Int) (r : Int × Bool) (x20 : Int) (hk : k ≤ 12) (hs : s ≤ 9 * (k + 1)) (h0 : 0 ≤ n) (hn : n ≤ 1000000000000000) (hx : x20 = 12 - (k : Int))
    (h : Ev (fun q => impl_ofSum.l0 q ((s - (s - 9 * k) : Nat) : Int) 0 (10 * n + ((s - 9 * k : Nat) : Int)) (x20 + 1)) r) : ∀ e d : Nat, d + e = s - 9 * k →
    Ev (fun q => impl_ofSum.l1 q (s : Int) 0 n (tab (9 * k + 1) (W k)) x20 (d : Int)) r := by
  intro e
  induction e with
  | zero =>
    intro d hd
    refine Ev.step (fun _ => impl_ofSum.l1.eq_2 ..) (Ev.pos (by omega) (Ev.sm (atW k (by omega) _) ?_))
    rw [w64 (x := (s : Int) - (d : Int)) (by omega) (by omega)]
    refine Ev.pos ?_ ?_
    · unfold Wz; rw [if_pos (by omega)]; exact W_pos _ _ (by omega)
    · rw [w64 (x := 10 * n) (by omega) (by omega), w64 (x := 10 * n + (d : Int)) (by omega) (by omega), w64 (x := x20 + 1) (by omega) (by omega)]
      rw [show (s : Int) - (d : Int) = ((s - (s - 9 * k) : Nat) : Int) by omega, show (d : Int) = ((s - 9 * k : Nat) : Int) by omega]
      exact h
  | succ e ih =>
    intro d hd
    refine Ev.step (fun _ => impl_ofSum.l1.eq_2 ..) (Ev.pos (by omega) (Ev.sm (atW k (by omega) _) ?_))
    rw [w64 (x := (s : Int) - (d : Int)) (by omega) (by omega)]
    have hz : Wz k ((s : Int) - (d : Int)) = 0 := by unfold Wz; rw [if_pos (by omega)]; exact W_far _ _ (by omega)
    rw [hz]
    refine Ev.neg (by omega) ?_
    rw [w64 (x := 0 - 0) (by omega) (by omega), wsucc (m := 20) (by omega) (by omega)]
    exact ih (d + 1) (by omega)
theorem ofSum_l0 : ∀ (k s : Nat) (n : Int), k ≤ 13 → s ≤ 9 * k → 0 ≤ n → (n + 1) * p10 k ≤ 10000000000000 →
    Ev (fun q => impl_ofSum.l0 q (s : Int) 0 n (13 - (k : Int))) (leastF k s n, decide (leastF k s n ≤ 1000000000000))
  | 0, s, n, _, _, _, _ => Ev.step (fun _ => impl_ofSum.l0.eq_2 ..) (Ev.neg (by omega) (Ev.now _))
  | k + 1, s, n, hk, hs, h0, h => by
    have hp := p10_pos k
    have hc : (48 : Int) ≤ 48 + ((s - 9 * k : Nat) : Int) ∧ 48 + ((s - 9 * k : Nat) : Int) ≤ 57 := by omega
    have hcd : 48 + ((s - 9 * k : Nat) : Int) - 48 = ((s - 9 * k : Nat) : Int) := by omega
    rw [p10_succ, ← Int.mul_assoc] at h
    have e2 : (10 * n + ((s - 9 * k : Nat) : Int) + 1) * p10 k ≤ (n + 1) * 10 * p10 k := Int.mul_le_mul_of_nonneg_right (by omega) (by omega)
    have e3 : (n + 1) * 10 * 1 ≤ (n + 1) * 10 * p10 k := Int.mul_le_mul_of_nonneg_left hp (by omega)
    refine Ev.step (fun _ => impl_ofSum.l0.eq_2 ..) (Ev.pos (by omega) ?_)
    rw [show wrap64 (12 - (13 - ((k + 1 : Nat) : Int))) = (k : Int) by rw [w64 (by omega) (by omega)]; omega]
    refine Ev.bind (ways_f k (by omega)) (ofSum_l1 k s n _ _ (by omega) (by omega) h0 (by omega) (by omega) ?_ (s - 9 * k) 0 (by omega))
    rw [show (13 : Int) - ((k + 1 : Nat) : Int) + 1 = 13 - (k : Int) by omega]
    exact ofSum_l0 k _ _ (by omega) (by omega) (by omega) (by omega)
theorem ofSum_f (s : Nat) (hs : s ≤ 108) : Ev (fun q => impl_ofSum.f q (s : Int) 0) (leastF 12 s 0, true) := by
  refine Ev.neg (by omega) (Ev.bind (ways_f 13 (by omega)) (Ev.sm (atW 13 (by omega) _) (Ev.step (fun _ => impl_ofSum.j0.eq_2 ..) (Ev.neg ?_ ?_))))
  · have : 0 < Wz 13 (s : Int) := by unfold Wz; rw [if_pos (by omega)]; exact W_pos _ _ (by omega)
    simp; omega
  · have h := ofSum_l0 13 s 0 (by omega) (by omega) (by omega) (by decide)
    have e : leastF 13 s 0 = leastF 12 s 0 := by
      rw [leastF, show s - 9 * 12 = 0 by omega]; rfl
    have b := (leastF_bd 12 s 0 (by omega) (by omega)).2
    have b2 : ((0 : Int) + 1) * p10 12 = 1000000000000 := by decide
    rw [e, decide_eq_true (by omega)] at h
    exact h
/-! ## l1In -/
theorem l1In_f (a b c : Int) : spec_l1In.f a b c = some (decide (b ≤ a) && decide (a ≤ c)) := by
  unfold spec_l1In.f; by_cases h : b ≤ a <;> simp [h]
/-! ## sums -/
theorem leSum_f (a : Int) : spec_leSum.f a = some (decide (0 ≤ a) && decide (a ≤ 108)) := by
  unfold spec_leSum.f; rw [l1In_f]; rfl
theorem isSum_f (a : Int) : impl_isSum.f a = some (decide (0 ≤ a) && decide (a ≤ 108)) := by
  unfold impl_isSum.f; rw [within_f]; rfl
/-! ## FnExactLeastWithSum -/
theorem FnExactLeastWithSum : laws_FnExactLeastWithSum.Pure := by
  intro a _
  refine Ev.rounds (g := fun k => laws_FnExactLeastWithSum.f k a) ?_
  by_cases h : 0 ≤ a ∧ a ≤ 108
  · obtain ⟨s, rfl⟩ : ∃ s : Nat, a = s := ⟨a.toNat, by omega⟩
    have hf : Ev (fun r => spec_leFill.f r 12 (s : Int) false) (leastF 12 s 0) := by
      have := leFill_least 12 s 0 (by omega) (by omega) (by omega) (by decide)
      show Ev (fun r => spec_leFill.l0 r (s : Int) false 0 (wrap64 (12 - 1))) _
      rw [w64 (x := 12 - 1) (by omega) (by omega)]
      exact this
    refine Ev.bind (a := (leastF 12 s 0, true)) (Ev.sm (leSum_f _) (Ev.pos (by simp; omega) (Ev.bind hf (Ev.now _)))) ?_
    refine Ev.bind (a := (leastF 12 s 0, true)) (Ev.sm (isSum_f _) (Ev.pos (by simp; omega) (Ev.bind (ofSum_f s (by omega)) (Ev.now _)))) ?_
    exact Ev.pos rfl (Ev.neg (by simp) (Ev.now _))
  · refine Ev.bind (a := (0, false)) (Ev.sm (leSum_f _) (Ev.neg (by simp; omega) (Ev.now _))) ?_
    refine Ev.bind (a := (0, false)) (Ev.sm (isSum_f _) (Ev.neg (by simp; omega) (Ev.now _))) ?_
    exact Ev.pos rfl (Ev.neg (by simp) (Ev.now _))

end Go.Proofs.Ythkjedplcebpjaa.Pure
