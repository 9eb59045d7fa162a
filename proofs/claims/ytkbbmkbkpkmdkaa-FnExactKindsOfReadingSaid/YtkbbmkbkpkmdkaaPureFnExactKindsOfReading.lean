/- The plain law of FnExactKindsOfReading: at all arguments the printed function of the law answers true after some number of rounds. Conditions: none beyond the bounds that the printed statement itself bears. -/
import Derived.Test.YtkbbmkbkpkmdkaaQFnExactKindsOfReadingx2
namespace Go.Proofs.Ytkbbmkbkpkmdkaa.Pure
open Go.RowKit Go.Proofs.Ytkbbmkbkpkmdkaa.QFnExactKindsOfReading Go.Proofs.YtkbbmkbkpkmdkaaW.PrintWords Go.Proofs.YtkbbmkbkpkmdkaaW.PrintLast Go.Proofs.Ytkbbmkbkpkmdkaa.Ext Go.Proofs.Ytkbbmkbkpkmdkaa.Ext
set_option linter.unusedVariables false


/-! ## openA12 -/
open Go.Proofs.Ytkbbmkbkpkmdkaa.QA1 Go.Proofs.Ytkbbmkbkpkmdkaa.QA2
/-! ## base -/
/-! numbers in 64 bits -/
theorem w64 {x : Int} (h1 : -9223372036854775808 ≤ x) (h2 : x ≤ 9223372036854775807) : wrap64 x = x := by unfold wrap64; omega
theorem w64n {x : Nat} (h2 : x ≤ 9223372036854775807) : wrap64 (x : Int) = (x : Int) := w64 (by omega) (by omega)
theorem wf64 {x : Int} (h : (Lit.int .i64 x).wf = true) : -9223372036854775808 ≤ x ∧ x ≤ 9223372036854775807 := by
  have hmin : IntKind.i64.min = -9223372036854775808 := rfl
  have hmax : IntKind.i64.max = 9223372036854775807 := rfl
  simp only [Lit.wf, Bool.and_eq_true, decide_eq_true_eq, hmin, hmax] at h
  exact h
theorem tmodN (a b : Nat) : Int.tmod (a : Int) (b : Int) = ((a % b : Nat) : Int) := rfl
theorem tdivN (a b : Nat) : Int.tdiv (a : Int) (b : Int) = ((a / b : Nat) : Int) := rfl
theorem tmod_nn {a b : Int} (h : 0 ≤ a) : Int.tmod a b = a % b := Int.tmod_eq_emod_of_nonneg h
theorem tdiv_nn {a b : Int} (h : 0 ≤ a) : Int.tdiv a b = a / b := Int.tdiv_eq_ediv_of_nonneg h
/-! from some number of rounds on -/
theorem Ev.pos {α : Type} {c : Prop} [Decidable c] {f g : Nat → Option α} {r : α} (h : c) (e : Ev f r) : Ev (fun k => if c then f k else g k) r := by simpa only [if_pos h] using e
theorem Ev.neg {α : Type} {c : Prop} [Decidable c] {f g : Nat → Option α} {r : α} (h : ¬ c) (e : Ev g r) : Ev (fun k => if c then f k else g k) r := by simpa only [if_neg h] using e
theorem Ev.sm {α β : Type} {f : Nat → α → Option β} {a : α} {o : Option α} {r : β} (h : o = some a) (e : Ev (fun n => f n a) r) : Ev (fun n => o.bind (f n)) r := by subst h; simpa only [Option.bind_some] using e
theorem Ev.eq {α : Type} {f : Nat → Option α} {r r' : α} (h : r' = r) (e : Ev f r) : Ev f r' := h ▸ e
theorem Ev.of_some {α : Type} {o : Option α} {r : α} (h : o = some r) : Ev (fun _ => o) r := ⟨0, fun _ _ => h⟩
theorem Ev.uniq {α : Type} {g : Nat → Option α} {r q : α} (h : Ev g r) (h' : Ev g q) : r = q := by
  obtain ⟨K, h⟩ := h
  obtain ⟨K', h'⟩ := h'
  have := (h (max K K') (by omega)).symm.trans (h' (max K K') (by omega))
  exact Option.some.inj this
/-! a string as a list of numbers -/
def L (s : ByteArray) : List Int := s.data.toList.map (fun c => (c.toNat : Int))
theorem L_length (s : ByteArray) : (L s).length = s.size := by simp [L]
theorem bt_lo (s : ByteArray) (i : Int) : 0 ≤ bt s i := by unfold bt; split <;> omega
theorem bt_hi (s : ByteArray) (i : Int) : bt s i ≤ 255 := by
  unfold bt; split
  · have := UInt8.toNat_lt (s[i.toNat]); omega
  · omega
theorem bt_L (s : ByteArray) (n : Nat) : bt s (n : Int) = (L s).getD n 0 := by
  unfold bt L
  by_cases h : n < s.size
  · simp [h, List.getD_eq_getElem?_getD]; rfl
  · simp [h, List.getD_eq_getElem?_getD]
theorem L_get (s : ByteArray) (n : Nat) (h : n < s.size) : (L s)[n]? = some (bt s n) := by
  rw [bt_L, List.getD_eq_getElem?_getD]
  have : n < (L s).length := by rw [L_length]; exact h
  simp [this]
theorem L_mem {s : ByteArray} {c : Int} (h : c ∈ L s) : 0 ≤ c ∧ c ≤ 255 := by
  unfold L at h
  obtain ⟨u, _, rfl⟩ := List.mem_map.1 h
  have := UInt8.toNat_lt u
  omega
theorem map_toNat_inj : ∀ (l m : List UInt8), l.map (fun c => (c.toNat : Int)) = m.map (fun c => (c.toNat : Int)) → l = m
  | [], [], _ => rfl
  | [], _ :: _, h => by simp at h
  | _ :: _, [], h => by simp at h
  | a :: l, b :: m, h => by
    simp only [List.map_cons, List.cons.injEq] at h
    have h1 : a = b := by apply UInt8.toNat_inj.1; omega
    rw [h1, map_toNat_inj l m h.2]
theorem L_inj {s t : ByteArray} (h : L s = L t) : s = t := by
  have := map_toNat_inj _ _ h
  cases s; cases t
  congr 1
  exact Array.toList_inj.1 this
theorem toList_L {s t : ByteArray} : s.data.toList = t.data.toList ↔ L s = L t := by
  constructor
  · intro h; unfold L; rw [h]
  · intro h; exact map_toNat_inj _ _ h
theorem L_append (s t : ByteArray) : L (s ++ t) = L s ++ L t := by
  unfold L
  rw [ByteArray.data_append]
  simp
/-- The rest of a list from a place on. -/
theorem drop_cons {α : Type} {l : List α} {n : Nat} {c : α} {t : List α} (h : l.drop n = c :: t) : n < l.length ∧ l[n]? = some c ∧ l.drop (n + 1) = t := by
  have h1 : n < l.length := by
    by_cases h1 : n < l.length
    · exact h1
    · rw [List.drop_eq_nil_of_le (by omega)] at h; cases h
  rw [List.drop_eq_getElem_cons h1] at h
  simp only [List.cons.injEq] at h
  exact ⟨h1, by rw [List.getElem?_eq_getElem h1, h.1], h.2⟩
theorem drop_nil {α : Type} {l : List α} {n : Nat} (h : l.drop n = []) : l.length ≤ n := by simpa using h
theorem sdrop_cons {s : ByteArray} {n : Nat} {c : Int} {t : List Int} (h : (L s).drop n = c :: t) : n < s.size ∧ bt s n = c ∧ (L s).drop (n + 1) = t := by
  obtain ⟨h1, h2, h3⟩ := drop_cons h
  rw [L_length] at h1
  rw [L_get s n h1] at h2
  exact ⟨h1, Option.some.inj h2, h3⟩
theorem sdrop_nil {s : ByteArray} {n : Nat} (h : (L s).drop n = []) : s.size ≤ n := by have := drop_nil h; rwa [L_length] at this
theorem wsucc {n m : Nat} (h : n < m) (hm : m ≤ 140737488355328) : wrap64 ((n : Int) + 1) = ((n + 1 : Nat) : Int) := by rw [w64 (by omega) (by omega)]; rfl
/-! digits -/
def isD (c : Int) : Bool := decide (48 ≤ c) && decide (c ≤ 57)
theorem isD_t {c : Int} : isD c = true ↔ 48 ≤ c ∧ c ≤ 57 := by simp [isD]
theorem isD_f {c : Int} : isD c = false ↔ c < 48 ∨ 57 < c := by
  rw [← Bool.not_eq_true, isD_t]; omega
theorem dig_mod {c : Int} (h : isD c = true) : (c - 48) % 256 = c - 48 := by rw [isD_t] at h; omega
/-! ## kindEq -/
theorem rise (G : Nat → Int) (n : Nat) (h : ∀ i, 1 ≤ i → i < n → G (i - 1) < G i) : ∀ d i : Nat, i + d < n → G i + (d : Int) ≤ G (i + d)
  | 0, i, _ => by simp
  | d + 1, i, hi => by
    have h1 := rise G n h d i (by omega)
    have h2 := h (i + d + 1) (by omega) (by omega)
    rw [Nat.add_sub_cancel] at h2
    rw [show i + (d + 1) = i + d + 1 by omega]
    omega
theorem fall (G : Nat → Int) (n : Nat) (h : ∀ i, 1 ≤ i → i < n → G (i - 1) > G i) : ∀ d i : Nat, i + d < n → G i ≥ G (i + d) + (d : Int)
  | 0, i, _ => by simp
  | d + 1, i, hi => by
    have h1 := fall G n h d i (by omega)
    have h2 := h (i + d + 1) (by omega) (by omega)
    rw [Nat.add_sub_cancel] at h2
    rw [show i + (d + 1) = i + d + 1 by omega]
    omega
/-- Rising digits leave room for as many greater ones as come. -/
theorem rise_iff (G : Nat → Int) (n : Nat) (hd : ∀ i, i < n → 48 ≤ G i ∧ G i ≤ 57) :
    (∀ i : Nat, i < n → (i = 0 ∨ G (i - 1) < G i) ∧ G i - 48 + ((n : Int) - 1 - i) ≤ 9) ↔ ∀ i, 1 ≤ i → i < n → G (i - 1) < G i := by
  constructor
  · intro h i h1 hi
    rcases (h i hi).1 with e | e
    · omega
    · exact e
  · intro h i hi
    refine ⟨?_, ?_⟩
    · by_cases e : i = 0
      · exact .inl e
      · exact .inr (h i (by omega) hi)
    · have h1 := rise G n h (n - 1 - i) i (by omega)
      rw [show i + (n - 1 - i) = n - 1 by omega] at h1
      have h2 := hd (n - 1) (by omega)
      omega
theorem fall_iff (G : Nat → Int) (n : Nat) (hd : ∀ i, i < n → 48 ≤ G i ∧ G i ≤ 57) :
    (∀ i : Nat, i < n → (i = 0 ∨ G (i - 1) > G i) ∧ G i - 48 ≥ (n : Int) - 1 - i) ↔ ∀ i, 1 ≤ i → i < n → G (i - 1) > G i := by
  constructor
  · intro h i h1 hi
    rcases (h i hi).1 with e | e
    · omega
    · exact e
  · intro h i hi
    refine ⟨?_, ?_⟩
    · by_cases e : i = 0
      · exact .inl e
      · exact .inr (h i (by omega) hi)
    · have h1 := fall G n h (n - 1 - i) i (by omega)
      rw [show i + (n - 1 - i) = n - 1 by omega] at h1
      have h2 := hd (n - 1) (by omega)
      omega
/-- What stands across is the same, asked of each place when it is reached: asked of all. -/
theorem across_iff (G : Nat → Int) (u : Int → Int) (n : Nat) (hu : ∀ i j, i < n → j < n → G i = u (G j) → G j = u (G i)) :
    (∀ i : Nat, i < n → (n - 1 - i > i ∨ G (n - 1 - i) = u (G i))) ↔ ∀ i, i < n → G (n - 1 - i) = u (G i) := by
  constructor
  · intro h i hi
    rcases h i hi with e | e
    · rcases h (n - 1 - i) (by omega) with e2 | e2
      · omega
      · rw [show n - 1 - (n - 1 - i) = i by omega] at e2
        exact hu i (n - 1 - i) hi (by omega) e2
    · exact e
  · intro h i hi
    exact .inr (h i hi)
/-! ## str -/
theorem tl_eq {s t : ByteArray} : s.toList = t.toList ↔ s = t := by
  rw [ByteArray.toList_eq, ByteArray.toList_eq, toList_L]
  exact ⟨L_inj, fun h => by rw [h]⟩
theorem L_extract (s : ByteArray) (a b : Nat) : L (s.extract a b) = ((L s).take b).drop a := by
  unfold L
  rw [ByteArray.data_extract]
  simp [List.map_drop, List.map_take, List.drop_take]
theorem L_nil : L (⟨#[]⟩ : ByteArray) = [] := rfl
theorem size_L (s : ByteArray) : s.size = (L s).length := (L_length s).symm
theorem size_ext (s : ByteArray) (a b : Nat) : (s.extract a b).size = min b s.size - a := by rw [size_L, L_extract, List.length_drop, List.length_take, L_length]
theorem size_app (s t : ByteArray) : (s ++ t).size = s.size + t.size := by rw [size_L, L_append, List.length_append, L_length, L_length]
/-! ## miDigits -/
/-- No digit ahead of this one is the same. -/
def fresh (s : ByteArray) (i : Nat) : Bool := (List.range i).all (fun k => bt s (k : Int) != bt s (i : Int))
/-- How many different digits there are. -/
def cntD (s : ByteArray) (n : Nat) : Nat := ((List.range n).filter (fresh s)).length
theorem cntD_succ (s : ByteArray) (n : Nat) : cntD s (n + 1) = cntD s n + (if fresh s n = true then 1 else 0) := by
  unfold cntD
  rw [List.range_succ, List.filter_append, List.length_append]
  congr 1
  rw [List.filter_cons, List.filter_nil]
  split <;> rfl
theorem cntD_le (s : ByteArray) (n : Nat) : cntD s n ≤ n := by
  have := List.length_filter_le (fresh s) (List.range n)
  rw [List.length_range] at this
  exact this
theorem miDigits_l1 (s : ByteArray) (hs : s.size ≤ 1000) (i : Nat) (hi : i < s.size) (c : Int) (r : Int) (n : Int) : ∀ (e j : Nat) (is : Bool), j + e = i → is = (List.range j).all (fun k => bt s (k : Int) != bt s (i : Int)) →
    Ev (fun k => spec_miDigits.l0 k s (if fresh s i = true then wrap64 (c + 1) else c) n ((i + 1 : Nat) : Int)) r → Ev (fun k => spec_miDigits.l1 k s c (i : Int) is (j : Int) n (i : Int)) r
  | 0, j, is, hj, his, h => by
    obtain rfl : j = i := by omega
    refine Ev.step (fun _ => spec_miDigits.l1.eq_2 ..) (Ev.neg (by omega) ?_)
    rw [wsucc (m := 1000) (by omega) (by omega)]
    have hf : fresh s j = is := his.symm
    rw [hf] at h
    by_cases c1 : is = true
    · rw [if_pos c1] at h; exact Ev.pos c1 h
    · rw [if_neg c1] at h; exact Ev.neg c1 h
  | e + 1, j, is, hj, his, h => by
    have hall : ∀ b : Bool, b = (is && (bt s (j : Int) != bt s (i : Int))) → b = (List.range (j + 1)).all (fun k => bt s (k : Int) != bt s (i : Int)) := by
      intro b hb
      rw [hb, his, List.range_succ, List.all_append]
      simp
    refine Ev.step (fun _ => spec_miDigits.l1.eq_2 ..) (Ev.pos (by omega) ?_)
    rw [wsucc (m := 1000) (by omega) (by omega)]
    by_cases c1 : is = true
    · exact Ev.pos c1 (Ev.pos (by omega) (Ev.pos (by omega) (Ev.pos (by omega) (Ev.pos (by omega) (miDigits_l1 s hs i hi c r n e (j + 1) _ (by omega) (hall _ (by rw [c1, Bool.true_and])) h)))))
    · exact Ev.neg c1 (miDigits_l1 s hs i hi c r n e (j + 1) _ (by omega) (hall _ (by rw [Bool.eq_false_iff.2 c1, Bool.false_and])) h)
theorem miDigits_l0 (s : ByteArray) (hs : s.size ≤ 1000) : ∀ e i : Nat, i + e = s.size → Ev (fun k => spec_miDigits.l0 k s (cntD s i : Int) (s.size : Int) (i : Int)) (cntD s s.size : Int)
  | 0, i, h => by
    obtain rfl : i = s.size := by omega
    exact Ev.step (fun _ => spec_miDigits.l0.eq_2 ..) (Ev.neg (by omega) (Ev.now _))
  | e + 1, i, h => by
    refine Ev.step (fun _ => spec_miDigits.l0.eq_2 ..) (Ev.pos (by omega) (miDigits_l1 s hs i (by omega) _ _ _ i 0 true (by omega) (by simp) ?_))
    have ih := miDigits_l0 s hs e (i + 1) (by omega)
    have hc := cntD_le s i
    rw [cntD_succ] at ih
    by_cases c : fresh s i = true
    · rw [if_pos c] at ih ⊢
      rw [w64 (by omega) (by omega)]
      exact ih
    · rw [if_neg c] at ih ⊢
      exact ih
theorem miDigits_f (s : ByteArray) (hs : s.size ≤ 1000) (hd : (s.data.toList.all fun c => decide (c.toNat < 128)) = true) : Ev (fun k => spec_miDigits.f k s) (cntD s s.size : Int) := by
  unfold spec_miDigits.f
  exact Ev.pos ⟨hd, by omega⟩ (miDigits_l0 s hs s.size 0 (by omega))
theorem fresh_t {s : ByteArray} {i : Nat} : fresh s i = true ↔ ∀ k, k < i → bt s (k : Int) ≠ bt s (i : Int) := by
  unfold fresh
  rw [List.all_eq_true]
  constructor
  · intro h k hk e
    have := h k (List.mem_range.2 hk)
    rw [e] at this
    simp at this
  · intro h k hk
    simpa using h k (List.mem_range.1 hk)
/-- All digits are the same just where there is one different digit. -/
theorem cntD_one {s : ByteArray} {n : Nat} (hn : 0 < n) : cntD s n = 1 ↔ ∀ i, i < n → bt s (i : Int) = bt s (0 : Int) := by
  obtain ⟨m, rfl⟩ : ∃ m, n = m + 1 := ⟨n - 1, by omega⟩
  clear hn
  have h0 : fresh s 0 = true := rfl
  induction m with
  | zero => exact ⟨fun _ i hi => by obtain rfl : i = 0 := by omega
                                    rfl, fun _ => by rw [cntD_succ, if_pos h0]; rfl⟩
  | succ m ih =>
    rw [cntD_succ]
    have hge : 1 ≤ cntD s (m + 1) := by
      clear ih
      induction m with
      | zero => rw [cntD_succ, if_pos h0]; omega
      | succ m ih => rw [cntD_succ]; omega
    constructor
    · intro h
      have hf : ¬ fresh s (m + 1) = true := fun x => by rw [if_pos x] at h; omega
      rw [if_neg hf] at h
      have ha := ih.1 (by omega)
      intro i hi
      by_cases e : i = m + 1
      · subst e
        rw [fresh_t] at hf
        apply Classical.byContradiction
        intro x
        exact hf (fun k hk y => x (by rw [← y]; exact ha k hk))
      · exact ha i (by omega)
    · intro h
      have hf : ¬ fresh s (m + 1) = true := fun x => (fresh_t.1 x) 0 (by omega) (h (m + 1) (by omega)).symm
      rw [if_neg hf]
      exact ih.2 (fun i hi => h i (by omega))
theorem cntD_all {s : ByteArray} {n : Nat} : cntD s n = n ↔ ∀ i, i < n → fresh s i = true := by
  unfold cntD
  have h := List.length_filter_eq_length_iff (p := fresh s) (l := List.range n)
  rw [List.length_range] at h
  rw [h]
  exact ⟨fun x i hi => x i (List.mem_range.2 hi), fun x i hi => x i (List.mem_range.1 hi)⟩
/-! ## upV -/
/-- The digit that is read upside down, 0 for none. -/
def upV (c : Int) : Int := if c = 48 then c else if c = 49 then c else if c = 56 then c else if c = 54 then 57 else if c = 57 then 54 else 0
/-! ## mayV -/
theorem upV_f (c : Int) : Ev (fun k => impl_upside.f k c) (upV c) := by
  unfold impl_upside.f upV
  by_cases h1 : c = 48
  · exact Ev.eq (if_pos h1) (Ev.pos h1 (Ev.step (fun _ => impl_upside.j0.eq_2 ..) (Ev.pos (by simp [h1]) (Ev.now _))))
  · refine Ev.eq (if_neg h1) (Ev.neg h1 ?_)
    by_cases h2 : c = 49
    · exact Ev.eq (if_pos h2) (Ev.pos h2 (Ev.step (fun _ => impl_upside.j0.eq_2 ..) (Ev.pos (by simp [h2]) (Ev.now _))))
    · refine Ev.eq (if_neg h2) (Ev.neg h2 (Ev.step (fun _ => impl_upside.j0.eq_2 ..) ?_))
      by_cases h3 : c = 56
      · exact Ev.eq (if_pos h3) (Ev.pos (by simp [h3]) (Ev.now _))
      · refine Ev.eq (if_neg h3) (Ev.neg (by simp [h3]) ?_)
        by_cases h4 : c = 54
        · exact Ev.eq (if_pos h4) (Ev.pos h4 (Ev.now _))
        · refine Ev.eq (if_neg h4) (Ev.neg h4 ?_)
          by_cases h5 : c = 57
          · exact Ev.eq (if_pos h5) (Ev.pos h5 (Ev.now _))
          · exact Ev.eq (if_neg h5) (Ev.neg h5 (Ev.now _))
/-- May a text that ends at place i begin a reading of a kind with n digits. -/
def mayV (c : Int) (b : ByteArray) (n i : Int) : Bool :=
  if c = 97 then bt b i == bt b 0
  else if c = 109 then (if n - 1 - i > i then true else bt b (n - 1 - i) == bt b i)
  else if c = 117 then (if upV (bt b i) = 0 then false else if n - 1 - i > i then true else bt b (n - 1 - i) == upV (bt b i))
  else if c = 114 then (if i = 0 then decide (bt b i - 48 + (n - 1 - i) ≤ 9) else if bt b (i - 1) < bt b i then decide (bt b i - 48 + (n - 1 - i) ≤ 9) else false)
  else if c = 102 then (if i = 0 then decide (bt b i - 48 ≥ n - 1 - i) else if bt b (i - 1) > bt b i then decide (bt b i - 48 ≥ n - 1 - i) else false)
  else decide (Go.Lib.indexByte (b.extract 0 i.toNat).data.toList (bt b i).toNat.toUInt8 < 0)
theorem may_f (c : Int) (b : ByteArray) (n i : Int) (hb : (b.size : Int) = i + 1) (hi : 0 ≤ i ∧ i < n) (hn : n ≤ 9) (hd : 48 ≤ bt b i ∧ bt b i ≤ 57) : Ev (fun k => impl_may.f k c b n) (mayV c b n i) := by
  have w1 : wrap64 ((b.size : Int) - 1) = i := by rw [w64 (by omega) (by omega)]; omega
  have w2 : wrap64 (n - 1) = n - 1 := w64 (by omega) (by omega)
  have w3 : wrap64 (n - 1 - i) = n - 1 - i := w64 (by omega) (by omega)
  have w4 : wrap64 (i - 1) = i - 1 := w64 (by omega) (by omega)
  have w5 : wrap64 (n - (b.size : Int)) = n - 1 - i := by rw [w64 (by omega) (by omega)]; omega
  have w6 : (bt b i - 48) % 256 = bt b i - 48 := by omega
  have w7 : wrap64 (bt b i - 48 + (n - 1 - i)) = bt b i - 48 + (n - 1 - i) := w64 (by omega) (by omega)
  unfold impl_may.f mayV
  rw [w1, w2, w3, w4, w5, w6, w7]
  refine Ev.pos (by omega) (Ev.pos (by omega) ?_)
  by_cases c1 : c = 97
  · exact Ev.eq (if_pos c1) (Ev.pos c1 (Ev.pos (by omega) (Ev.now _)))
  · refine Ev.eq (if_neg c1) (Ev.neg c1 ?_)
    by_cases c2 : c = 109
    · refine Ev.eq (if_pos c2) (Ev.pos c2 ?_)
      by_cases d1 : n - 1 - i > i
      · exact Ev.eq (if_pos d1) (Ev.pos d1 (Ev.now _))
      · exact Ev.eq (if_neg d1) (Ev.neg d1 (Ev.pos (by omega) (Ev.pos (by omega) (Ev.now _))))
    · refine Ev.eq (if_neg c2) (Ev.neg c2 ?_)
      by_cases c3 : c = 117
      · refine Ev.eq (if_pos c3) (Ev.pos c3 (Ev.bind (upV_f _) ?_))
        by_cases d0 : upV (bt b i) = 0
        · exact Ev.eq (if_pos d0) (Ev.pos d0 (Ev.now _))
        · refine Ev.eq (if_neg d0) (Ev.neg d0 ?_)
          by_cases d1 : n - 1 - i > i
          · exact Ev.eq (if_pos d1) (Ev.pos d1 (Ev.now _))
          · exact Ev.eq (if_neg d1) (Ev.neg d1 (Ev.pos (by omega) (Ev.pos (by omega) (Ev.bind (upV_f _) (Ev.now _)))))
      · refine Ev.eq (if_neg c3) (Ev.neg c3 ?_)
        by_cases c4 : c = 114
        · refine Ev.eq (if_pos c4) (Ev.pos c4 ?_)
          by_cases d0 : i = 0
          · exact Ev.eq (if_pos d0) (Ev.pos d0 (Ev.now _))
          · refine Ev.eq (if_neg d0) (Ev.neg d0 (Ev.pos (by omega) (Ev.pos (by omega) ?_)))
            by_cases d1 : bt b (i - 1) < bt b i
            · exact Ev.eq (if_pos d1) (Ev.pos d1 (Ev.now _))
            · exact Ev.eq (if_neg d1) (Ev.neg d1 (Ev.now _))
        · refine Ev.eq (if_neg c4) (Ev.neg c4 ?_)
          by_cases c5 : c = 102
          · refine Ev.eq (if_pos c5) (Ev.pos c5 ?_)
            by_cases d0 : i = 0
            · exact Ev.eq (if_pos d0) (Ev.pos d0 (Ev.now _))
            · refine Ev.eq (if_neg d0) (Ev.neg d0 (Ev.pos (by omega) (Ev.pos (by omega) ?_)))
              by_cases d1 : bt b (i - 1) > bt b i
              · exact Ev.eq (if_pos d1) (Ev.pos d1 (Ev.now _))
              · exact Ev.eq (if_neg d1) (Ev.neg d1 (Ev.now _))
          · exact Ev.eq (if_neg c5) (Ev.neg c5 (Ev.pos (by omega) (Ev.sm rfl (Ev.now _))))
theorem isOf_l0 (c : Int) (s : ByteArray) (hs : s.size ≤ 9) (hd : ∀ i, i < s.size → 48 ≤ bt s (i : Int) ∧ bt s (i : Int) ≤ 57) (hp : ∀ i j : Nat, j ≤ i → i < s.size → bt (s.extract 0 (i + 1)) (j : Int) = bt s (j : Int)) : ∀ e i : Nat, i + e = s.size →
    Ev (fun k => impl_isOf.l0 k c s (s.size : Int) (i : Int)) ((List.range' i e).all (fun i => mayV c (s.extract 0 (i + 1)) (s.size : Int) (i : Int)))
  | 0, i, h => Ev.step (fun _ => impl_isOf.l0.eq_2 ..) (Ev.neg (by omega) (Ev.now _))
  | e + 1, i, h => by
    refine Ev.step (fun _ => impl_isOf.l0.eq_2 ..) (Ev.pos (by omega) ?_)
    rw [wsucc (m := 10) (by omega) (by omega), Int.toNat_natCast, List.range'_succ, List.all_cons]
    refine Ev.pos (by omega) (Ev.pos (by omega) (Ev.bind (may_f c (s.extract 0 (i + 1)) (s.size : Int) (i : Int) (by rw [size_ext]; omega) (by omega) (by omega) (by rw [hp i i (Nat.le_refl _) (by omega)]; exact hd i (by omega))) ?_))
    by_cases b : mayV c (s.extract 0 (i + 1)) (s.size : Int) (i : Int) = true
    · rw [b, Bool.true_and]
      exact Ev.pos rfl (isOf_l0 c s hs hd hp e (i + 1) (by omega))
    · rw [Bool.eq_false_iff.2 b, Bool.false_and]
      exact Ev.neg (by decide) (Ev.now _)
/-! ## strnum -/
theorem ofNat_toNat {c : Int} (h : 0 ≤ c ∧ c ≤ 255) : (((UInt8.ofNat c.toNat).toNat : Nat) : Int) = c := by
  rw [UInt8.toNat_ofNat', Nat.mod_eq_of_lt (by omega)]; omega
theorem L_strOfNums (l : List Int) (h : ∀ c ∈ l, 0 ≤ c ∧ c ≤ 255) : L (strOfNums l) = l := by
  unfold L strOfNums
  rw [List.map_map]
  conv => rhs; rw [← List.map_id l]
  exact List.map_congr_left (fun c hc => ofNat_toNat (h c hc))
/-! ## revD -/
/-- A text told from its end. -/
def revB (s : ByteArray) : ByteArray := strOfNums (L s).reverse
theorem L_revB (s : ByteArray) : L (revB s) = (L s).reverse := L_strOfNums _ (fun c hc => L_mem (List.mem_reverse.1 hc))
theorem size_revB (s : ByteArray) : (revB s).size = s.size := by rw [size_L, L_revB, List.length_reverse, L_length]
def upsL (s : ByteArray) : List Int := (L s).reverse.map upV
def upsAns (s : ByteArray) : ByteArray × Bool := if (upsL s).any (fun y => (0 : Int) == y) = true then (⟨#[]⟩, false) else (strOfNums (upsL s), true)
/-! ## reading -/
/-- Is a text a reading. -/
def good (s : ByteArray) : Bool := (L s).all isD && (decide ((1 : Int) ≤ s.size) && decide ((s.size : Int) ≤ 9))
theorem good_t {s : ByteArray} (h : good s = true) : (L s).all isD = true ∧ 1 ≤ s.size ∧ s.size ≤ 9 := by
  unfold good at h
  rw [Bool.and_eq_true, Bool.and_eq_true, decide_eq_true_eq, decide_eq_true_eq] at h
  exact ⟨h.1, by omega, by omega⟩
/-! ## kindV -/
/-! of which kinds a reading is -/
theorem ext_bt {s : ByteArray} {m j : Nat} (hm : m ≤ s.size) (hj : j < m) : bt (s.extract 0 m) (j : Int) = bt s (j : Int) := by
  rw [bt_L, bt_L, L_extract, List.drop_zero, List.getD_eq_getElem?_getD, List.getD_eq_getElem?_getD, List.getElem?_take, if_pos hj]
theorem good_bt {s : ByteArray} (h : (L s).all isD = true) {i : Nat} (hi : i < s.size) : 48 ≤ bt s (i : Int) ∧ bt s (i : Int) ≤ 57 := by
  have := List.all_eq_true.1 h (bt s (i : Int)) (List.mem_of_getElem? (L_get s i hi))
  exact isD_t.1 this
theorem indexByte_neg : ∀ (l : List UInt8) (c : UInt8), Go.Lib.indexByte l c < 0 ↔ c ∉ l
  | [], c => by simp [Go.Lib.indexByte]
  | b :: l, c => by
    have ih := indexByte_neg l c
    have hg := Go.Lib.indexByte_ge l c
    unfold Go.Lib.indexByte
    by_cases h : b = c
    · subst h; simp
    · rw [if_neg (by simpa using h), List.mem_cons, not_or]
      by_cases h2 : Go.Lib.indexByte l c = -1
      · rw [if_pos (by simpa using h2)]
        exact ⟨fun _ => ⟨fun e => h e.symm, ih.1 (by omega)⟩, fun _ => by omega⟩
      · rw [if_neg (by simpa using h2)]
        exact ⟨fun h3 => by omega, fun h3 => by have := ih.2 h3.2; omega⟩
/-- Is a reading of a kind: asked digit by digit. -/
def kindV (c : Int) (s : ByteArray) : Bool := (List.range' 0 s.size).all (fun i => mayV c (s.extract 0 (i + 1)) (s.size : Int) (i : Int))
theorem kindV_t {c : Int} {s : ByteArray} : kindV c s = true ↔ ∀ i, i < s.size → mayV c (s.extract 0 (i + 1)) (s.size : Int) (i : Int) = true := by
  unfold kindV
  rw [List.all_eq_true]
  exact ⟨fun h i hi => h i (List.mem_range'_1.2 ⟨by omega, by omega⟩), fun h i hi => h i (by have := List.mem_range'_1.1 hi; omega)⟩
theorem isOf_f (c : Int) (s : ByteArray) (hg : good s = true) : Ev (fun k => impl_isOf.f k c s) (kindV c s) := by
  obtain ⟨hd, h1, h9⟩ := good_t hg
  exact isOf_l0 c s h9 (fun i hi => good_bt hd hi) (fun i j hj hi => ext_bt (by omega) (by omega)) s.size 0 (by omega)
theorem kind_a {s : ByteArray} : kindV 97 s = true ↔ ∀ i, i < s.size → bt s (i : Int) = bt s (0 : Int) := by
  rw [kindV_t]
  have h0 : ∀ i, i < s.size → bt (s.extract 0 (i + 1)) (0 : Int) = bt s (0 : Int) := fun i hi => ext_bt (j := 0) (by omega) (by omega)
  constructor
  · intro h i hi
    have := h i hi
    unfold mayV at this
    rw [if_pos rfl, beq_iff_eq, ext_bt (by omega) (by omega), h0 i hi] at this
    exact this
  · intro h i hi
    unfold mayV
    rw [if_pos rfl, beq_iff_eq, ext_bt (by omega) (by omega), h0 i hi]
    exact h i hi
theorem upV_cases {c : Int} (h : 48 ≤ c ∧ c ≤ 57) : upV c = 0 ∨ upV (upV c) = c := by
  unfold upV
  by_cases h1 : c = 48
  · subst h1; right; rfl
  · by_cases h2 : c = 49
    · subst h2; right; rfl
    · by_cases h3 : c = 56
      · subst h3; right; rfl
      · by_cases h4 : c = 54
        · subst h4; right; rfl
        · by_cases h5 : c = 57
          · subst h5; right; rfl
          · left; rw [if_neg h1, if_neg h2, if_neg h3, if_neg h4, if_neg h5]
theorem kind_m {s : ByteArray} : kindV 109 s = true ↔ ∀ i, i < s.size → bt s ((s.size - 1 - i : Nat) : Int) = bt s (i : Int) := by
  rw [kindV_t]
  refine Iff.trans ?_ (across_iff (fun i => bt s (i : Int)) id s.size (fun i j _ _ h => h.symm))
  refine forall_congr' (fun i => forall_congr' (fun hi => ?_))
  unfold mayV
  rw [if_neg (by decide), if_pos rfl]
  by_cases h : s.size - 1 - i > i
  · rw [if_pos (by omega)]; exact ⟨fun _ => .inl h, fun _ => rfl⟩
  · rw [if_neg (by omega), beq_iff_eq, show ((s.size : Int) - 1 - (i : Int)) = ((s.size - 1 - i : Nat) : Int) by omega, ext_bt (by omega) (by omega), ext_bt (by omega) (by omega)]
    exact ⟨fun h2 => .inr h2, fun h2 => h2.elim (fun h3 => absurd h3 h) id⟩
theorem kind_d {s : ByteArray} {c : Int} (hc : c ≠ 97 ∧ c ≠ 109 ∧ c ≠ 117 ∧ c ≠ 114 ∧ c ≠ 102) : kindV c s = true ↔ ∀ i, i < s.size → fresh s i = true := by
  rw [kindV_t]
  refine forall_congr' (fun i => forall_congr' (fun hi => ?_))
  have h8 := bt_hi s (i : Int)
  have h8' := bt_lo s (i : Int)
  unfold mayV
  rw [if_neg hc.1, if_neg hc.2.1, if_neg hc.2.2.1, if_neg hc.2.2.2.1, if_neg hc.2.2.2.2, decide_eq_true_eq, indexByte_neg, fresh_t, ext_bt (by omega) (by omega)]
  rw [Int.toNat_natCast, ByteArray.data_extract, ByteArray.data_extract]
  have hl : ∀ x : UInt8, x ∈ ((s.data.extract 0 (i + 1)).extract 0 i).toList ↔ ∃ k, k < i ∧ bt s (k : Int) = (x.toNat : Int) := by
    intro x
    have e : ((s.data.extract 0 (i + 1)).extract 0 i).toList.map (fun c => (c.toNat : Int)) = (L s).take i := by
      have h1 := L_extract (s.extract 0 (i + 1)) 0 i
      rw [List.drop_zero, L_extract s 0 (i + 1), List.drop_zero, List.take_take, Nat.min_eq_left (by omega)] at h1
      rw [← h1]; unfold L; rw [ByteArray.data_extract, ByteArray.data_extract]
    constructor
    · intro hx
      have h2 : (x.toNat : Int) ∈ (L s).take i := by rw [← e]; exact List.mem_map_of_mem hx
      obtain ⟨k, hk, hkx⟩ := List.getElem_of_mem h2
      rw [List.length_take, L_length] at hk
      refine ⟨k, by omega, ?_⟩
      have := L_get s k (by omega)
      rw [List.getElem_take] at hkx
      rw [List.getElem?_eq_getElem (by rw [L_length]; omega), hkx] at this
      exact (Option.some.inj this).symm
    · rintro ⟨k, hk, hkx⟩
      have h2 : (x.toNat : Int) ∈ (L s).take i := by
        refine List.mem_of_getElem? (i := k) ?_
        rw [List.getElem?_take, if_pos hk, L_get s k (by omega), hkx]
      rw [← e] at h2
      obtain ⟨y, hy, hyx⟩ := List.mem_map.1 h2
      have : y = x := by apply UInt8.toNat_inj.1; omega
      exact this ▸ hy
  rw [hl]
  have hx : ((bt s (i : Int)).toNat.toUInt8.toNat : Int) = bt s (i : Int) := by
    show (((UInt8.ofNat (bt s (i : Int)).toNat).toNat : Nat) : Int) = _
    exact ofNat_toNat ⟨h8', h8⟩
  rw [hx]
  exact ⟨fun h k hk e => h ⟨k, hk, e⟩, fun h ⟨k, hk, e⟩ => h k hk e⟩
section
variable {s : ByteArray} (hg : good s = true)
include hg
theorem kind_u : kindV 117 s = true ↔ ∀ i, i < s.size → upV (bt s (i : Int)) ≠ 0 ∧ bt s ((s.size - 1 - i : Nat) : Int) = upV (bt s (i : Int)) := by
  have hd := (good_t hg).1
  have hm : ∀ i, i < s.size → (mayV 117 (s.extract 0 (i + 1)) (s.size : Int) (i : Int) = true ↔ upV (bt s (i : Int)) ≠ 0 ∧ (s.size - 1 - i > i ∨ bt s ((s.size - 1 - i : Nat) : Int) = upV (bt s (i : Int)))) := by
    intro i hi
    unfold mayV
    rw [if_neg (by decide), if_neg (by decide), if_pos rfl, ext_bt (by omega) (by omega)]
    by_cases h0 : upV (bt s (i : Int)) = 0
    · rw [if_pos h0]; exact ⟨(fun h => by cases h), fun h => absurd h0 h.1⟩
    · rw [if_neg h0]
      by_cases h : s.size - 1 - i > i
      · rw [if_pos (by omega)]; exact ⟨fun _ => ⟨h0, .inl h⟩, fun _ => rfl⟩
      · rw [if_neg (by omega), beq_iff_eq, show ((s.size : Int) - 1 - (i : Int)) = ((s.size - 1 - i : Nat) : Int) by omega, ext_bt (by omega) (by omega)]
        exact ⟨fun h2 => ⟨h0, .inr h2⟩, fun h2 => h2.2.elim (fun h3 => absurd h3 h) id⟩
  rw [kindV_t]
  constructor
  · intro h i hi
    have hz : ∀ j, j < s.size → upV (bt s (j : Int)) ≠ 0 := fun j hj => ((hm j hj).1 (h j hj)).1
    refine ⟨hz i hi, ?_⟩
    rcases ((hm i hi).1 (h i hi)).2 with e | e
    · have hk : s.size - 1 - i < s.size := by omega
      rcases ((hm _ hk).1 (h _ hk)).2 with e2 | e2
      · omega
      · rw [show s.size - 1 - (s.size - 1 - i) = i by omega] at e2
        rw [e2]
        rcases upV_cases (good_bt hd hk) with h3 | h3
        · exact absurd h3 (hz _ hk)
        · exact h3.symm
    · exact e
  · intro h i hi
    exact (hm i hi).2 ⟨(h i hi).1, .inr (h i hi).2⟩
theorem kind_r : kindV 114 s = true ↔ ∀ i, 1 ≤ i → i < s.size → bt s ((i - 1 : Nat) : Int) < bt s (i : Int) := by
  have hd := (good_t hg).1
  rw [kindV_t]
  refine Iff.trans ?_ (rise_iff (fun i => bt s (i : Int)) s.size (fun i hi => good_bt hd hi))
  refine forall_congr' (fun i => forall_congr' (fun hi => ?_))
  unfold mayV
  rw [if_neg (by decide), if_neg (by decide), if_neg (by decide), if_pos rfl, ext_bt (by omega) (by omega)]
  by_cases h0 : i = 0
  · rw [if_pos (show (i : Int) = 0 by omega), decide_eq_true_eq]
    exact ⟨fun h => ⟨.inl h0, h⟩, fun h => h.2⟩
  · rw [if_neg (by omega), show ((i : Int) - 1) = ((i - 1 : Nat) : Int) by omega, ext_bt (by omega) (by omega)]
    by_cases h1 : bt s ((i - 1 : Nat) : Int) < bt s (i : Int)
    · rw [if_pos h1, decide_eq_true_eq]; exact ⟨fun h => ⟨.inr h1, h⟩, fun h => h.2⟩
    · rw [if_neg h1]; exact ⟨(fun h => by cases h), fun h => h.1.elim (fun e => absurd e h0) (fun e => absurd e h1)⟩
theorem kind_f : kindV 102 s = true ↔ ∀ i, 1 ≤ i → i < s.size → bt s ((i - 1 : Nat) : Int) > bt s (i : Int) := by
  have hd := (good_t hg).1
  rw [kindV_t]
  refine Iff.trans ?_ (fall_iff (fun i => bt s (i : Int)) s.size (fun i hi => good_bt hd hi))
  refine forall_congr' (fun i => forall_congr' (fun hi => ?_))
  unfold mayV
  rw [if_neg (by decide), if_neg (by decide), if_neg (by decide), if_neg (by decide), if_pos rfl, ext_bt (by omega) (by omega)]
  by_cases h0 : i = 0
  · rw [if_pos (show (i : Int) = 0 by omega), decide_eq_true_eq]
    exact ⟨fun h => ⟨.inl h0, h⟩, fun h => h.2⟩
  · rw [if_neg (by omega), show ((i : Int) - 1) = ((i - 1 : Nat) : Int) by omega, ext_bt (by omega) (by omega)]
    by_cases h1 : bt s ((i - 1 : Nat) : Int) > bt s (i : Int)
    · rw [if_pos h1, decide_eq_true_eq]; exact ⟨fun h => ⟨.inr h1, h⟩, fun h => h.2⟩
    · rw [if_neg h1]; exact ⟨(fun h => by cases h), fun h => h.1.elim (fun e => absurd e h0) (fun e => absurd e h1)⟩
end
/-! ## miTurnD -/
theorem miTurn_l0 (s : ByteArray) (hs : s.size ≤ 1000) : ∀ (n : Nat) (acc t : ByteArray), n ≤ s.size → acc.size ≤ 1000000 - n → L t = L acc ++ ((L s).take n).reverse →
    Ev (fun k => spec_miTurn.l0 k s acc ((n : Int) - 1)) t
  | 0, acc, t, _, _, h => by
    refine Ev.step (fun _ => spec_miTurn.l0.eq_2 ..) (Ev.neg (by omega) (Ev.eq ?_ (Ev.now _)))
    rw [List.take_zero, List.reverse_nil, List.append_nil] at h
    exact L_inj h
  | n + 1, acc, t, hn, ha, h => by
    have e1 : ((n + 1 : Nat) : Int) - 1 = (n : Int) := by omega
    refine Ev.step (fun _ => spec_miTurn.l0.eq_2 ..) ?_
    rw [e1, wsucc (m := s.size) (by omega) (by omega), Int.toNat_natCast, Int.toNat_natCast, w64 (x := (n : Int) - 1) (by omega) (by omega)]
    refine Ev.pos (by omega) (Ev.pos (by omega) (Ev.pos (by omega) (Ev.pos (by omega) (Ev.pos ?_ ?_))))
    · rw [size_ext]; omega
    · refine miTurn_l0 s hs n _ t (by omega) ?_ ?_
      · rw [size_app, size_ext]; omega
      · have hl : n < (L s).length := by rw [L_length]; omega
        rw [h, L_append, L_extract, List.take_succ_eq_append_getElem hl, List.reverse_append]
        rw [List.drop_append_of_le_length (by rw [List.length_take]; omega), List.drop_of_length_le (by rw [List.length_take]; omega)]
        simp
theorem miTurn_f (s : ByteArray) (hs : s.size ≤ 1000) : Ev (fun k => spec_miTurn.f k s) (revB s) := by
  have h := miTurn_l0 s hs s.size ⟨#[]⟩ (revB s) (Nat.le_refl _) (Nat.zero_le _) (by rw [L_revB, L_nil, List.nil_append, List.take_of_length_le (by rw [L_length]; omega)])
  show Ev (fun k => spec_miTurn.l0 k s ⟨#[]⟩ (wrap64 ((s.size : Int) - 1))) _
  rw [w64 (by omega) (by omega)]
  exact h
/-! ## miUpsD -/
theorem upV_get {l : List Int} {n : Nat} (hl : n < l.length) : ((l.take (n + 1)).reverse.map upV) = upV l[n] :: (l.take n).reverse.map upV := by
  rw [List.take_succ_eq_append_getElem hl, List.reverse_append]; rfl
theorem miUps_l0 (s : ByteArray) (hs : s.size ≤ 1000) : ∀ (n : Nat) (acc t : ByteArray), n ≤ s.size → acc.size ≤ 1000000 - n → L t = L acc ++ ((L s).take n).reverse.map upV →
    Ev (fun k => spec_miUpside.l0 k s acc ((n : Int) - 1)) (if (((L s).take n).reverse.map upV).any (fun y => (0 : Int) == y) = true then (⟨#[]⟩, false) else (t, true))
  | 0, acc, t, _, _, h => by
    refine Ev.step (fun _ => spec_miUpside.l0.eq_2 ..) (Ev.neg (by omega) ?_)
    rw [List.take_zero, List.reverse_nil, List.map_nil] at h ⊢
    rw [List.append_nil] at h
    rw [L_inj h]
    exact Ev.now _
  | n + 1, acc, t, hn, ha, h => by
    have hl : n < (L s).length := by rw [L_length]; omega
    have e1 : ((n + 1 : Nat) : Int) - 1 = (n : Int) := by omega
    have hc : bt s (n : Int) = (L s)[n] := by rw [bt_L, List.getD_eq_getElem?_getD, List.getElem?_eq_getElem hl]; rfl
    rw [upV_get hl] at h ⊢
    rw [e1, List.any_cons]
    generalize hcc : (L s)[n] = c at h hc ⊢
    refine Ev.step (fun _ => spec_miUpside.l0.eq_2 ..) (Ev.pos (by omega) (Ev.pos (by omega) (Ev.pos (by omega) ?_)))
    rw [hc]
    have app : ∀ (u : ByteArray) (v : Int), L u = [v] → u.size = 1 → upV c = v → v ≠ 0 → Ev (fun k => spec_miUpside.l0 k s (acc ++ u) (wrap64 ((n : Int) - 1))) (if ((0 : Int) == upV c || (((L s).take n).reverse.map upV).any (fun y => (0 : Int) == y)) = true then (⟨#[]⟩, false) else (t, true)) := by
      intro u v hu hz hv h0
      rw [hv] at h ⊢
      rw [beq_eq_false_iff_ne.2 (Ne.symm h0), Bool.false_or, w64 (x := (n : Int) - 1) (by omega) (by omega)]
      refine miUps_l0 s hs n _ t (by omega) (by rw [size_app, hz]; omega) ?_
      rw [h, L_append, hu, List.append_assoc]; rfl
    have same : (c = 48 ∨ c = 49 ∨ c = 56) → Ev (fun k => spec_miUpside.j1 k s acc (n : Int) c true) (if ((0 : Int) == upV c || (((L s).take n).reverse.map upV).any (fun y => (0 : Int) == y)) = true then (⟨#[]⟩, false) else (t, true)) := by
      intro hh
      refine Ev.step (fun _ => spec_miUpside.j1.eq_2 ..) (Ev.pos rfl ?_)
      rw [wsucc (m := s.size) (show n < s.size by omega) (by omega), Int.toNat_natCast, Int.toNat_natCast]
      refine Ev.pos (by omega) (Ev.pos (by omega) (Ev.pos (by omega) (Ev.pos (by rw [size_ext]; omega) (app _ c ?_ (by rw [size_ext]; omega) (by unfold upV; split <;> first | rfl | (split <;> first | rfl | (split <;> first | rfl | omega))) (by omega)))))
      rw [L_extract, List.take_succ_eq_append_getElem hl, hcc, List.drop_append_of_le_length (by rw [List.length_take]; omega), List.drop_of_length_le (by rw [List.length_take]; omega), List.nil_append]
    by_cases c1 : c = 48
    · refine Ev.pos c1 ?_
      rw [show (c == 48) = true by simpa using c1]
      exact same (.inl c1)
    · refine Ev.neg c1 ?_
      by_cases c2 : c = 49
      · refine Ev.pos c2 ?_
        rw [show (c == 49) = true by simpa using c2]
        exact same (.inr (.inl c2))
      · refine Ev.neg c2 ?_
        by_cases c3 : c = 56
        · rw [show (c == 56) = true by simpa using c3]
          exact same (.inr (.inr c3))
        · rw [show (c == 56) = false by simpa using c3]
          refine Ev.step (fun _ => spec_miUpside.j1.eq_2 ..) (Ev.neg (by decide) ?_)
          by_cases c4 : c = 54
          · exact Ev.pos c4 (Ev.pos (by omega) (app _ 57 rfl rfl (by rw [c4]; rfl) (by decide)))
          · refine Ev.neg c4 ?_
            by_cases c5 : c = 57
            · exact Ev.pos c5 (Ev.pos (by omega) (app _ 54 rfl rfl (by rw [c5]; rfl) (by decide)))
            · refine Ev.neg c5 ?_
              have h0 : upV c = 0 := by unfold upV; rw [if_neg c1, if_neg c2, if_neg c3, if_neg c4, if_neg c5]
              rw [h0]
              exact Ev.eq (by simp) (Ev.now _)
theorem upV_mem (c : Int) (h : 0 ≤ c ∧ c ≤ 255) : 0 ≤ upV c ∧ upV c ≤ 255 := by unfold upV; repeat' split <;> omega
theorem upsL_eq (s : ByteArray) : upsL s = (L s).reverse.map upV := rfl
theorem miUps_f (s : ByteArray) (hs : s.size ≤ 1000) : Ev (fun k => spec_miUpside.f k s) (upsAns s) := by
  have h := miUps_l0 s hs s.size ⟨#[]⟩ (strOfNums (upsL s)) (Nat.le_refl _) (Nat.zero_le _) (by
    rw [L_strOfNums, upsL_eq, L_nil, List.nil_append, List.take_of_length_le (by rw [L_length]; omega)]
    intro c hc
    rw [upsL_eq] at hc
    obtain ⟨x, hx, rfl⟩ := List.mem_map.1 hc
    exact upV_mem x (L_mem (List.mem_reverse.1 hx)))
  rw [List.take_of_length_le (by rw [L_length]; omega), ← upsL_eq] at h
  show Ev (fun k => spec_miUpside.l0 k s ⟨#[]⟩ (wrap64 ((s.size : Int) - 1))) _
  rw [w64 (by omega) (by omega)]
  exact h
/-! ## miIs -/
/-! spec.miIs: of which kinds a reading is -/
theorem good_128 {s : ByteArray} (h : (L s).all isD = true) : (s.data.toList.all fun c => decide (c.toNat < 128)) = true := by
  rw [List.all_eq_true]
  intro c hc
  have h1 : (c.toNat : Int) ∈ L s := List.mem_map_of_mem hc
  have h2 := isD_t.1 (List.all_eq_true.1 h _ h1)
  rw [decide_eq_true_eq]; omega
theorem tl1 (c : UInt8) : (⟨#[c]⟩ : ByteArray).toList = [c] := by rw [ByteArray.toList_eq]
theorem tl1_ne {c d : UInt8} (h : c ≠ d) : ¬ (⟨#[c]⟩ : ByteArray).toList = ([d] : List UInt8) := by
  rw [tl1]; intro e; exact h (List.cons.inj e).1
theorem L_rev_get (s : ByteArray) (i : Nat) (hi : i < s.size) : (L s).reverse[i]? = some (bt s ((s.size - 1 - i : Nat) : Int)) := by
  rw [List.getElem?_reverse (by rw [L_length]; exact hi), L_length]
  exact L_get s _ (by omega)
theorem rev_map_iff (s : ByteArray) (u : Int → Int) : (L s).reverse.map u = L s ↔ ∀ i, i < s.size → u (bt s ((s.size - 1 - i : Nat) : Int)) = bt s (i : Int) := by
  constructor
  · intro h i hi
    have h1 := congrArg (fun l => l[i]?) h
    simp only [List.getElem?_map, L_rev_get s i hi, L_get s i hi, Option.map_some, Option.some.injEq] at h1
    exact h1
  · intro h
    apply List.ext_getElem?
    intro i
    by_cases hi : i < s.size
    · rw [List.getElem?_map, L_rev_get s i hi, L_get s i hi, Option.map_some, h i hi]
    · rw [List.getElem?_eq_none (by rw [List.length_map, List.length_reverse, L_length]; omega), List.getElem?_eq_none (by rw [L_length]; omega)]
section
variable {s : ByteArray} (hg : good s = true)
include hg
theorem miIs_a : Ev (fun k => spec_miIs.f k s (⟨#[97]⟩ : ByteArray)) (kindV 97 s) := by
  obtain ⟨hd, h1, h9⟩ := good_t hg
  refine Ev.pos (tl1 97) (Ev.bind (miDigits_f s (by omega) (good_128 hd)) (Ev.eq ?_ (Ev.now _)))
  rw [Bool.eq_iff_iff, kind_a, beq_iff_eq, ← cntD_one (by omega)]
  omega
theorem miIs_m : Ev (fun k => spec_miIs.f k s (⟨#[109]⟩ : ByteArray)) (kindV 109 s) := by
  obtain ⟨hd, h1, h9⟩ := good_t hg
  refine Ev.neg (tl1_ne (by decide)) (Ev.pos (tl1 109) (Ev.bind (miTurn_f s (by omega)) (Ev.eq ?_ (Ev.now _))))
  rw [Bool.eq_iff_iff, kind_m, beq_iff_eq, tl_eq]
  have := rev_map_iff s id
  rw [List.map_id] at this
  constructor
  · intro h; exact L_inj (by rw [L_revB]; exact this.2 h)
  · intro h; exact this.1 (by rw [← L_revB, h])
theorem miIs_u : Ev (fun k => spec_miIs.f k s (⟨#[117]⟩ : ByteArray)) (kindV 117 s) := by
  obtain ⟨hd, h1, h9⟩ := good_t hg
  refine Ev.neg (tl1_ne (by decide)) (Ev.neg (tl1_ne (by decide)) (Ev.pos (tl1 117) (Ev.bind (miUps_f s (by omega)) ?_)))
  have hrm := rev_map_iff s upV
  have hmem : ∀ x, x ∈ upsL s ↔ ∃ i, i < s.size ∧ upV (bt s (i : Int)) = x := by
    intro x
    unfold upsL
    rw [List.mem_map]
    constructor
    · rintro ⟨y, hy, rfl⟩
      obtain ⟨i, hi, rfl⟩ := List.getElem_of_mem (List.mem_reverse.1 hy)
      rw [L_length] at hi
      refine ⟨i, hi, ?_⟩
      have := L_get s i hi
      rw [List.getElem?_eq_getElem (by rw [L_length]; exact hi)] at this
      rw [Option.some.inj this]
    · rintro ⟨i, hi, rfl⟩
      exact ⟨_, List.mem_reverse.2 (List.mem_of_getElem? (L_get s i hi)), rfl⟩
  have hbyte : ∀ c ∈ upsL s, 0 ≤ c ∧ c ≤ 255 := by
    intro c hc
    obtain ⟨i, hi, rfl⟩ := (hmem c).1 hc
    exact upV_mem _ ⟨bt_lo _ _, bt_hi _ _⟩
  unfold upsAns
  by_cases h0 : (upsL s).any (fun y => (0 : Int) == y) = true
  · rw [if_pos h0]
    refine Ev.neg (by decide) (Ev.eq ?_ (Ev.now _))
    rw [Bool.eq_false_iff]
    intro hk
    rw [kind_u hg] at hk
    obtain ⟨y, hy, hy0⟩ := List.any_eq_true.1 h0
    obtain ⟨i, hi, e⟩ := (hmem y).1 hy
    exact (hk i hi).1 (by rw [e]; exact (beq_iff_eq.1 hy0).symm)
  · rw [if_neg h0]
    refine Ev.pos rfl (Ev.eq ?_ (Ev.now _))
    have hnz : ∀ i, i < s.size → upV (bt s (i : Int)) ≠ 0 := by
      intro i hi e
      exact h0 (List.any_eq_true.2 ⟨_, (hmem _).2 ⟨i, hi, rfl⟩, by rw [e]; rfl⟩)
    rw [Bool.eq_iff_iff, kind_u hg, beq_iff_eq, tl_eq]
    have hLs : (strOfNums (upsL s) = s) ↔ upsL s = L s := by
      constructor
      · intro h
        have := L_strOfNums (upsL s) hbyte
        rw [h] at this; exact this.symm
      · intro h; exact L_inj (by rw [L_strOfNums _ hbyte, h])
    rw [hLs, upsL_eq, hrm]
    constructor
    · intro h i hi
      have h2 := (h (s.size - 1 - i) (by omega)).2
      rw [show s.size - 1 - (s.size - 1 - i) = i by omega] at h2
      exact h2.symm
    · intro h i hi
      refine ⟨hnz i hi, ?_⟩
      have h2 := h (s.size - 1 - i) (by omega)
      rw [show s.size - 1 - (s.size - 1 - i) = i by omega] at h2
      exact h2.symm
theorem miIs_d : Ev (fun k => spec_miIs.f k s (⟨#[100]⟩ : ByteArray)) (kindV 100 s) := by
  obtain ⟨hd, h1, h9⟩ := good_t hg
  refine Ev.neg (tl1_ne (by decide)) (Ev.neg (tl1_ne (by decide)) (Ev.neg (tl1_ne (by decide)) (Ev.pos (tl1 100) (Ev.bind (miDigits_f s (by omega) (good_128 hd)) (Ev.eq ?_ (Ev.now _))))))
  rw [Bool.eq_iff_iff, kind_d (by decide), beq_iff_eq, ← cntD_all]
  omega
theorem miIs_l0r : ∀ e i : Nat, i + e = s.size → 1 ≤ i → Ev (fun k => spec_miIs.l0 k s (⟨#[114]⟩ : ByteArray) (i : Int)) ((List.range' i e).all (fun j => decide (bt s ((j - 1 : Nat) : Int) < bt s (j : Int))))
  | 0, i, h, _ => Ev.step (fun _ => spec_miIs.l0.eq_2 ..) (Ev.neg (by omega) (Ev.now _))
  | e + 1, i, h, h1 => by
    have ih := miIs_l0r e (i + 1) (by omega) (by omega)
    have h9 := (good_t hg).2.2
    refine Ev.step (fun _ => spec_miIs.l0.eq_2 ..) (Ev.pos (by omega) (Ev.pos (tl1 114) (Ev.pos (by omega) ?_)))
    rw [w64 (x := (i : Int) - 1) (by omega) (by omega), show (i : Int) - 1 = ((i - 1 : Nat) : Int) by omega, wsucc (m := 10) (by omega) (by omega), List.range'_succ, List.all_cons]
    refine Ev.pos (by omega) (Ev.pos (by omega) ?_)
    by_cases c : bt s (i : Int) ≤ bt s ((i - 1 : Nat) : Int)
    · refine Ev.pos c (Ev.eq ?_ (Ev.now _))
      rw [decide_eq_false (by omega), Bool.false_and]
    · refine Ev.neg c (Ev.neg (tl1_ne (by decide)) ?_)
      rw [decide_eq_true (by omega), Bool.true_and]
      exact ih
theorem miIs_r : Ev (fun k => spec_miIs.f k s (⟨#[114]⟩ : ByteArray)) (kindV 114 s) := by
  obtain ⟨hd, h1, h9⟩ := good_t hg
  refine Ev.neg (tl1_ne (by decide)) (Ev.neg (tl1_ne (by decide)) (Ev.neg (tl1_ne (by decide)) (Ev.neg (tl1_ne (by decide)) (Ev.eq ?_ (miIs_l0r hg (s.size - 1) 1 (by omega) (by omega))))))
  rw [Bool.eq_iff_iff, kind_r hg, List.all_eq_true]
  exact ⟨fun h j hj => decide_eq_true (by have := List.mem_range'_1.1 hj; exact h j (by omega) (by omega)), fun h i h1 h2 => of_decide_eq_true (h i (List.mem_range'_1.2 ⟨by omega, by omega⟩))⟩
theorem miIs_l0f : ∀ e i : Nat, i + e = s.size → 1 ≤ i → Ev (fun k => spec_miIs.l0 k s (⟨#[102]⟩ : ByteArray) (i : Int)) ((List.range' i e).all (fun j => decide (bt s ((j - 1 : Nat) : Int) > bt s (j : Int))))
  | 0, i, h, _ => Ev.step (fun _ => spec_miIs.l0.eq_2 ..) (Ev.neg (by omega) (Ev.now _))
  | e + 1, i, h, h1 => by
    have ih := miIs_l0f e (i + 1) (by omega) (by omega)
    have h9 := (good_t hg).2.2
    refine Ev.step (fun _ => spec_miIs.l0.eq_2 ..) (Ev.pos (by omega) (Ev.neg (tl1_ne (by decide)) (Ev.pos (tl1 102) (Ev.pos (by omega) ?_))))
    rw [w64 (x := (i : Int) - 1) (by omega) (by omega), show (i : Int) - 1 = ((i - 1 : Nat) : Int) by omega, wsucc (m := 10) (by omega) (by omega), List.range'_succ, List.all_cons]
    refine Ev.pos (by omega) (Ev.pos (by omega) ?_)
    by_cases c : bt s (i : Int) ≥ bt s ((i - 1 : Nat) : Int)
    · refine Ev.pos c (Ev.eq ?_ (Ev.now _))
      rw [decide_eq_false (by omega), Bool.false_and]
    · refine Ev.neg c ?_
      rw [decide_eq_true (by omega), Bool.true_and]
      exact ih
theorem miIs_f : Ev (fun k => spec_miIs.f k s (⟨#[102]⟩ : ByteArray)) (kindV 102 s) := by
  obtain ⟨hd, h1, h9⟩ := good_t hg
  refine Ev.neg (tl1_ne (by decide)) (Ev.neg (tl1_ne (by decide)) (Ev.neg (tl1_ne (by decide)) (Ev.neg (tl1_ne (by decide)) (Ev.eq ?_ (miIs_l0f hg (s.size - 1) 1 (by omega) (by omega))))))
  rw [Bool.eq_iff_iff, kind_f hg, List.all_eq_true]
  exact ⟨fun h j hj => decide_eq_true (by have := List.mem_range'_1.1 hj; exact h j (by omega) (by omega)), fun h i h1 h2 => of_decide_eq_true (h i (List.mem_range'_1.2 ⟨by omega, by omega⟩))⟩
end
/-! ## l1In -/
theorem l1In_f (a b c : Int) : spec_l1In.f a b c = some (decide (b ≤ a) && decide (a ≤ c)) := by
  unfold spec_l1In.f; by_cases h : b ≤ a <;> simp [h]
/-! ## miGood -/
theorem miGood_l0 (s : ByteArray) (hs : s.size ≤ 140737488351232) : ∀ (l : List Int) (n : Nat), (L s).drop n = l →
    Ev (fun k => spec_miGood.l0 k s (n : Int)) (l.all isD) := by
  intro l
  induction l with
  | nil =>
    intro n h
    have h1 := sdrop_nil h
    exact Ev.step (spec_miGood.l0.eq_2 s (n : Int)) (Ev.neg (by omega) (Ev.now _))
  | cons c t ih =>
    intro n h
    obtain ⟨h1, h2, h3⟩ := sdrop_cons h
    refine Ev.step (spec_miGood.l0.eq_2 s (n : Int)) (Ev.pos (by omega) (Ev.pos (by omega) ?_))
    rw [h2, wsucc h1 (by omega)]
    by_cases hc : isD c = true
    · have hc' := isD_t.1 hc
      refine Ev.neg (by omega) (Ev.neg (by omega) (Ev.eq ?_ (ih (n + 1) h3)))
      simp [hc]
    · have hc' := isD_f.1 (by simpa using hc)
      by_cases h48 : c < 48
      · exact Ev.pos h48 (Ev.eq (by simp [hc]) (Ev.now _))
      · exact Ev.neg h48 (Ev.pos (by omega) (Ev.eq (by simp [hc]) (Ev.now _)))
theorem miGood_f (s : ByteArray) (hs : s.size ≤ 140737488351232) :
    Ev (fun k => spec_miGood.f k s) ((L s).all isD && (decide ((1 : Int) ≤ s.size) && decide ((s.size : Int) ≤ 9))) := by
  refine Ev.sm (l1In_f _ _ _) ?_
  by_cases h : (decide ((1 : Int) ≤ s.size) && decide ((s.size : Int) ≤ 9)) = true
  · exact Ev.pos h (Ev.eq (by rw [h, Bool.and_true]) (miGood_l0 s hs (L s) 0 rfl))
  · exact Ev.neg h (Ev.eq (by rw [Bool.not_eq_true] at h; rw [h, Bool.and_false]) (Ev.now _))
/-! ## within -/
theorem within_f (a b c : Int) : impl_within.f a b c = some (decide (b ≤ a) && decide (a ≤ c)) := by
  unfold impl_within.f; by_cases h : b ≤ a <;> simp [h]
/-! ## areDigits -/
theorem areDigits_l0 (s : ByteArray) (lo hi : Int) (hs : s.size ≤ 140737488351232) : ∀ (l : List Int) (n : Nat), (L s).drop n = l →
    Ev (fun k => impl_areDigits.l0 k s lo hi (s.size : Int) (n : Int)) (l.all isD && (decide (lo ≤ s.size) && decide ((s.size : Int) ≤ hi))) := by
  intro l
  induction l with
  | nil =>
    intro n h
    have h1 := sdrop_nil h
    refine Ev.step (impl_areDigits.l0.eq_2 s lo hi (s.size : Int) (n : Int)) ?_
    refine Ev.neg (by omega) (Ev.sm (within_f _ _ _) (Ev.eq ?_ (Ev.now _)))
    simp
  | cons c t ih =>
    intro n h
    obtain ⟨h1, h2, h3⟩ := sdrop_cons h
    refine Ev.step (impl_areDigits.l0.eq_2 s lo hi (s.size : Int) (n : Int)) (Ev.pos (by omega) (Ev.pos (by omega) (Ev.pos (by omega) ?_)))
    rw [h2, wsucc h1 (by omega)]
    by_cases hc : isD c = true
    · have hc' := isD_t.1 hc
      refine Ev.neg (by omega) (Ev.neg (by omega) (Ev.eq ?_ (ih (n + 1) h3)))
      simp [hc]
    · have hc' := isD_f.1 (by simpa using hc)
      by_cases h48 : c < 48
      · exact Ev.pos h48 (Ev.eq (by simp [hc]) (Ev.now _))
      · exact Ev.neg h48 (Ev.pos (by omega) (Ev.eq (by simp [hc]) (Ev.now _)))
theorem areDigits_f (s : ByteArray) (lo hi : Int) (hs : s.size ≤ 140737488351232) :
    Ev (fun k => impl_areDigits.f k s lo hi) ((L s).all isD && (decide (lo ≤ s.size) && decide ((s.size : Int) ≤ hi))) :=
  areDigits_l0 s lo hi hs (L s) 0 rfl
/-! ## FnExactKindsOfReading -/
def specFold (s : ByteArray) : ByteArray → List (Int × ByteArray) → ByteArray
  | S, [] => S
  | S, (c, x) :: rest => specFold s (if kindV c s = true then S ++ x else S) rest
theorem L_specFold (s : ByteArray) : ∀ (l : List (Int × ByteArray)) (S : ByteArray), (∀ p ∈ l, L p.2 = [p.1]) → L (specFold s S l) = L S ++ (l.map (·.1)).filter (kindV · s)
  | [], S, _ => by rw [specFold, List.map_nil, List.filter_nil, List.append_nil]
  | (c, x) :: rest, S, h => by
    have hx : L x = [c] := h (c, x) List.mem_cons_self
    rw [specFold, L_specFold s rest _ (fun p hp => h p (List.mem_cons_of_mem _ hp)), List.map_cons, List.filter_cons]
    by_cases e : kindV c s = true
    · rw [if_pos e, if_pos e, L_append, hx, List.append_assoc]; rfl
    · rw [if_neg e, if_neg e]
theorem kindsL_f (s : ByteArray) (hg : good s = true) : ∀ (l acc : List Int), Ev (fun k => kindsL (fun c => impl_isOf.f k c s) l acc) (strOfNums (acc ++ l.filter (kindV · s)), true)
  | [], acc => Ev.eq (by rw [List.filter_nil, List.append_nil]) (Ev.now _)
  | c :: rest, acc => by
    refine Ev.bind (isOf_f c s hg) ?_
    rw [List.filter_cons]
    by_cases e : kindV c s = true
    · rw [if_pos e]
      refine Ev.pos e (Ev.eq ?_ (kindsL_f s hg rest (acc ++ [c])))
      rw [List.append_assoc]; rfl
    · rw [if_neg e]
      exact Ev.neg e (kindsL_f s hg rest acc)
def six : List ByteArray := [(⟨#[97]⟩ : ByteArray), (⟨#[109]⟩ : ByteArray), (⟨#[117]⟩ : ByteArray), (⟨#[114]⟩ : ByteArray), (⟨#[102]⟩ : ByteArray), (⟨#[100]⟩ : ByteArray)]
theorem spec_step {s S x : ByteArray} {c : Int} {j : Nat} {r : ByteArray × Bool} (hj : j < 6) (hS : S.size ≤ 100) (hx : rdOf ByteArray.empty six (j : Int) = x) (hz : x.size = 1) (hm : Ev (fun k => spec_miIs.f k s x) (kindV c s))
    (h : Ev (fun k => spec_KindsOfReading.l0 k s (if kindV c s = true then S ++ x else S) six 6 ((j + 1 : Nat) : Int)) r) : Ev (fun k => spec_KindsOfReading.l0 k s S six 6 (j : Int)) r := by
  refine Ev.step (fun _ => spec_KindsOfReading.l0.eq_2 ..) (Ev.pos (by omega) (Ev.pos (by omega) (Ev.pos (by show (j : Int) < 6; omega) ?_)))
  rw [hx, wsucc (m := 10) (by omega) (by omega)]
  refine Ev.bind hm ?_
  by_cases e : kindV c s = true
  · rw [if_pos e] at h
    exact Ev.pos e (Ev.pos (by rw [hz]; omega) h)
  · rw [if_neg e] at h
    exact Ev.neg e h
theorem grow_le {s S x : ByteArray} {c : Int} {n : Nat} (h : S.size ≤ n) (hz : x.size = 1) : (if kindV c s = true then S ++ x else S).size ≤ n + 1 := by
  split
  · rw [size_app, hz]; omega
  · omega
theorem spec_l0 (s : ByteArray) (hg : good s = true) : Ev (fun k => spec_KindsOfReading.l0 k s (⟨#[]⟩ : ByteArray) six 6 0) (specFold s ⟨#[]⟩ [(97, ⟨#[97]⟩), (109, ⟨#[109]⟩), (117, ⟨#[117]⟩), (114, ⟨#[114]⟩), (102, ⟨#[102]⟩), (100, ⟨#[100]⟩)], true) := by
  have z0 : (⟨#[]⟩ : ByteArray).size ≤ 0 := Nat.le_refl _
  have z1 := grow_le (s := s) (c := 97) (x := (⟨#[97]⟩ : ByteArray)) z0 rfl
  have z2 := grow_le (s := s) (c := 109) (x := (⟨#[109]⟩ : ByteArray)) z1 rfl
  have z3 := grow_le (s := s) (c := 117) (x := (⟨#[117]⟩ : ByteArray)) z2 rfl
  have z4 := grow_le (s := s) (c := 114) (x := (⟨#[114]⟩ : ByteArray)) z3 rfl
  have z5 := grow_le (s := s) (c := 102) (x := (⟨#[102]⟩ : ByteArray)) z4 rfl
  exact spec_step (j := 0) (by decide) (Nat.zero_le _) rfl rfl (miIs_a hg) (spec_step (j := 1) (by decide) (Nat.le_trans z1 (by decide)) rfl rfl (miIs_m hg) (spec_step (j := 2) (by decide) (Nat.le_trans z2 (by decide)) rfl rfl (miIs_u hg) (spec_step (j := 3) (by decide) (Nat.le_trans z3 (by decide)) rfl rfl (miIs_r hg) (spec_step (j := 4) (by decide) (Nat.le_trans z4 (by decide)) rfl rfl (miIs_f hg) (spec_step (j := 5) (by decide) (Nat.le_trans z5 (by decide)) rfl rfl (miIs_d hg) (Ev.step (fun _ => spec_KindsOfReading.l0.eq_2 ..) (Ev.neg (by decide) (Ev.now _))))))))
theorem FnExactKindsOfReading : laws_FnExactKindsOfReading.Pure := by
  intro s hs
  refine Ev.rounds (g := fun k => laws_FnExactKindsOfReading.f k s) ?_
  unfold laws_FnExactKindsOfReading.f
  by_cases b1 : (s.size : Int) > 1048576
  · exact Ev.pos b1 (Ev.now _)
  · refine Ev.neg b1 ?_
    have ga : Ev (fun k => spec_miGood.f k s) (good s) := miGood_f s hs
    have ia : Ev (fun k => impl_IsReading.f k s) (good s) := Ev.bind (areDigits_f s 1 9 hs) (Ev.now _)
    by_cases c1 : good s = true
    · have hbyte : ∀ c ∈ kinds6.filter (kindV · s), 0 ≤ c ∧ c ≤ 255 := by
        intro c hc
        have h1 : ∀ c ∈ kinds6, 0 ≤ c ∧ c ≤ 255 := by decide
        exact h1 c (List.mem_filter.1 hc).1
      have e : specFold s ⟨#[]⟩ [(97, ⟨#[97]⟩), (109, ⟨#[109]⟩), (117, ⟨#[117]⟩), (114, ⟨#[114]⟩), (102, ⟨#[102]⟩), (100, ⟨#[100]⟩)] = strOfNums ([] ++ kinds6.filter (kindV · s)) := by
        apply L_inj
        rw [L_specFold, List.nil_append, L_strOfNums _ hbyte, L_nil, List.nil_append]
        · rfl
        · intro p hp
          simp only [List.mem_cons, List.not_mem_nil, or_false] at hp
          rcases hp with rfl | rfl | rfl | rfl | rfl | rfl <;> rfl
      refine Ev.bind (Ev.bind ga (Ev.pos c1 (Ev.sm rfl (spec_l0 s c1)))) (Ev.bind (Ev.bind ia (Ev.pos c1 (kindsL_f s c1 kinds6 []))) ?_)
      rw [e]
      exact Ev.pos rfl (Ev.neg (by simp) (Ev.now _))
    · exact Ev.bind (a := (⟨#[]⟩, false)) (Ev.bind ga (Ev.neg c1 (Ev.now _))) (Ev.bind (a := (⟨#[]⟩, false)) (Ev.bind ia (Ev.neg c1 (Ev.now _))) (Ev.pos rfl (Ev.neg (by simp) (Ev.now _))))

end Go.Proofs.Ytkbbmkbkpkmdkaa.Pure
