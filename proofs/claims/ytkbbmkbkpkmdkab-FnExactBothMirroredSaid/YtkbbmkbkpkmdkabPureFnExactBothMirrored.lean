/- The plain law of FnExactBothMirrored: at all arguments the printed function of the law answers true after some number of rounds. Conditions: none beyond the bounds that the printed statement itself bears. -/
import Derived.Test.YtkbbmkbkpkmdkabQFnExactBothMirroredx5
import Derived.Lib.Bytealg
import Derived.Lib.ItoaNum
namespace Go.Proofs.Ytkbbmkbkpkmdkab.Pure
open Go.RowKit Go.Proofs.Ytkbbmkbkpkmdkab.QFnExactBothMirrored Go.Proofs.YtkbbmkbkpkmdkabW.PrintWords Go.Proofs.YtkbbmkbkpkmdkabW.PrintLast Go.Proofs.Ytkbbmkbkpkmdkab.Ext Go.Proofs.Ytkbbmkbkpkmdkab.Ext Go.Proofs.Ytkbbmkbkpkmdkab.Ext
set_option linter.unusedVariables false


/-! ## base -/
/-! numbers in 64 bits -/
theorem w64 {x : Int} (h1 : -9223372036854775808 ≤ x) (h2 : x ≤ 9223372036854775807) : wrap64 x = x := by unfold wrap64; omega
theorem w64n {x : Nat} (h2 : x ≤ 9223372036854775807) : wrap64 (x : Int) = (x : Int) := w64 (by omega) (by omega)
theorem wf64 {x : Int} (h : (Lit.int .i64 x).wf = true) : -9223372036854775808 ≤ x ∧ x ≤ 9223372036854775807 := by
  have hmin : IntKind.i64.min = -9223372036854775808 := rfl
  have hmax : IntKind.i64.max = 9223372036854775807 := rfl
  simp only [Lit.wf, Bool.and_eq_true, decide_eq_true_eq, hmin, hmax] at h
  exact h
theorem tmodN (a b : Nat) : Int.tmod (a : Int) (b : Int) = ((a % b : Nat) : Int) := rfl
theorem tdivN (a b : Nat) : Int.tdiv (a : Int) (b : Int) = ((a / b : Nat) : Int) := rfl
theorem tmod_nn {a b : Int} (h : 0 ≤ a) : Int.tmod a b = a % b := Int.tmod_eq_emod_of_nonneg h
theorem tdiv_nn {a b : Int} (h : 0 ≤ a) : Int.tdiv a b = a / b := Int.tdiv_eq_ediv_of_nonneg h
/-! from some number of rounds on -/
theorem Ev.pos {α : Type} {c : Prop} [Decidable c] {f g : Nat → Option α} {r : α} (h : c) (e : Ev f r) : Ev (fun k => if c then f k else g k) r := by simpa only [if_pos h] using e
theorem Ev.neg {α : Type} {c : Prop} [Decidable c] {f g : Nat → Option α} {r : α} (h : ¬ c) (e : Ev g r) : Ev (fun k => if c then f k else g k) r := by simpa only [if_neg h] using e
theorem Ev.sm {α β : Type} {f : Nat → α → Option β} {a : α} {o : Option α} {r : β} (h : o = some a) (e : Ev (fun n => f n a) r) : Ev (fun n => o.bind (f n)) r := by subst h; simpa only [Option.bind_some] using e
theorem Ev.eq {α : Type} {f : Nat → Option α} {r r' : α} (h : r' = r) (e : Ev f r) : Ev f r' := h ▸ e
theorem Ev.of_some {α : Type} {o : Option α} {r : α} (h : o = some r) : Ev (fun _ => o) r := ⟨0, fun _ _ => h⟩
theorem Ev.uniq {α : Type} {g : Nat → Option α} {r q : α} (h : Ev g r) (h' : Ev g q) : r = q := by
  obtain ⟨K, h⟩ := h
  obtain ⟨K', h'⟩ := h'
  have := (h (max K K') (by omega)).symm.trans (h' (max K K') (by omega))
  exact Option.some.inj this
/-! a string as a list of numbers -/
def L (s : ByteArray) : List Int := s.data.toList.map (fun c => (c.toNat : Int))
theorem L_length (s : ByteArray) : (L s).length = s.size := by simp [L]
theorem bt_lo (s : ByteArray) (i : Int) : 0 ≤ bt s i := by unfold bt; split <;> omega
theorem bt_hi (s : ByteArray) (i : Int) : bt s i ≤ 255 := by
  unfold bt; split
  · have := UInt8.toNat_lt (s[i.toNat]); omega
  · omega
theorem bt_L (s : ByteArray) (n : Nat) : bt s (n : Int) = (L s).getD n 0 := by
  unfold bt L
  by_cases h : n < s.size
  · simp [h, List.getD_eq_getElem?_getD]; rfl
  · simp [h, List.getD_eq_getElem?_getD]
theorem L_get (s : ByteArray) (n : Nat) (h : n < s.size) : (L s)[n]? = some (bt s n) := by
  rw [bt_L, List.getD_eq_getElem?_getD]
  have : n < (L s).length := by rw [L_length]; exact h
  simp [this]
theorem L_mem {s : ByteArray} {c : Int} (h : c ∈ L s) : 0 ≤ c ∧ c ≤ 255 := by
  unfold L at h
  obtain ⟨u, _, rfl⟩ := List.mem_map.1 h
  have := UInt8.toNat_lt u
  omega
theorem map_toNat_inj : ∀ (l m : List UInt8), l.map (fun c => (c.toNat : Int)) = m.map (fun c => (c.toNat : Int)) → l = m
  | [], [], _ => rfl
  | [], _ :: _, h => by simp at h
  | _ :: _, [], h => by simp at h
  | a :: l, b :: m, h => by
    simp only [List.map_cons, List.cons.injEq] at h
    have h1 : a = b := by apply UInt8.toNat_inj.1; omega
    rw [h1, map_toNat_inj l m h.2]
theorem L_inj {s t : ByteArray} (h : L s = L t) : s = t := by
  have := map_toNat_inj _ _ h
  cases s; cases t
  congr 1
  exact Array.toList_inj.1 this
theorem toList_L {s t : ByteArray} : s.data.toList = t.data.toList ↔ L s = L t := by
  constructor
  · intro h; unfold L; rw [h]
  · intro h; exact map_toNat_inj _ _ h
theorem L_append (s t : ByteArray) : L (s ++ t) = L s ++ L t := by
  unfold L
  rw [ByteArray.data_append]
  simp
/-- The rest of a list from a place on. -/
theorem drop_cons {α : Type} {l : List α} {n : Nat} {c : α} {t : List α} (h : l.drop n = c :: t) : n < l.length ∧ l[n]? = some c ∧ l.drop (n + 1) = t := by
  have h1 : n < l.length := by
    by_cases h1 : n < l.length
    · exact h1
    · rw [List.drop_eq_nil_of_le (by omega)] at h; cases h
  rw [List.drop_eq_getElem_cons h1] at h
  simp only [List.cons.injEq] at h
  exact ⟨h1, by rw [List.getElem?_eq_getElem h1, h.1], h.2⟩
theorem drop_nil {α : Type} {l : List α} {n : Nat} (h : l.drop n = []) : l.length ≤ n := by simpa using h
theorem sdrop_cons {s : ByteArray} {n : Nat} {c : Int} {t : List Int} (h : (L s).drop n = c :: t) : n < s.size ∧ bt s n = c ∧ (L s).drop (n + 1) = t := by
  obtain ⟨h1, h2, h3⟩ := drop_cons h
  rw [L_length] at h1
  rw [L_get s n h1] at h2
  exact ⟨h1, Option.some.inj h2, h3⟩
theorem sdrop_nil {s : ByteArray} {n : Nat} (h : (L s).drop n = []) : s.size ≤ n := by have := drop_nil h; rwa [L_length] at this
theorem wsucc {n m : Nat} (h : n < m) (hm : m ≤ 140737488355328) : wrap64 ((n : Int) + 1) = ((n + 1 : Nat) : Int) := by rw [w64 (by omega) (by omega)]; rfl
/-! digits -/
def isD (c : Int) : Bool := decide (48 ≤ c) && decide (c ≤ 57)
theorem isD_t {c : Int} : isD c = true ↔ 48 ≤ c ∧ c ≤ 57 := by simp [isD]
theorem isD_f {c : Int} : isD c = false ↔ c < 48 ∨ 57 < c := by
  rw [← Bool.not_eq_true, isD_t]; omega
theorem dig_mod {c : Int} (h : isD c = true) : (c - 48) % 256 = c - 48 := by rw [isD_t] at h; omega
/-! ## kindEq -/
theorem rise (G : Nat → Int) (n : Nat) (h : ∀ i, 1 ≤ i → i < n → G (i - 1) < G i) : ∀ d i : Nat, i + d < n → G i + (d : Int) ≤ G (i + d)
  | 0, i, _ => by simp
  | d + 1, i, hi => by
    have h1 := rise G n h d i (by omega)
    have h2 := h (i + d + 1) (by omega) (by omega)
    rw [Nat.add_sub_cancel] at h2
    rw [show i + (d + 1) = i + d + 1 by omega]
    omega
theorem fall (G : Nat → Int) (n : Nat) (h : ∀ i, 1 ≤ i → i < n → G (i - 1) > G i) : ∀ d i : Nat, i + d < n → G i ≥ G (i + d) + (d : Int)
  | 0, i, _ => by simp
  | d + 1, i, hi => by
    have h1 := fall G n h d i (by omega)
    have h2 := h (i + d + 1) (by omega) (by omega)
    rw [Nat.add_sub_cancel] at h2
    rw [show i + (d + 1) = i + d + 1 by omega]
    omega
/-- Rising digits leave room for as many greater ones as come. -/
theorem rise_iff (G : Nat → Int) (n : Nat) (hd : ∀ i, i < n → 48 ≤ G i ∧ G i ≤ 57) :
    (∀ i : Nat, i < n → (i = 0 ∨ G (i - 1) < G i) ∧ G i - 48 + ((n : Int) - 1 - i) ≤ 9) ↔ ∀ i, 1 ≤ i → i < n → G (i - 1) < G i := by
  constructor
  · intro h i h1 hi
    rcases (h i hi).1 with e | e
    · omega
    · exact e
  · intro h i hi
    refine ⟨?_, ?_⟩
    · by_cases e : i = 0
      · exact .inl e
      · exact .inr (h i (by omega) hi)
    · have h1 := rise G n h (n - 1 - i) i (by omega)
      rw [show i + (n - 1 - i) = n - 1 by omega] at h1
      have h2 := hd (n - 1) (by omega)
      omega
theorem fall_iff (G : Nat → Int) (n : Nat) (hd : ∀ i, i < n → 48 ≤ G i ∧ G i ≤ 57) :
    (∀ i : Nat, i < n → (i = 0 ∨ G (i - 1) > G i) ∧ G i - 48 ≥ (n : Int) - 1 - i) ↔ ∀ i, 1 ≤ i → i < n → G (i - 1) > G i := by
  constructor
  · intro h i h1 hi
    rcases (h i hi).1 with e | e
    · omega
    · exact e
  · intro h i hi
    refine ⟨?_, ?_⟩
    · by_cases e : i = 0
      · exact .inl e
      · exact .inr (h i (by omega) hi)
    · have h1 := fall G n h (n - 1 - i) i (by omega)
      rw [show i + (n - 1 - i) = n - 1 by omega] at h1
      have h2 := hd (n - 1) (by omega)
      omega
/-- What stands across is the same, asked of each place when it is reached: asked of all. -/
theorem across_iff (G : Nat → Int) (u : Int → Int) (n : Nat) (hu : ∀ i j, i < n → j < n → G i = u (G j) → G j = u (G i)) :
    (∀ i : Nat, i < n → (n - 1 - i > i ∨ G (n - 1 - i) = u (G i))) ↔ ∀ i, i < n → G (n - 1 - i) = u (G i) := by
  constructor
  · intro h i hi
    rcases h i hi with e | e
    · rcases h (n - 1 - i) (by omega) with e2 | e2
      · omega
      · rw [show n - 1 - (n - 1 - i) = i by omega] at e2
        exact hu i (n - 1 - i) hi (by omega) e2
    · exact e
  · intro h i hi
    exact .inr (h i hi)
/-! ## str -/
theorem tl_eq {s t : ByteArray} : s.toList = t.toList ↔ s = t := by
  rw [ByteArray.toList_eq, ByteArray.toList_eq, toList_L]
  exact ⟨L_inj, fun h => by rw [h]⟩
theorem L_extract (s : ByteArray) (a b : Nat) : L (s.extract a b) = ((L s).take b).drop a := by
  unfold L
  rw [ByteArray.data_extract]
  simp [List.map_drop, List.map_take, List.drop_take]
theorem L_nil : L (⟨#[]⟩ : ByteArray) = [] := rfl
theorem size_L (s : ByteArray) : s.size = (L s).length := (L_length s).symm
theorem size_ext (s : ByteArray) (a b : Nat) : (s.extract a b).size = min b s.size - a := by rw [size_L, L_extract, List.length_drop, List.length_take, L_length]
theorem size_app (s t : ByteArray) : (s ++ t).size = s.size + t.size := by rw [size_L, L_append, List.length_append, L_length, L_length]
/-! ## miDigits -/
/-- No digit ahead of this one is the same. -/
def fresh (s : ByteArray) (i : Nat) : Bool := (List.range i).all (fun k => bt s (k : Int) != bt s (i : Int))
/-- How many different digits there are. -/
def cntD (s : ByteArray) (n : Nat) : Nat := ((List.range n).filter (fresh s)).length
theorem cntD_succ (s : ByteArray) (n : Nat) : cntD s (n + 1) = cntD s n + (if fresh s n = true then 1 else 0) := by
  unfold cntD
  rw [List.range_succ, List.filter_append, List.length_append]
  congr 1
  rw [List.filter_cons, List.filter_nil]
  split <;> rfl
theorem cntD_le (s : ByteArray) (n : Nat) : cntD s n ≤ n := by
  have := List.length_filter_le (fresh s) (List.range n)
  rw [List.length_range] at this
  exact this
theorem miDigits_l1 (s : ByteArray) (hs : s.size ≤ 1000) (i : Nat) (hi : i < s.size) (c : Int) (r : Int) (n : Int) : ∀ (e j : Nat) (is : Bool), j + e = i → is = (List.range j).all (fun k => bt s (k : Int) != bt s (i : Int)) →
    Ev (fun k => spec_miDigits.l0 k s (if fresh s i = true then wrap64 (c + 1) else c) n ((i + 1 : Nat) : Int)) r → Ev (fun k => spec_miDigits.l1 k s c (i : Int) is (j : Int) n (i : Int)) r
  | 0, j, is, hj, his, h => by
    obtain rfl : j = i := by omega
    refine Ev.step (fun _ => spec_miDigits.l1.eq_2 ..) (Ev.neg (by omega) ?_)
    rw [wsucc (m := 1000) (by omega) (by omega)]
    have hf : fresh s j = is := his.symm
    rw [hf] at h
    by_cases c1 : is = true
    · rw [if_pos c1] at h; exact Ev.pos c1 h
    · rw [if_neg c1] at h; exact Ev.neg c1 h
  | e + 1, j, is, hj, his, h => by
    have hall : ∀ b : Bool, b = (is && (bt s (j : Int) != bt s (i : Int))) → b = (List.range (j + 1)).all (fun k => bt s (k : Int) != bt s (i : Int)) := by
      intro b hb
      rw [hb, his, List.range_succ, List.all_append]
      simp
    refine Ev.step (fun _ => spec_miDigits.l1.eq_2 ..) (Ev.pos (by omega) ?_)
    rw [wsucc (m := 1000) (by omega) (by omega)]
    by_cases c1 : is = true
    · exact Ev.pos c1 (Ev.pos (by omega) (Ev.pos (by omega) (Ev.pos (by omega) (Ev.pos (by omega) (miDigits_l1 s hs i hi c r n e (j + 1) _ (by omega) (hall _ (by rw [c1, Bool.true_and])) h)))))
    · exact Ev.neg c1 (miDigits_l1 s hs i hi c r n e (j + 1) _ (by omega) (hall _ (by rw [Bool.eq_false_iff.2 c1, Bool.false_and])) h)
theorem miDigits_l0 (s : ByteArray) (hs : s.size ≤ 1000) : ∀ e i : Nat, i + e = s.size → Ev (fun k => spec_miDigits.l0 k s (cntD s i : Int) (s.size : Int) (i : Int)) (cntD s s.size : Int)
  | 0, i, h => by
    obtain rfl : i = s.size := by omega
    exact Ev.step (fun _ => spec_miDigits.l0.eq_2 ..) (Ev.neg (by omega) (Ev.now _))
  | e + 1, i, h => by
    refine Ev.step (fun _ => spec_miDigits.l0.eq_2 ..) (Ev.pos (by omega) (miDigits_l1 s hs i (by omega) _ _ _ i 0 true (by omega) (by simp) ?_))
    have ih := miDigits_l0 s hs e (i + 1) (by omega)
    have hc := cntD_le s i
    rw [cntD_succ] at ih
    by_cases c : fresh s i = true
    · rw [if_pos c] at ih ⊢
      rw [w64 (by omega) (by omega)]
      exact ih
    · rw [if_neg c] at ih ⊢
      exact ih
theorem miDigits_f (s : ByteArray) (hs : s.size ≤ 1000) (hd : (s.data.toList.all fun c => decide (c.toNat < 128)) = true) : Ev (fun k => spec_miDigits.f k s) (cntD s s.size : Int) := by
  unfold spec_miDigits.f
  exact Ev.pos ⟨hd, by omega⟩ (miDigits_l0 s hs s.size 0 (by omega))
theorem fresh_t {s : ByteArray} {i : Nat} : fresh s i = true ↔ ∀ k, k < i → bt s (k : Int) ≠ bt s (i : Int) := by
  unfold fresh
  rw [List.all_eq_true]
  constructor
  · intro h k hk e
    have := h k (List.mem_range.2 hk)
    rw [e] at this
    simp at this
  · intro h k hk
    simpa using h k (List.mem_range.1 hk)
/-- All digits are the same just where there is one different digit. -/
theorem cntD_one {s : ByteArray} {n : Nat} (hn : 0 < n) : cntD s n = 1 ↔ ∀ i, i < n → bt s (i : Int) = bt s (0 : Int) := by
  obtain ⟨m, rfl⟩ : ∃ m, n = m + 1 := ⟨n - 1, by omega⟩
  clear hn
  have h0 : fresh s 0 = true := rfl
  induction m with
  | zero => exact ⟨fun _ i hi => by obtain rfl : i = 0 := by omega
                                    rfl, fun _ => by rw [cntD_succ, if_pos h0]; rfl⟩
  | succ m ih =>
    rw [cntD_succ]
    have hge : 1 ≤ cntD s (m + 1) := by
      clear ih
      induction m with
      | zero => rw [cntD_succ, if_pos h0]; omega
      | succ m ih => rw [cntD_succ]; omega
    constructor
    · intro h
      have hf : ¬ fresh s (m + 1) = true := fun x => by rw [if_pos x] at h; omega
      rw [if_neg hf] at h
      have ha := ih.1 (by omega)
      intro i hi
      by_cases e : i = m + 1
      · subst e
        rw [fresh_t] at hf
        apply Classical.byContradiction
        intro x
        exact hf (fun k hk y => x (by rw [← y]; exact ha k hk))
      · exact ha i (by omega)
    · intro h
      have hf : ¬ fresh s (m + 1) = true := fun x => (fresh_t.1 x) 0 (by omega) (h (m + 1) (by omega)).symm
      rw [if_neg hf]
      exact ih.2 (fun i hi => h i (by omega))
theorem cntD_all {s : ByteArray} {n : Nat} : cntD s n = n ↔ ∀ i, i < n → fresh s i = true := by
  unfold cntD
  have h := List.length_filter_eq_length_iff (p := fresh s) (l := List.range n)
  rw [List.length_range] at h
  rw [h]
  exact ⟨fun x i hi => x i (List.mem_range.2 hi), fun x i hi => x i (List.mem_range.1 hi)⟩
/-! ## upV -/
/-- The digit that is read upside down, 0 for none. -/
def upV (c : Int) : Int := if c = 48 then c else if c = 49 then c else if c = 56 then c else if c = 54 then 57 else if c = 57 then 54 else 0
/-! ## mayVd -/
/-- May a text that ends at place i begin a reading of a kind with n digits. -/
def mayV (c : Int) (b : ByteArray) (n i : Int) : Bool :=
  if c = 97 then bt b i == bt b 0
  else if c = 109 then (if n - 1 - i > i then true else bt b (n - 1 - i) == bt b i)
  else if c = 117 then (if upV (bt b i) = 0 then false else if n - 1 - i > i then true else bt b (n - 1 - i) == upV (bt b i))
  else if c = 114 then (if i = 0 then decide (bt b i - 48 + (n - 1 - i) ≤ 9) else if bt b (i - 1) < bt b i then decide (bt b i - 48 + (n - 1 - i) ≤ 9) else false)
  else if c = 102 then (if i = 0 then decide (bt b i - 48 ≥ n - 1 - i) else if bt b (i - 1) > bt b i then decide (bt b i - 48 ≥ n - 1 - i) else false)
  else decide (Go.Lib.indexByte (b.extract 0 i.toNat).data.toList (bt b i).toNat.toUInt8 < 0)
/-! ## strnum -/
theorem ofNat_toNat {c : Int} (h : 0 ≤ c ∧ c ≤ 255) : (((UInt8.ofNat c.toNat).toNat : Nat) : Int) = c := by
  rw [UInt8.toNat_ofNat', Nat.mod_eq_of_lt (by omega)]; omega
theorem L_strOfNums (l : List Int) (h : ∀ c ∈ l, 0 ≤ c ∧ c ≤ 255) : L (strOfNums l) = l := by
  unfold L strOfNums
  rw [List.map_map]
  conv => rhs; rw [← List.map_id l]
  exact List.map_congr_left (fun c hc => ofNat_toNat (h c hc))
/-! ## revD -/
/-- A text told from its end. -/
def revB (s : ByteArray) : ByteArray := strOfNums (L s).reverse
theorem L_revB (s : ByteArray) : L (revB s) = (L s).reverse := L_strOfNums _ (fun c hc => L_mem (List.mem_reverse.1 hc))
theorem size_revB (s : ByteArray) : (revB s).size = s.size := by rw [size_L, L_revB, List.length_reverse, L_length]
def upsL (s : ByteArray) : List Int := (L s).reverse.map upV
def upsAns (s : ByteArray) : ByteArray × Bool := if (upsL s).any (fun y => (0 : Int) == y) = true then (⟨#[]⟩, false) else (strOfNums (upsL s), true)
/-! ## reading -/
/-- Is a text a reading. -/
def good (s : ByteArray) : Bool := (L s).all isD && (decide ((1 : Int) ≤ s.size) && decide ((s.size : Int) ≤ 9))
theorem good_t {s : ByteArray} (h : good s = true) : (L s).all isD = true ∧ 1 ≤ s.size ∧ s.size ≤ 9 := by
  unfold good at h
  rw [Bool.and_eq_true, Bool.and_eq_true, decide_eq_true_eq, decide_eq_true_eq] at h
  exact ⟨h.1, by omega, by omega⟩
/-! ## kindV -/
/-! of which kinds a reading is -/
theorem ext_bt {s : ByteArray} {m j : Nat} (hm : m ≤ s.size) (hj : j < m) : bt (s.extract 0 m) (j : Int) = bt s (j : Int) := by
  rw [bt_L, bt_L, L_extract, List.drop_zero, List.getD_eq_getElem?_getD, List.getD_eq_getElem?_getD, List.getElem?_take, if_pos hj]
theorem good_bt {s : ByteArray} (h : (L s).all isD = true) {i : Nat} (hi : i < s.size) : 48 ≤ bt s (i : Int) ∧ bt s (i : Int) ≤ 57 := by
  have := List.all_eq_true.1 h (bt s (i : Int)) (List.mem_of_getElem? (L_get s i hi))
  exact isD_t.1 this
theorem indexByte_neg : ∀ (l : List UInt8) (c : UInt8), Go.Lib.indexByte l c < 0 ↔ c ∉ l
  | [], c => by simp [Go.Lib.indexByte]
  | b :: l, c => by
    have ih := indexByte_neg l c
    have hg := Go.Lib.indexByte_ge l c
    unfold Go.Lib.indexByte
    by_cases h : b = c
    · subst h; simp
    · rw [if_neg (by simpa using h), List.mem_cons, not_or]
      by_cases h2 : Go.Lib.indexByte l c = -1
      · rw [if_pos (by simpa using h2)]
        exact ⟨fun _ => ⟨fun e => h e.symm, ih.1 (by omega)⟩, fun _ => by omega⟩
      · rw [if_neg (by simpa using h2)]
        exact ⟨fun h3 => by omega, fun h3 => by have := ih.2 h3.2; omega⟩
/-- Is a reading of a kind: asked digit by digit. -/
def kindV (c : Int) (s : ByteArray) : Bool := (List.range' 0 s.size).all (fun i => mayV c (s.extract 0 (i + 1)) (s.size : Int) (i : Int))
theorem kindV_t {c : Int} {s : ByteArray} : kindV c s = true ↔ ∀ i, i < s.size → mayV c (s.extract 0 (i + 1)) (s.size : Int) (i : Int) = true := by
  unfold kindV
  rw [List.all_eq_true]
  exact ⟨fun h i hi => h i (List.mem_range'_1.2 ⟨by omega, by omega⟩), fun h i hi => h i (by have := List.mem_range'_1.1 hi; omega)⟩
theorem kind_a {s : ByteArray} : kindV 97 s = true ↔ ∀ i, i < s.size → bt s (i : Int) = bt s (0 : Int) := by
  rw [kindV_t]
  have h0 : ∀ i, i < s.size → bt (s.extract 0 (i + 1)) (0 : Int) = bt s (0 : Int) := fun i hi => ext_bt (j := 0) (by omega) (by omega)
  constructor
  · intro h i hi
    have := h i hi
    unfold mayV at this
    rw [if_pos rfl, beq_iff_eq, ext_bt (by omega) (by omega), h0 i hi] at this
    exact this
  · intro h i hi
    unfold mayV
    rw [if_pos rfl, beq_iff_eq, ext_bt (by omega) (by omega), h0 i hi]
    exact h i hi
theorem upV_cases {c : Int} (h : 48 ≤ c ∧ c ≤ 57) : upV c = 0 ∨ upV (upV c) = c := by
  unfold upV
  by_cases h1 : c = 48
  · subst h1; right; rfl
  · by_cases h2 : c = 49
    · subst h2; right; rfl
    · by_cases h3 : c = 56
      · subst h3; right; rfl
      · by_cases h4 : c = 54
        · subst h4; right; rfl
        · by_cases h5 : c = 57
          · subst h5; right; rfl
          · left; rw [if_neg h1, if_neg h2, if_neg h3, if_neg h4, if_neg h5]
theorem kind_m {s : ByteArray} : kindV 109 s = true ↔ ∀ i, i < s.size → bt s ((s.size - 1 - i : Nat) : Int) = bt s (i : Int) := by
  rw [kindV_t]
  refine Iff.trans ?_ (across_iff (fun i => bt s (i : Int)) id s.size (fun i j _ _ h => h.symm))
  refine forall_congr' (fun i => forall_congr' (fun hi => ?_))
  unfold mayV
  rw [if_neg (by decide), if_pos rfl]
  by_cases h : s.size - 1 - i > i
  · rw [if_pos (by omega)]; exact ⟨fun _ => .inl h, fun _ => rfl⟩
  · rw [if_neg (by omega), beq_iff_eq, show ((s.size : Int) - 1 - (i : Int)) = ((s.size - 1 - i : Nat) : Int) by omega, ext_bt (by omega) (by omega), ext_bt (by omega) (by omega)]
    exact ⟨fun h2 => .inr h2, fun h2 => h2.elim (fun h3 => absurd h3 h) id⟩
theorem kind_d {s : ByteArray} {c : Int} (hc : c ≠ 97 ∧ c ≠ 109 ∧ c ≠ 117 ∧ c ≠ 114 ∧ c ≠ 102) : kindV c s = true ↔ ∀ i, i < s.size → fresh s i = true := by
  rw [kindV_t]
  refine forall_congr' (fun i => forall_congr' (fun hi => ?_))
  have h8 := bt_hi s (i : Int)
  have h8' := bt_lo s (i : Int)
  unfold mayV
  rw [if_neg hc.1, if_neg hc.2.1, if_neg hc.2.2.1, if_neg hc.2.2.2.1, if_neg hc.2.2.2.2, decide_eq_true_eq, indexByte_neg, fresh_t, ext_bt (by omega) (by omega)]
  rw [Int.toNat_natCast, ByteArray.data_extract, ByteArray.data_extract]
  have hl : ∀ x : UInt8, x ∈ ((s.data.extract 0 (i + 1)).extract 0 i).toList ↔ ∃ k, k < i ∧ bt s (k : Int) = (x.toNat : Int) := by
    intro x
    have e : ((s.data.extract 0 (i + 1)).extract 0 i).toList.map (fun c => (c.toNat : Int)) = (L s).take i := by
      have h1 := L_extract (s.extract 0 (i + 1)) 0 i
      rw [List.drop_zero, L_extract s 0 (i + 1), List.drop_zero, List.take_take, Nat.min_eq_left (by omega)] at h1
      rw [← h1]; unfold L; rw [ByteArray.data_extract, ByteArray.data_extract]
    constructor
    · intro hx
      have h2 : (x.toNat : Int) ∈ (L s).take i := by rw [← e]; exact List.mem_map_of_mem hx
      obtain ⟨k, hk, hkx⟩ := List.getElem_of_mem h2
      rw [List.length_take, L_length] at hk
      refine ⟨k, by omega, ?_⟩
      have := L_get s k (by omega)
      rw [List.getElem_take] at hkx
      rw [List.getElem?_eq_getElem (by rw [L_length]; omega), hkx] at this
      exact (Option.some.inj this).symm
    · rintro ⟨k, hk, hkx⟩
      have h2 : (x.toNat : Int) ∈ (L s).take i := by
        refine List.mem_of_getElem? (i := k) ?_
        rw [List.getElem?_take, if_pos hk, L_get s k (by omega), hkx]
      rw [← e] at h2
      obtain ⟨y, hy, hyx⟩ := List.mem_map.1 h2
      have : y = x := by apply UInt8.toNat_inj.1; omega
      exact this ▸ hy
  rw [hl]
  have hx : ((bt s (i : Int)).toNat.toUInt8.toNat : Int) = bt s (i : Int) := by
    show (((UInt8.ofNat (bt s (i : Int)).toNat).toNat : Nat) : Int) = _
    exact ofNat_toNat ⟨h8', h8⟩
  rw [hx]
  exact ⟨fun h k hk e => h ⟨k, hk, e⟩, fun h ⟨k, hk, e⟩ => h k hk e⟩
section
variable {s : ByteArray} (hg : good s = true)
include hg
theorem kind_u : kindV 117 s = true ↔ ∀ i, i < s.size → upV (bt s (i : Int)) ≠ 0 ∧ bt s ((s.size - 1 - i : Nat) : Int) = upV (bt s (i : Int)) := by
  have hd := (good_t hg).1
  have hm : ∀ i, i < s.size → (mayV 117 (s.extract 0 (i + 1)) (s.size : Int) (i : Int) = true ↔ upV (bt s (i : Int)) ≠ 0 ∧ (s.size - 1 - i > i ∨ bt s ((s.size - 1 - i : Nat) : Int) = upV (bt s (i : Int)))) := by
    intro i hi
    unfold mayV
    rw [if_neg (by decide), if_neg (by decide), if_pos rfl, ext_bt (by omega) (by omega)]
    by_cases h0 : upV (bt s (i : Int)) = 0
    · rw [if_pos h0]; exact ⟨(fun h => by cases h), fun h => absurd h0 h.1⟩
    · rw [if_neg h0]
      by_cases h : s.size - 1 - i > i
      · rw [if_pos (by omega)]; exact ⟨fun _ => ⟨h0, .inl h⟩, fun _ => rfl⟩
      · rw [if_neg (by omega), beq_iff_eq, show ((s.size : Int) - 1 - (i : Int)) = ((s.size - 1 - i : Nat) : Int) by omega, ext_bt (by omega) (by omega)]
        exact ⟨fun h2 => ⟨h0, .inr h2⟩, fun h2 => h2.2.elim (fun h3 => absurd h3 h) id⟩
  rw [kindV_t]
  constructor
  · intro h i hi
    have hz : ∀ j, j < s.size → upV (bt s (j : Int)) ≠ 0 := fun j hj => ((hm j hj).1 (h j hj)).1
    refine ⟨hz i hi, ?_⟩
    rcases ((hm i hi).1 (h i hi)).2 with e | e
    · have hk : s.size - 1 - i < s.size := by omega
      rcases ((hm _ hk).1 (h _ hk)).2 with e2 | e2
      · omega
      · rw [show s.size - 1 - (s.size - 1 - i) = i by omega] at e2
        rw [e2]
        rcases upV_cases (good_bt hd hk) with h3 | h3
        · exact absurd h3 (hz _ hk)
        · exact h3.symm
    · exact e
  · intro h i hi
    exact (hm i hi).2 ⟨(h i hi).1, .inr (h i hi).2⟩
theorem kind_r : kindV 114 s = true ↔ ∀ i, 1 ≤ i → i < s.size → bt s ((i - 1 : Nat) : Int) < bt s (i : Int) := by
  have hd := (good_t hg).1
  rw [kindV_t]
  refine Iff.trans ?_ (rise_iff (fun i => bt s (i : Int)) s.size (fun i hi => good_bt hd hi))
  refine forall_congr' (fun i => forall_congr' (fun hi => ?_))
  unfold mayV
  rw [if_neg (by decide), if_neg (by decide), if_neg (by decide), if_pos rfl, ext_bt (by omega) (by omega)]
  by_cases h0 : i = 0
  · rw [if_pos (show (i : Int) = 0 by omega), decide_eq_true_eq]
    exact ⟨fun h => ⟨.inl h0, h⟩, fun h => h.2⟩
  · rw [if_neg (by omega), show ((i : Int) - 1) = ((i - 1 : Nat) : Int) by omega, ext_bt (by omega) (by omega)]
    by_cases h1 : bt s ((i - 1 : Nat) : Int) < bt s (i : Int)
    · rw [if_pos h1, decide_eq_true_eq]; exact ⟨fun h => ⟨.inr h1, h⟩, fun h => h.2⟩
    · rw [if_neg h1]; exact ⟨(fun h => by cases h), fun h => h.1.elim (fun e => absurd e h0) (fun e => absurd e h1)⟩
theorem kind_f : kindV 102 s = true ↔ ∀ i, 1 ≤ i → i < s.size → bt s ((i - 1 : Nat) : Int) > bt s (i : Int) := by
  have hd := (good_t hg).1
  rw [kindV_t]
  refine Iff.trans ?_ (fall_iff (fun i => bt s (i : Int)) s.size (fun i hi => good_bt hd hi))
  refine forall_congr' (fun i => forall_congr' (fun hi => ?_))
  unfold mayV
  rw [if_neg (by decide), if_neg (by decide), if_neg (by decide), if_neg (by decide), if_pos rfl, ext_bt (by omega) (by omega)]
  by_cases h0 : i = 0
  · rw [if_pos (show (i : Int) = 0 by omega), decide_eq_true_eq]
    exact ⟨fun h => ⟨.inl h0, h⟩, fun h => h.2⟩
  · rw [if_neg (by omega), show ((i : Int) - 1) = ((i - 1 : Nat) : Int) by omega, ext_bt (by omega) (by omega)]
    by_cases h1 : bt s ((i - 1 : Nat) : Int) > bt s (i : Int)
    · rw [if_pos h1, decide_eq_true_eq]; exact ⟨fun h => ⟨.inr h1, h⟩, fun h => h.2⟩
    · rw [if_neg h1]; exact ⟨(fun h => by cases h), fun h => h.1.elim (fun e => absurd e h0) (fun e => absurd e h1)⟩
end
/-! ## miTurnD -/
theorem miTurn_l0 (s : ByteArray) (hs : s.size ≤ 1000) : ∀ (n : Nat) (acc t : ByteArray), n ≤ s.size → acc.size ≤ 1000000 - n → L t = L acc ++ ((L s).take n).reverse →
    Ev (fun k => spec_miTurn.l0 k s acc ((n : Int) - 1)) t
  | 0, acc, t, _, _, h => by
    refine Ev.step (fun _ => spec_miTurn.l0.eq_2 ..) (Ev.neg (by omega) (Ev.eq ?_ (Ev.now _)))
    rw [List.take_zero, List.reverse_nil, List.append_nil] at h
    exact L_inj h
  | n + 1, acc, t, hn, ha, h => by
    have e1 : ((n + 1 : Nat) : Int) - 1 = (n : Int) := by omega
    refine Ev.step (fun _ => spec_miTurn.l0.eq_2 ..) ?_
    rw [e1, wsucc (m := s.size) (by omega) (by omega), Int.toNat_natCast, Int.toNat_natCast, w64 (x := (n : Int) - 1) (by omega) (by omega)]
    refine Ev.pos (by omega) (Ev.pos (by omega) (Ev.pos (by omega) (Ev.pos (by omega) (Ev.pos ?_ ?_))))
    · rw [size_ext]; omega
    · refine miTurn_l0 s hs n _ t (by omega) ?_ ?_
      · rw [size_app, size_ext]; omega
      · have hl : n < (L s).length := by rw [L_length]; omega
        rw [h, L_append, L_extract, List.take_succ_eq_append_getElem hl, List.reverse_append]
        rw [List.drop_append_of_le_length (by rw [List.length_take]; omega), List.drop_of_length_le (by rw [List.length_take]; omega)]
        simp
theorem miTurn_f (s : ByteArray) (hs : s.size ≤ 1000) : Ev (fun k => spec_miTurn.f k s) (revB s) := by
  have h := miTurn_l0 s hs s.size ⟨#[]⟩ (revB s) (Nat.le_refl _) (Nat.zero_le _) (by rw [L_revB, L_nil, List.nil_append, List.take_of_length_le (by rw [L_length]; omega)])
  show Ev (fun k => spec_miTurn.l0 k s ⟨#[]⟩ (wrap64 ((s.size : Int) - 1))) _
  rw [w64 (by omega) (by omega)]
  exact h
/-! ## miUpsD -/
theorem upV_get {l : List Int} {n : Nat} (hl : n < l.length) : ((l.take (n + 1)).reverse.map upV) = upV l[n] :: (l.take n).reverse.map upV := by
  rw [List.take_succ_eq_append_getElem hl, List.reverse_append]; rfl
theorem miUps_l0 (s : ByteArray) (hs : s.size ≤ 1000) : ∀ (n : Nat) (acc t : ByteArray), n ≤ s.size → acc.size ≤ 1000000 - n → L t = L acc ++ ((L s).take n).reverse.map upV →
    Ev (fun k => spec_miUpside.l0 k s acc ((n : Int) - 1)) (if (((L s).take n).reverse.map upV).any (fun y => (0 : Int) == y) = true then (⟨#[]⟩, false) else (t, true))
  | 0, acc, t, _, _, h => by
    refine Ev.step (fun _ => spec_miUpside.l0.eq_2 ..) (Ev.neg (by omega) ?_)
    rw [List.take_zero, List.reverse_nil, List.map_nil] at h ⊢
    rw [List.append_nil] at h
    rw [L_inj h]
    exact Ev.now _
  | n + 1, acc, t, hn, ha, h => by
    have hl : n < (L s).length := by rw [L_length]; omega
    have e1 : ((n + 1 : Nat) : Int) - 1 = (n : Int) := by omega
    have hc : bt s (n : Int) = (L s)[n] := by rw [bt_L, List.getD_eq_getElem?_getD, List.getElem?_eq_getElem hl]; rfl
    rw [upV_get hl] at h ⊢
    rw [e1, List.any_cons]
    generalize hcc : (L s)[n] = c at h hc ⊢
    refine Ev.step (fun _ => spec_miUpside.l0.eq_2 ..) (Ev.pos (by omega) (Ev.pos (by omega) (Ev.pos (by omega) ?_)))
    rw [hc]
    have app : ∀ (u : ByteArray) (v : Int), L u = [v] → u.size = 1 → upV c = v → v ≠ 0 → Ev (fun k => spec_miUpside.l0 k s (acc ++ u) (wrap64 ((n : Int) - 1))) (if ((0 : Int) == upV c || (((L s).take n).reverse.map upV).any (fun y => (0 : Int) == y)) = true then (⟨#[]⟩, false) else (t, true)) := by
      intro u v hu hz hv h0
      rw [hv] at h ⊢
      rw [beq_eq_false_iff_ne.2 (Ne.symm h0), Bool.false_or, w64 (x := (n : Int) - 1) (by omega) (by omega)]
      refine miUps_l0 s hs n _ t (by omega) (by rw [size_app, hz]; omega) ?_
      rw [h, L_append, hu, List.append_assoc]; rfl
    have same : (c = 48 ∨ c = 49 ∨ c = 56) → Ev (fun k => spec_miUpside.j1 k s acc (n : Int) c true) (if ((0 : Int) == upV c || (((L s).take n).reverse.map upV).any (fun y => (0 : Int) == y)) = true then (⟨#[]⟩, false) else (t, true)) := by
      intro hh
      refine Ev.step (fun _ => spec_miUpside.j1.eq_2 ..) (Ev.pos rfl ?_)
      rw [wsucc (m := s.size) (show n < s.size by omega) (by omega), Int.toNat_natCast, Int.toNat_natCast]
      refine Ev.pos (by omega) (Ev.pos (by omega) (Ev.pos (by omega) (Ev.pos (by rw [size_ext]; omega) (app _ c ?_ (by rw [size_ext]; omega) (by unfold upV; split <;> first | rfl | (split <;> first | rfl | (split <;> first | rfl | omega))) (by omega)))))
      rw [L_extract, List.take_succ_eq_append_getElem hl, hcc, List.drop_append_of_le_length (by rw [List.length_take]; omega), List.drop_of_length_le (by rw [List.length_take]; omega), List.nil_append]
    by_cases c1 : c = 48
    · refine Ev.pos c1 ?_
      rw [show (c == 48) = true by simpa using c1]
      exact same (.inl c1)
    · refine Ev.neg c1 ?_
      by_cases c2 : c = 49
      · refine Ev.pos c2 ?_
        rw [show (c == 49) = true by simpa using c2]
        exact same (.inr (.inl c2))
      · refine Ev.neg c2 ?_
        by_cases c3 : c = 56
        · rw [show (c == 56) = true by simpa using c3]
          exact same (.inr (.inr c3))
        · rw [show (c == 56) = false by simpa using c3]
          refine Ev.step (fun _ => spec_miUpside.j1.eq_2 ..) (Ev.neg (by decide) ?_)
          by_cases c4 : c = 54
          · exact Ev.pos c4 (Ev.pos (by omega) (app _ 57 rfl rfl (by rw [c4]; rfl) (by decide)))
          · refine Ev.neg c4 ?_
            by_cases c5 : c = 57
            · exact Ev.pos c5 (Ev.pos (by omega) (app _ 54 rfl rfl (by rw [c5]; rfl) (by decide)))
            · refine Ev.neg c5 ?_
              have h0 : upV c = 0 := by unfold upV; rw [if_neg c1, if_neg c2, if_neg c3, if_neg c4, if_neg c5]
              rw [h0]
              exact Ev.eq (by simp) (Ev.now _)
theorem upV_mem (c : Int) (h : 0 ≤ c ∧ c ≤ 255) : 0 ≤ upV c ∧ upV c ≤ 255 := by unfold upV; repeat' split <;> omega
theorem upsL_eq (s : ByteArray) : upsL s = (L s).reverse.map upV := rfl
theorem miUps_f (s : ByteArray) (hs : s.size ≤ 1000) : Ev (fun k => spec_miUpside.f k s) (upsAns s) := by
  have h := miUps_l0 s hs s.size ⟨#[]⟩ (strOfNums (upsL s)) (Nat.le_refl _) (Nat.zero_le _) (by
    rw [L_strOfNums, upsL_eq, L_nil, List.nil_append, List.take_of_length_le (by rw [L_length]; omega)]
    intro c hc
    rw [upsL_eq] at hc
    obtain ⟨x, hx, rfl⟩ := List.mem_map.1 hc
    exact upV_mem x (L_mem (List.mem_reverse.1 hx)))
  rw [List.take_of_length_le (by rw [L_length]; omega), ← upsL_eq] at h
  show Ev (fun k => spec_miUpside.l0 k s ⟨#[]⟩ (wrap64 ((s.size : Int) - 1))) _
  rw [w64 (by omega) (by omega)]
  exact h
/-! ## good128 -/
theorem good_128 {s : ByteArray} (h : (L s).all isD = true) : (s.data.toList.all fun c => decide (c.toNat < 128)) = true := by
  rw [List.all_eq_true]
  intro c hc
  have h1 : (c.toNat : Int) ∈ L s := List.mem_map_of_mem hc
  have h2 := isD_t.1 (List.all_eq_true.1 h _ h1)
  rw [decide_eq_true_eq]; omega
/-! ## miIs -/
/-! spec.miIs: of which kinds a reading is -/
theorem tl1 (c : UInt8) : (⟨#[c]⟩ : ByteArray).toList = [c] := by rw [ByteArray.toList_eq]
theorem tl1_ne {c d : UInt8} (h : c ≠ d) : ¬ (⟨#[c]⟩ : ByteArray).toList = ([d] : List UInt8) := by
  rw [tl1]; intro e; exact h (List.cons.inj e).1
theorem L_rev_get (s : ByteArray) (i : Nat) (hi : i < s.size) : (L s).reverse[i]? = some (bt s ((s.size - 1 - i : Nat) : Int)) := by
  rw [List.getElem?_reverse (by rw [L_length]; exact hi), L_length]
  exact L_get s _ (by omega)
theorem rev_map_iff (s : ByteArray) (u : Int → Int) : (L s).reverse.map u = L s ↔ ∀ i, i < s.size → u (bt s ((s.size - 1 - i : Nat) : Int)) = bt s (i : Int) := by
  constructor
  · intro h i hi
    have h1 := congrArg (fun l => l[i]?) h
    simp only [List.getElem?_map, L_rev_get s i hi, L_get s i hi, Option.map_some, Option.some.injEq] at h1
    exact h1
  · intro h
    apply List.ext_getElem?
    intro i
    by_cases hi : i < s.size
    · rw [List.getElem?_map, L_rev_get s i hi, L_get s i hi, Option.map_some, h i hi]
    · rw [List.getElem?_eq_none (by rw [List.length_map, List.length_reverse, L_length]; omega), List.getElem?_eq_none (by rw [L_length]; omega)]
section
variable {s : ByteArray} (hg : good s = true)
include hg
theorem miIs_a : Ev (fun k => spec_miIs.f k s (⟨#[97]⟩ : ByteArray)) (kindV 97 s) := by
  obtain ⟨hd, h1, h9⟩ := good_t hg
  refine Ev.pos (tl1 97) (Ev.bind (miDigits_f s (by omega) (good_128 hd)) (Ev.eq ?_ (Ev.now _)))
  rw [Bool.eq_iff_iff, kind_a, beq_iff_eq, ← cntD_one (by omega)]
  omega
theorem miIs_m : Ev (fun k => spec_miIs.f k s (⟨#[109]⟩ : ByteArray)) (kindV 109 s) := by
  obtain ⟨hd, h1, h9⟩ := good_t hg
  refine Ev.neg (tl1_ne (by decide)) (Ev.pos (tl1 109) (Ev.bind (miTurn_f s (by omega)) (Ev.eq ?_ (Ev.now _))))
  rw [Bool.eq_iff_iff, kind_m, beq_iff_eq, tl_eq]
  have := rev_map_iff s id
  rw [List.map_id] at this
  constructor
  · intro h; exact L_inj (by rw [L_revB]; exact this.2 h)
  · intro h; exact this.1 (by rw [← L_revB, h])
theorem miIs_u : Ev (fun k => spec_miIs.f k s (⟨#[117]⟩ : ByteArray)) (kindV 117 s) := by
  obtain ⟨hd, h1, h9⟩ := good_t hg
  refine Ev.neg (tl1_ne (by decide)) (Ev.neg (tl1_ne (by decide)) (Ev.pos (tl1 117) (Ev.bind (miUps_f s (by omega)) ?_)))
  have hrm := rev_map_iff s upV
  have hmem : ∀ x, x ∈ upsL s ↔ ∃ i, i < s.size ∧ upV (bt s (i : Int)) = x := by
    intro x
    unfold upsL
    rw [List.mem_map]
    constructor
    · rintro ⟨y, hy, rfl⟩
      obtain ⟨i, hi, rfl⟩ := List.getElem_of_mem (List.mem_reverse.1 hy)
      rw [L_length] at hi
      refine ⟨i, hi, ?_⟩
      have := L_get s i hi
      rw [List.getElem?_eq_getElem (by rw [L_length]; exact hi)] at this
      rw [Option.some.inj this]
    · rintro ⟨i, hi, rfl⟩
      exact ⟨_, List.mem_reverse.2 (List.mem_of_getElem? (L_get s i hi)), rfl⟩
  have hbyte : ∀ c ∈ upsL s, 0 ≤ c ∧ c ≤ 255 := by
    intro c hc
    obtain ⟨i, hi, rfl⟩ := (hmem c).1 hc
    exact upV_mem _ ⟨bt_lo _ _, bt_hi _ _⟩
  unfold upsAns
  by_cases h0 : (upsL s).any (fun y => (0 : Int) == y) = true
  · rw [if_pos h0]
    refine Ev.neg (by decide) (Ev.eq ?_ (Ev.now _))
    rw [Bool.eq_false_iff]
    intro hk
    rw [kind_u hg] at hk
    obtain ⟨y, hy, hy0⟩ := List.any_eq_true.1 h0
    obtain ⟨i, hi, e⟩ := (hmem y).1 hy
    exact (hk i hi).1 (by rw [e]; exact (beq_iff_eq.1 hy0).symm)
  · rw [if_neg h0]
    refine Ev.pos rfl (Ev.eq ?_ (Ev.now _))
    have hnz : ∀ i, i < s.size → upV (bt s (i : Int)) ≠ 0 := by
      intro i hi e
      exact h0 (List.any_eq_true.2 ⟨_, (hmem _).2 ⟨i, hi, rfl⟩, by rw [e]; rfl⟩)
    rw [Bool.eq_iff_iff, kind_u hg, beq_iff_eq, tl_eq]
    have hLs : (strOfNums (upsL s) = s) ↔ upsL s = L s := by
      constructor
      · intro h
        have := L_strOfNums (upsL s) hbyte
        rw [h] at this; exact this.symm
      · intro h; exact L_inj (by rw [L_strOfNums _ hbyte, h])
    rw [hLs, upsL_eq, hrm]
    constructor
    · intro h i hi
      have h2 := (h (s.size - 1 - i) (by omega)).2
      rw [show s.size - 1 - (s.size - 1 - i) = i by omega] at h2
      exact h2.symm
    · intro h i hi
      refine ⟨hnz i hi, ?_⟩
      have h2 := h (s.size - 1 - i) (by omega)
      rw [show s.size - 1 - (s.size - 1 - i) = i by omega] at h2
      exact h2.symm
theorem miIs_d : Ev (fun k => spec_miIs.f k s (⟨#[100]⟩ : ByteArray)) (kindV 100 s) := by
  obtain ⟨hd, h1, h9⟩ := good_t hg
  refine Ev.neg (tl1_ne (by decide)) (Ev.neg (tl1_ne (by decide)) (Ev.neg (tl1_ne (by decide)) (Ev.pos (tl1 100) (Ev.bind (miDigits_f s (by omega) (good_128 hd)) (Ev.eq ?_ (Ev.now _))))))
  rw [Bool.eq_iff_iff, kind_d (by decide), beq_iff_eq, ← cntD_all]
  omega
theorem miIs_l0r : ∀ e i : Nat, i + e = s.size → 1 ≤ i → Ev (fun k => spec_miIs.l0 k s (⟨#[114]⟩ : ByteArray) (i : Int)) ((List.range' i e).all (fun j => decide (bt s ((j - 1 : Nat) : Int) < bt s (j : Int))))
  | 0, i, h, _ => Ev.step (fun _ => spec_miIs.l0.eq_2 ..) (Ev.neg (by omega) (Ev.now _))
  | e + 1, i, h, h1 => by
    have ih := miIs_l0r e (i + 1) (by omega) (by omega)
    have h9 := (good_t hg).2.2
    refine Ev.step (fun _ => spec_miIs.l0.eq_2 ..) (Ev.pos (by omega) (Ev.pos (tl1 114) (Ev.pos (by omega) ?_)))
    rw [w64 (x := (i : Int) - 1) (by omega) (by omega), show (i : Int) - 1 = ((i - 1 : Nat) : Int) by omega, wsucc (m := 10) (by omega) (by omega), List.range'_succ, List.all_cons]
    refine Ev.pos (by omega) (Ev.pos (by omega) ?_)
    by_cases c : bt s (i : Int) ≤ bt s ((i - 1 : Nat) : Int)
    · refine Ev.pos c (Ev.eq ?_ (Ev.now _))
      rw [decide_eq_false (by omega), Bool.false_and]
    · refine Ev.neg c (Ev.neg (tl1_ne (by decide)) ?_)
      rw [decide_eq_true (by omega), Bool.true_and]
      exact ih
theorem miIs_r : Ev (fun k => spec_miIs.f k s (⟨#[114]⟩ : ByteArray)) (kindV 114 s) := by
  obtain ⟨hd, h1, h9⟩ := good_t hg
  refine Ev.neg (tl1_ne (by decide)) (Ev.neg (tl1_ne (by decide)) (Ev.neg (tl1_ne (by decide)) (Ev.neg (tl1_ne (by decide)) (Ev.eq ?_ (miIs_l0r hg (s.size - 1) 1 (by omega) (by omega))))))
  rw [Bool.eq_iff_iff, kind_r hg, List.all_eq_true]
  exact ⟨fun h j hj => decide_eq_true (by have := List.mem_range'_1.1 hj; exact h j (by omega) (by omega)), fun h i h1 h2 => of_decide_eq_true (h i (List.mem_range'_1.2 ⟨by omega, by omega⟩))⟩
theorem miIs_l0f : ∀ e i : Nat, i + e = s.size → 1 ≤ i → Ev (fun k => spec_miIs.l0 k s (⟨#[102]⟩ : ByteArray) (i : Int)) ((List.range' i e).all (fun j => decide (bt s ((j - 1 : Nat) : Int) > bt s (j : Int))))
  | 0, i, h, _ => Ev.step (fun _ => spec_miIs.l0.eq_2 ..) (Ev.neg (by omega) (Ev.now _))
  | e + 1, i, h, h1 => by
    have ih := miIs_l0f e (i + 1) (by omega) (by omega)
    have h9 := (good_t hg).2.2
    refine Ev.step (fun _ => spec_miIs.l0.eq_2 ..) (Ev.pos (by omega) (Ev.neg (tl1_ne (by decide)) (Ev.pos (tl1 102) (Ev.pos (by omega) ?_))))
    rw [w64 (x := (i : Int) - 1) (by omega) (by omega), show (i : Int) - 1 = ((i - 1 : Nat) : Int) by omega, wsucc (m := 10) (by omega) (by omega), List.range'_succ, List.all_cons]
    refine Ev.pos (by omega) (Ev.pos (by omega) ?_)
    by_cases c : bt s (i : Int) ≥ bt s ((i - 1 : Nat) : Int)
    · refine Ev.pos c (Ev.eq ?_ (Ev.now _))
      rw [decide_eq_false (by omega), Bool.false_and]
    · refine Ev.neg c ?_
      rw [decide_eq_true (by omega), Bool.true_and]
      exact ih
theorem miIs_f : Ev (fun k => spec_miIs.f k s (⟨#[102]⟩ : ByteArray)) (kindV 102 s) := by
  obtain ⟨hd, h1, h9⟩ := good_t hg
  refine Ev.neg (tl1_ne (by decide)) (Ev.neg (tl1_ne (by decide)) (Ev.neg (tl1_ne (by decide)) (Ev.neg (tl1_ne (by decide)) (Ev.eq ?_ (miIs_l0f hg (s.size - 1) 1 (by omega) (by omega))))))
  rw [Bool.eq_iff_iff, kind_f hg, List.all_eq_true]
  exact ⟨fun h j hj => decide_eq_true (by have := List.mem_range'_1.1 hj; exact h j (by omega) (by omega)), fun h i h1 h2 => of_decide_eq_true (h i (List.mem_range'_1.2 ⟨by omega, by omega⟩))⟩
end
/-! ## num -/
/-- Ten to a power. -/
def p10 (n : Nat) : Int := 10 ^ n
theorem p10_succ (n : Nat) : p10 (n + 1) = 10 * p10 n := by unfold p10; rw [Int.pow_succ, Int.mul_comm]
theorem p10_pos (n : Nat) : 1 ≤ p10 n := by
  induction n with
  | zero => decide
  | succ n ih => rw [p10_succ]; omega
theorem p10_mono {n m : Nat} (h : n ≤ m) : p10 n ≤ p10 m := by
  obtain ⟨d, rfl⟩ : ∃ d, m = n + d := ⟨m - n, by omega⟩
  clear h
  induction d with
  | zero => exact Int.le_refl _
  | succ d ih => rw [← Nat.add_assoc, p10_succ]; have := p10_pos (n + d); omega
theorem p10_9 {n : Nat} (h : n ≤ 9) : p10 n ≤ 1000000000 := p10_mono h
/-- The number that digits tell, behind what stands before them. -/
def numF (a : Int) (l : List Int) : Int := l.foldl (fun n c => 10 * n + (c - 48)) a
theorem numF_cons (a c : Int) (l : List Int) : numF a (c :: l) = numF (10 * a + (c - 48)) l := rfl
theorem numF_bd : ∀ (l : List Int) (a : Int), l.all isD = true → 0 ≤ a → a * p10 l.length ≤ numF a l ∧ numF a l < (a + 1) * p10 l.length
  | [], a, _, h => by simp [numF, p10]; omega
  | c :: l, a, hl, h => by
    rw [List.all_cons, Bool.and_eq_true] at hl
    have hc := isD_t.1 hl.1
    have ih := numF_bd l (10 * a + (c - 48)) hl.2 (by omega)
    have hp := p10_pos l.length
    rw [numF_cons, List.length_cons, p10_succ]
    have e1 : a * (10 * p10 l.length) ≤ (10 * a + (c - 48)) * p10 l.length := by
      rw [← Int.mul_assoc]; exact Int.mul_le_mul_of_nonneg_right (by omega) (by omega)
    have e2 : (10 * a + (c - 48) + 1) * p10 l.length ≤ (a + 1) * (10 * p10 l.length) := by
      rw [← Int.mul_assoc]; exact Int.mul_le_mul_of_nonneg_right (by omega) (by omega)
    omega
/-- A number with room for so many digits behind it. -/
theorem num_step {a c : Int} {n : Nat} (ha : 0 ≤ a) (hc : 48 ≤ c ∧ c ≤ 57) (h : (a + 1) * p10 (n + 1) ≤ 1000000000000000000) : 0 ≤ 10 * a + (c - 48) ∧ (10 * a + (c - 48) + 1) * p10 n ≤ 1000000000000000000 ∧ 10 * a + (c - 48) ≤ 1000000000000000000 := by
  have hp := p10_pos n
  rw [p10_succ, ← Int.mul_assoc] at h
  have e2 : (10 * a + (c - 48) + 1) * p10 n ≤ (a + 1) * 10 * p10 n := Int.mul_le_mul_of_nonneg_right (by omega) (by omega)
  have e3 : (10 * a + (c - 48) + 1) * 1 ≤ (10 * a + (c - 48) + 1) * p10 n := Int.mul_le_mul_of_nonneg_left hp (by omega)
  omega
/-! ## dec -/
/-- The decimal digits of a number, as bytes told as numbers. -/
def Dg (n : Nat) : List Int := (Go.Lib.decDigits n).map (fun c => (c.toNat : Int))
theorem u8n {n : Nat} (h : n < 256) : (((UInt8.ofNat n).toNat : Nat) : Int) = (n : Int) := by
  rw [UInt8.toNat_ofNat', Nat.mod_eq_of_lt (by omega)]
theorem Dg_small {n : Nat} (h : n < 10) : Dg n = [48 + (n : Int)] := by
  unfold Dg
  rw [Go.Lib.decDigits, dif_pos h, List.map_cons, List.map_nil, u8n (by omega)]
  rfl
theorem Dg_big {n : Nat} (h : 10 ≤ n) : Dg n = Dg (n / 10) ++ [48 + ((n % 10 : Nat) : Int)] := by
  unfold Dg
  conv => lhs; rw [Go.Lib.decDigits, dif_neg (by omega)]
  rw [List.map_append, List.map_cons, List.map_nil, u8n (by omega)]
  rfl
theorem L_itoa (n : Nat) : L (⟨(Go.Lib.itoa (n : Int)).toArray⟩ : ByteArray) = Dg n := by
  unfold L Dg Go.Lib.itoa
  rw [if_neg (by omega), Int.toNat_natCast]
theorem L_dec (n : Nat) : L (⟨(Go.Lib.decDigits n).toArray⟩ : ByteArray) = Dg n := rfl
theorem Dg_dig : ∀ b n : Nat, n ≤ b → (Dg n).all isD = true
  | 0, n, h => by
    rw [Dg_small (by omega)]
    simp [isD]; omega
  | b + 1, n, h => by
    by_cases hn : n < 10
    · rw [Dg_small hn]
      simp [isD]; omega
    · rw [Dg_big (by omega), List.all_append, Dg_dig b (n / 10) (by omega)]
      simp [isD]; omega
theorem Dg_isD (n : Nat) : (Dg n).all isD = true := Dg_dig n n (Nat.le_refl _)
theorem Dg_pos : ∀ n : Nat, 1 ≤ (Dg n).length := by
  intro n
  by_cases hn : n < 10
  · rw [Dg_small hn]; simp
  · rw [Dg_big (by omega)]; simp
theorem numF_app (a : Int) (l m : List Int) : numF a (l ++ m) = numF (numF a l) m := by unfold numF; rw [List.foldl_append]
theorem Dg_num : ∀ b n : Nat, n ≤ b → numF 0 (Dg n) = n
  | 0, n, h => by
    rw [Dg_small (by omega)]
    simp [numF]; omega
  | b + 1, n, h => by
    by_cases hn : n < 10
    · rw [Dg_small hn]
      simp [numF]; omega
    · rw [Dg_big (by omega), numF_app, Dg_num b (n / 10) (by omega)]
      simp [numF]; omega
theorem num_Dg (n : Nat) : numF 0 (Dg n) = n := Dg_num n n (Nat.le_refl _)
/-- The last k digits of a number, zeros in front. -/
def TD : Nat → Nat → List Int
  | 0, _ => []
  | k + 1, n => TD k (n / 10) ++ [48 + ((n % 10 : Nat) : Int)]
theorem TD_len : ∀ k n, (TD k n).length = k
  | 0, _ => rfl
  | k + 1, n => by rw [TD, List.length_append, TD_len k]; rfl
theorem TD_dig : ∀ k n, (TD k n).all isD = true
  | 0, _ => rfl
  | k + 1, n => by
    rw [TD, List.all_append, TD_dig k]
    simp [isD]; omega
theorem TD_num : ∀ k n : Nat, n < 10 ^ k → numF 0 (TD k n) = n
  | 0, n, h => by
    simp at h
    subst h
    rfl
  | k + 1, n, h => by
    rw [Nat.pow_succ] at h
    rw [TD, numF_app, TD_num k (n / 10) (by omega)]
    simp [numF]; omega
theorem TD_Dg : ∀ k n : Nat, n < 10 ^ (k + 1) → (Dg n).length ≤ k + 1 ∧ TD (k + 1) n = List.replicate (k + 1 - (Dg n).length) 48 ++ Dg n
  | 0, n, h => by
    have hn : n < 10 := by simpa using h
    rw [Dg_small hn]
    refine ⟨by simp, ?_⟩
    rw [TD, TD, Nat.mod_eq_of_lt hn]
    simp
  | k + 1, n, h => by
    rw [Nat.pow_succ] at h
    obtain ⟨h1, h2⟩ := TD_Dg k (n / 10) (by omega)
    rw [TD, h2]
    by_cases hn : n < 10
    · have h0 : n / 10 = 0 := by omega
      rw [h0, Dg_small hn, Dg_small (by omega), Nat.mod_eq_of_lt hn]
      refine ⟨by simp, ?_⟩
      simp only [List.length_singleton, Nat.add_sub_cancel]
      rw [List.replicate_succ']
      simp
    · rw [Dg_big (n := n) (by omega), List.length_append, List.length_singleton]
      refine ⟨by omega, ?_⟩
      rw [show k + 1 + 1 - ((Dg (n / 10)).length + 1) = k + 1 - (Dg (n / 10)).length by omega, List.append_assoc]
/-- Ten to a power in both kinds of numbers. -/
theorem p10_nat (k : Nat) : p10 k = ((10 ^ k : Nat) : Int) := by unfold p10; exact (Int.natCast_pow 10 k).symm
/-! ## ts -/
/-- The text of so many digits with a number. -/
def TS (k n : Nat) : ByteArray := strOfNums (TD k n)
theorem TD_byte (k n : Nat) : ∀ c ∈ TD k n, 0 ≤ c ∧ c ≤ 255 := by
  intro c hc
  have := isD_t.1 (List.all_eq_true.1 (TD_dig k n) c hc)
  omega
theorem L_TS (k n : Nat) : L (TS k n) = TD k n := L_strOfNums _ (TD_byte k n)
theorem TS_size (k n : Nat) : (TS k n).size = k := by rw [size_L, L_TS, TD_len]
/-! ## tdnum -/
theorem TD_numF : ∀ (k : Nat) (l : List Int), l.length = k → l.all isD = true → TD k (numF 0 l).toNat = l
  | 0, l, h, _ => by
    obtain rfl : l = [] := List.length_eq_zero_iff.1 h
    rfl
  | k + 1, l, h, hd => by
    obtain ⟨l', c, rfl⟩ : ∃ l' c, l = l' ++ [c] := ⟨l.dropLast, l.getLast (by intro e; simp [e] at h), (List.dropLast_concat_getLast _).symm⟩
    rw [List.all_append, Bool.and_eq_true] at hd
    have hc : isD c = true := by simpa using hd.2
    have hc' := isD_t.1 hc
    have hb := (numF_bd l' 0 hd.1 (by omega)).1
    have ih := TD_numF k l' (by simpa using h) hd.1
    have e : numF 0 (l' ++ [c]) = 10 * numF 0 l' + (c - 48) := by rw [numF_app]; rfl
    rw [Int.zero_mul] at hb
    rw [e, TD, show (10 * numF 0 l' + (c - 48)).toNat / 10 = (numF 0 l').toNat by omega, ih, show ((((10 * numF 0 l' + (c - 48)).toNat % 10 : Nat) : Int)) = c - 48 by omega]
    congr 2
    omega
theorem num_lt {l : List Int} (hd : l.all isD = true) : 0 ≤ numF 0 l ∧ (numF 0 l).toNat < 10 ^ l.length ∧ numF 0 l < p10 l.length := by
  obtain ⟨h1, h2⟩ := numF_bd l 0 hd (by omega)
  rw [Int.zero_mul] at h1
  rw [show ((0 : Int) + 1) * p10 l.length = p10 l.length by rw [Int.zero_add, Int.one_mul]] at h2
  refine ⟨h1, ?_, h2⟩
  rw [p10_nat] at h2
  omega
/-! ## tsd -/
/-! digits of texts told by numbers -/
theorem TD_get : ∀ (k n j : Nat), j < k → (TD k n)[j]? = some (48 + ((n / 10 ^ (k - 1 - j) % 10 : Nat) : Int))
  | 0, n, j, h => by omega
  | k + 1, n, j, h => by
    rw [TD]
    by_cases e : j = k
    · subst e
      rw [List.getElem?_append_right (by rw [TD_len]; omega), TD_len, Nat.sub_self, show j + 1 - 1 - j = 0 by omega, Nat.pow_zero, Nat.div_one]
      rfl
    · rw [List.getElem?_append_left (by rw [TD_len]; omega), TD_get k (n / 10) j (by omega), Nat.div_div_eq_div_mul, show k + 1 - 1 - j = k - 1 - j + 1 by omega, Nat.pow_succ, Nat.mul_comm 10]
theorem bt_TS {k n j : Nat} (h : j < k) : bt (TS k n) (j : Int) = 48 + ((n / 10 ^ (k - 1 - j) % 10 : Nat) : Int) := by
  have h1 := L_get (TS k n) j (by rw [TS_size]; exact h)
  rw [L_TS, TD_get k n j h] at h1
  exact (Option.some.inj h1).symm
theorem TS_snoc {j v c : Nat} (h : c < 10) : TS j v ++ strOfNums [48 + (c : Int)] = TS (j + 1) (10 * v + c) := by
  apply L_inj
  rw [L_append, L_TS, L_TS, L_strOfNums _ (by intro x hx; rw [List.mem_singleton] at hx; omega), TD, show (10 * v + c) / 10 = v by omega, show (10 * v + c) % 10 = c by omega]
theorem TS_ext (n x i : Nat) (h : i ≤ n) : (TS n x).extract 0 i = TS i (x / 10 ^ (n - i)) := by
  apply L_inj
  rw [L_extract, L_TS, L_TS, List.drop_zero]
  apply List.ext_getElem?
  intro j
  rw [List.getElem?_take]
  by_cases hj : j < i
  · rw [if_pos hj, TD_get n x j (by omega), TD_get i _ j hj, Nat.div_div_eq_div_mul, ← Nat.pow_add, show n - i + (i - 1 - j) = n - 1 - j by omega]
  · rw [if_neg hj, List.getElem?_eq_none (by rw [TD_len]; omega)]
theorem TS_inj {n x y : Nat} (hx : x < 10 ^ n) (hy : y < 10 ^ n) (h : TS n x = TS n y) : x = y := by
  have h1 := congrArg (fun s => numF 0 (L s)) h
  simp only [L_TS] at h1
  rw [TD_num n x hx, TD_num n y hy] at h1
  omega
/-- A reading is the text of its number. -/
theorem TS_of {s : ByteArray} (hd : (L s).all isD = true) : s = TS s.size (numF 0 (L s)).toNat := by
  apply L_inj
  rw [L_TS, TD_numF s.size (L s) (L_length s) hd]
/-- Ranges of numbers that begin with the same digits. -/
theorem in_pre {x v p : Nat} (hp : 0 < p) : x / p = v ↔ v * p ≤ x ∧ x < (v + 1) * p := by
  rw [Nat.div_eq_iff hp]
  have : (v + 1) * p = v * p + p := by rw [Nat.add_mul, Nat.one_mul]
  omega
/-! ## within -/
theorem within_f (a b c : Int) : impl_within.f a b c = some (decide (b ≤ a) && decide (a ≤ c)) := by
  unfold impl_within.f; by_cases h : b ≤ a <;> simp [h]
/-! ## miCan -/
/-! spec.miCan -/
theorem L_one (s : ByteArray) (i : Nat) (h : i < s.size) : L (s.extract i (i + 1)) = [bt s (i : Int)] := by
  rw [L_extract, List.take_succ_eq_append_getElem (by rw [L_length]; exact h), List.drop_append_of_le_length (by rw [List.length_take, L_length]; omega), List.drop_of_length_le (by rw [List.length_take]; omega), List.nil_append]
  have := L_get s i h
  rw [List.getElem?_eq_getElem (by rw [L_length]; exact h)] at this
  rw [Option.some.inj this]
theorem one_eq {s t : ByteArray} {c d : Int} (hs : L s = [c]) (ht : L t = [d]) : s.toList = t.toList ↔ c = d := by
  rw [tl_eq]
  constructor
  · intro h; rw [h, ht] at hs; exact (List.cons.inj hs).1.symm
  · intro h; exact L_inj (by rw [hs, ht, h])
/-- What stands across from place i is u of it, as far as it is told. -/
def acrossB (s : ByteArray) (n : Int) (u : Int → Int) (i : Nat) : Bool := if n - 1 - (i : Int) < (s.size : Int) then decide (bt s (n - 1 - (i : Int)) = u (bt s (i : Int))) else true
def canU (s : ByteArray) (n : Int) (i : Nat) : Bool := decide (upV (bt s (i : Int)) ≠ 0) && (!(decide (2 * (i : Int) + 1 = n) && decide (upV (bt s (i : Int)) ≠ bt s (i : Int))) && acrossB s n upV i)
section
variable {s : ByteArray} {n : Int} (hs : s.size < 9) (hn : (s.size : Int) < n ∧ n ≤ 9)
include hs hn
theorem miCan_l0m : ∀ e i : Nat, i + e = s.size → Ev (fun k => spec_miCan.l0 k n s (⟨#[109]⟩ : ByteArray) (s.size : Int) (i : Int)) ((List.range' i e).all (acrossB s n id))
  | 0, i, h => Ev.step (fun _ => spec_miCan.l0.eq_2 ..) (Ev.neg (by omega) (Ev.now _))
  | e + 1, i, h => by
    have ih := miCan_l0m e (i + 1) (by omega)
    refine Ev.step (fun _ => spec_miCan.l0.eq_2 ..) (Ev.pos (by omega) ?_)
    rw [wsucc (m := 10) (by omega) (by omega), w64 (x := n - 1) (by omega) (by omega), w64 (x := n - 1 - (i : Int)) (by omega) (by omega), w64 (x := n - 1 - (i : Int) + 1) (by omega) (by omega), List.range'_succ, List.all_cons, Int.toNat_natCast, Int.toNat_natCast]
    refine Ev.pos (by omega) (Ev.pos (by omega) (Ev.pos (by omega) (Ev.neg (tl1_ne (by decide)) ?_)))
    unfold acrossB
    by_cases c : n - 1 - (i : Int) < (s.size : Int)
    · rw [if_pos c]
      obtain ⟨j, hj⟩ : ∃ j : Nat, n - 1 - (i : Int) = (j : Int) := ⟨(n - 1 - (i : Int)).toNat, by omega⟩
      rw [hj] at c ⊢
      rw [show (j : Int) + 1 = ((j + 1 : Nat) : Int) by omega, Int.toNat_natCast, Int.toNat_natCast]
      refine Ev.pos c (Ev.pos (by omega) (Ev.pos (by omega) (Ev.pos (by omega) ?_)))
      have h1 := one_eq (L_one s j (by omega)) (L_one s i (by omega))
      by_cases c2 : bt s (j : Int) = bt s (i : Int)
      · rw [decide_eq_true (show bt s (j : Int) = id (bt s (i : Int)) from c2), Bool.true_and]
        exact Ev.pos (h1.2 c2) ih
      · rw [decide_eq_false (show ¬ bt s (j : Int) = id (bt s (i : Int)) from c2), Bool.false_and]
        exact Ev.neg (fun h => c2 (h1.1 h)) (Ev.now _)
    · rw [if_neg c, Bool.true_and]
      exact Ev.neg c ih
theorem miCan_l0u : ∀ e i : Nat, i + e = s.size → Ev (fun k => spec_miCan.l0 k n s (⟨#[117]⟩ : ByteArray) (s.size : Int) (i : Int)) ((List.range' i e).all (canU s n))
  | 0, i, h => Ev.step (fun _ => spec_miCan.l0.eq_2 ..) (Ev.neg (by omega) (Ev.now _))
  | e + 1, i, h => by
    have ih := miCan_l0u e (i + 1) (by omega)
    refine Ev.step (fun _ => spec_miCan.l0.eq_2 ..) (Ev.pos (by omega) ?_)
    rw [wsucc (m := 10) (by omega) (by omega), w64 (x := 2 * (i : Int)) (by omega) (by omega), w64 (x := 2 * (i : Int) + 1) (by omega) (by omega), List.range'_succ, List.all_cons, Int.toNat_natCast, Int.toNat_natCast]
    have hL := L_one s i (by omega)
    have hz : (s.extract i (i + 1)).size = 1 := by rw [size_ext]; omega
    have hb := bt_lo s (i : Int)
    have hb2 := bt_hi s (i : Int)
    have hub := upV_mem (bt s (i : Int)) ⟨hb, hb2⟩
    have hup : upsL (s.extract i (i + 1)) = [upV (bt s (i : Int))] := by unfold upsL; rw [hL]; rfl
    refine Ev.pos (by omega) (Ev.pos (by omega) (Ev.pos (by omega) (Ev.pos (tl1 117) (Ev.bind (miUps_f (s.extract i (i + 1)) (by omega)) ?_))))
    unfold upsAns
    rw [hup]
    unfold canU
    by_cases c0 : upV (bt s (i : Int)) = 0
    · rw [if_pos (by rw [c0]; rfl), decide_eq_false (by simpa using c0), Bool.false_and, Bool.false_and]
      exact Ev.neg (by decide) (Ev.step (fun _ => spec_miCan.j1.eq_2 ..) (Ev.pos rfl (Ev.now _)))
    · rw [if_neg (by simpa using fun h => c0 h.symm), decide_eq_true c0, Bool.true_and]
      have hLu : L (strOfNums [upV (bt s (i : Int))]) = [upV (bt s (i : Int))] := L_strOfNums _ (by intro c hc; rw [List.mem_singleton] at hc; rw [hc]; exact hub)
      have hj1 : ∀ q : Bool, q = (decide (2 * (i : Int) + 1 = n) && decide (upV (bt s (i : Int)) ≠ bt s (i : Int))) → Ev (fun k => spec_miCan.j1 k n s (⟨#[117]⟩ : ByteArray) (s.size : Int) (i : Int) (strOfNums [upV (bt s (i : Int))]) q) ((!(decide (2 * (i : Int) + 1 = n) && decide (upV (bt s (i : Int)) ≠ bt s (i : Int))) && acrossB s n upV i) && (List.range' (i + 1) e).all (canU s n)) := by
        intro q hq
        rw [← hq]
        refine Ev.step (fun _ => spec_miCan.j1.eq_2 ..) ?_
        cases q with
        | true => exact Ev.pos rfl (Ev.now _)
        | false =>
          refine Ev.neg (by decide) ?_
          rw [Bool.not_false, Bool.true_and, w64 (x := n - 1) (by omega) (by omega), w64 (x := n - 1 - (i : Int)) (by omega) (by omega), w64 (x := n - 1 - (i : Int) + 1) (by omega) (by omega), wsucc (m := 10) (by omega) (by omega)]
          unfold acrossB
          by_cases c : n - 1 - (i : Int) < (s.size : Int)
          · rw [if_pos c]
            obtain ⟨j, hj⟩ : ∃ j : Nat, n - 1 - (i : Int) = (j : Int) := ⟨(n - 1 - (i : Int)).toNat, by omega⟩
            rw [hj] at c ⊢
            rw [show (j : Int) + 1 = ((j + 1 : Nat) : Int) by omega, Int.toNat_natCast, Int.toNat_natCast]
            refine Ev.pos c (Ev.pos (by omega) (Ev.pos (by omega) (Ev.pos (by omega) ?_)))
            have h1 := one_eq (L_one s j (by omega)) hLu
            by_cases c2 : bt s (j : Int) = upV (bt s (i : Int))
            · rw [decide_eq_true c2, Bool.true_and]
              exact Ev.pos (h1.2 c2) ih
            · rw [decide_eq_false c2, Bool.false_and]
              exact Ev.neg (fun h => c2 (h1.1 h)) (Ev.now _)
          · rw [if_neg c, Bool.true_and]
            exact Ev.neg c ih
      refine Ev.pos rfl ?_
      by_cases c1 : 2 * (i : Int) + 1 = n
      · refine Ev.pos c1 (hj1 _ ?_)
        rw [decide_eq_true c1, Bool.true_and]
        have h1 := one_eq hLu hL
        by_cases c2 : upV (bt s (i : Int)) = bt s (i : Int)
        · rw [decide_eq_false (by simpa using c2), h1.2 c2]; simp
        · rw [decide_eq_true c2, bne_iff_ne]; exact fun h => c2 (h1.1 h)
      · refine Ev.neg c1 (hj1 _ ?_)
        rw [decide_eq_false c1, Bool.false_and]
end
/-! ## bless -/
/-! texts of digits, compared as texts, are compared as numbers -/
theorem bless_snoc : ∀ (a b : List UInt8) (x y : UInt8), a.length = b.length → Op.bytesLess (a ++ [x]) (b ++ [y]) = (Op.bytesLess a b || (a == b && decide (x < y)))
  | [], [], x, y, _ => by simp [Op.bytesLess]
  | [], _ :: _, _, _, h => by simp at h
  | _ :: _, [], _, _, h => by simp at h
  | c :: a, d :: b, x, y, h => by
    have ih := bless_snoc a b x y (by simpa using h)
    by_cases e : c = d
    · subst e
      simp [Op.bytesLess, ih, UInt8.lt_irrefl]
    · have e' : (c == d) = false := beq_eq_false_iff_ne.2 e
      simp [Op.bytesLess, e']
theorem bless_TS : ∀ (k a b : Nat), a < 10 ^ k → b < 10 ^ k → Op.bytesLess (TS k a).toList (TS k b).toList = decide (a < b)
  | 0, a, b, ha, hb => by
    simp at ha hb
    subst ha; subst hb
    have e : (TS 0 0).toList = [] := by rw [ByteArray.toList_eq]; rfl
    rw [e]; rfl
  | k + 1, a, b, ha, hb => by
    rw [Nat.pow_succ] at ha hb
    have ih := bless_TS k (a / 10) (b / 10) (by omega) (by omega)
    have sp : ∀ n, (TS (k + 1) n).toList = (TS k (n / 10)).toList ++ [UInt8.ofNat (48 + n % 10)] := by
      intro n
      rw [ByteArray.toList_eq, ByteArray.toList_eq]
      apply map_toNat_inj
      have h1 : L (TS (k + 1) n) = L (TS k (n / 10)) ++ [48 + ((n % 10 : Nat) : Int)] := by rw [L_TS, L_TS]; rfl
      unfold L at h1
      rw [h1, List.map_append, List.map_cons, List.map_nil, u8n (by omega)]
      congr 1
    have hl : (TS k (a / 10)).toList.length = (TS k (b / 10)).toList.length := by
      rw [ByteArray.toList_eq, ByteArray.toList_eq]
      have h1 := TS_size k (a / 10)
      have h2 := TS_size k (b / 10)
      rw [size_L] at h1 h2
      unfold L at h1 h2
      rw [List.length_map] at h1 h2
      omega
    have heq : ((TS k (a / 10)).toList == (TS k (b / 10)).toList) = decide (a / 10 = b / 10) := by
      by_cases e : a / 10 = b / 10
      · rw [e]; simp
      · rw [decide_eq_false e, beq_eq_false_iff_ne]
        intro h
        exact e (TS_inj (by omega) (by omega) (tl_eq.1 h))
    have hlt : decide (UInt8.ofNat (48 + a % 10) < UInt8.ofNat (48 + b % 10)) = decide (a % 10 < b % 10) := by
      congr 1
      rw [UInt8.lt_iff_toNat_lt, UInt8.toNat_ofNat', UInt8.toNat_ofNat', Nat.mod_eq_of_lt (show 48 + a % 10 < 2 ^ 8 by omega), Nat.mod_eq_of_lt (show 48 + b % 10 < 2 ^ 8 by omega)]
      exact propext ⟨fun h => by omega, fun h => by omega⟩
    rw [sp, sp, bless_snoc _ _ _ _ hl, ih, heq, hlt, Bool.eq_iff_iff, Bool.or_eq_true, Bool.and_eq_true, decide_eq_true_eq, decide_eq_true_eq, decide_eq_true_eq, decide_eq_true_eq]
    omega
/-! ## full -/
/-! the least number of a range that has a property -/
def leastIn (P : Nat → Bool) (a b : Nat) : Option Nat := (List.range' a (b - a)).find? P
theorem leastIn_none {P : Nat → Bool} {a b : Nat} : leastIn P a b = none ↔ ∀ x, a ≤ x → x < b → P x = false := by
  unfold leastIn
  rw [List.find?_eq_none]
  constructor
  · intro h x h1 h2
    have := h x (List.mem_range'_1.2 ⟨h1, by omega⟩)
    simpa using this
  · intro h x hx
    have := List.mem_range'_1.1 hx
    simp [h x this.1 (by omega)]
theorem leastIn_some {P : Nat → Bool} {a b x : Nat} : leastIn P a b = some x ↔ (a ≤ x ∧ x < b) ∧ P x = true ∧ ∀ y, a ≤ y → y < x → P y = false := by
  constructor
  · intro h
    have hP := List.find?_some h
    have hm := List.mem_range'_1.1 (List.mem_of_find?_eq_some h)
    refine ⟨⟨hm.1, by omega⟩, hP, fun y h1 h2 => ?_⟩
    have h3 := List.find?_eq_some_iff_getElem.1 h
    obtain ⟨_, i, hi, hx, hall⟩ := h3
    simp only [List.getElem_range'] at hx
    have h4 := hall (y - a) (by omega)
    simp only [List.getElem_range', Bool.not_eq_true', Nat.one_mul] at h4
    rw [show a + (y - a) = y by omega] at h4
    exact h4
  · intro ⟨⟨h1, h2⟩, h3, h4⟩
    cases h : leastIn P a b with
    | none => rw [leastIn_none] at h; rw [h x h1 h2] at h3; cases h3
    | some z =>
      have hP := List.find?_some h
      have hm := List.mem_range'_1.1 (List.mem_of_find?_eq_some h)
      have hz : ∀ y, a ≤ y → y < z → P y = false := by
        intro y k1 k2
        obtain ⟨_, i, hi, hx, hall⟩ := List.find?_eq_some_iff_getElem.1 h
        simp only [List.getElem_range'] at hx
        have h5 := hall (y - a) (by omega)
        simp only [List.getElem_range', Bool.not_eq_true', Nat.one_mul] at h5
        rw [show a + (y - a) = y by omega] at h5
        exact h5
      rcases Nat.lt_trichotomy x z with e | e | e
      · rw [hz x h1 e] at h3; cases h3
      · rw [e]
      · rw [h4 z hm.1 e] at hP; cases hP
theorem leastIn_split {P : Nat → Bool} {a b c : Nat} (h1 : a ≤ b) (h2 : b ≤ c) : leastIn P a c = (leastIn P a b).or (leastIn P b c) := by
  unfold leastIn
  rw [show List.range' a (c - a) = List.range' a (b - a) ++ List.range' b (c - b) by
    rw [show c - a = (b - a) + (c - b) by omega, ← List.range'_append_1, show a + (b - a) = b by omega], List.find?_append]
theorem leastIn_congr {P Q : Nat → Bool} {a b : Nat} (h : ∀ x, a ≤ x → x < b → P x = Q x) : leastIn P a b = leastIn Q a b := by
  cases e : leastIn Q a b with
  | none =>
    rw [leastIn_none] at e ⊢
    intro x h1 h2; rw [h x h1 h2]; exact e x h1 h2
  | some z =>
    rw [leastIn_some] at e ⊢
    obtain ⟨⟨h1, h2⟩, h3, h4⟩ := e
    exact ⟨⟨h1, h2⟩, by rw [h z h1 h2]; exact h3, fun y k1 k2 => by rw [h y k1 (by omega)]; exact h4 y k1 k2⟩
/-- Numbers that do not come up to a bound are left out. -/
theorem leastIn_from {P : Nat → Bool} {a b c : Nat} (h1 : a ≤ b) (h2 : b ≤ c) : leastIn (fun x => decide (b ≤ x) && P x) a c = leastIn P b c := by
  rw [leastIn_split h1 h2, leastIn_none.2 (fun x _ h => by simp; intro h'; omega), Option.none_or]
  exact leastIn_congr (fun x h _ => by simp [h])
/-! ## decs -/
/-- A number's decimal text. -/
def decS (n : Nat) : ByteArray := ⟨(Go.Lib.decDigits n).toArray⟩
theorem L_decS (n : Nat) : L (decS n) = Dg n := rfl
theorem Dg_le19 (n : Nat) (h : n ≤ 9223372036854775807) : (Dg n).length ≤ 19 := (TD_Dg 18 n (by omega)).1
theorem size_decS (n : Nat) : (decS n).size = (Dg n).length := by rw [size_L, L_decS]
theorem one_dig {n : Nat} (h : n < 10) : strOfNums [wrap64 (48 + (n : Int)) % 256] = decS n := by
  apply L_inj
  rw [L_decS, Dg_small h, w64 (by omega) (by omega), Int.emod_eq_of_lt (by omega) (by omega), L_strOfNums]
  intro c hc
  rw [List.mem_singleton] at hc
  omega
/-! ## l1Num -/
theorem l1Num_b : ∀ b n : Nat, n ≤ b → n ≤ 9223372036854775807 → Ev (fun k => spec_l1Num.f k (n : Int)) (decS n)
  | 0, n, h, hb => by
    refine Ev.step (fun _ => spec_l1Num.f.eq_2 ..) (Ev.pos (by omega) (Ev.eq ?_ (Ev.now _)))
    exact (one_dig (by omega)).symm
  | b + 1, n, h, hb => by
    refine Ev.step (fun _ => spec_l1Num.f.eq_2 ..) ?_
    by_cases hn : n < 10
    · exact Ev.pos (by omega) (Ev.eq (one_dig hn).symm (Ev.now _))
    · refine Ev.neg (by omega) ?_
      rw [show Int.tdiv (n : Int) 10 = ((n / 10 : Nat) : Int) from rfl, w64n (x := n / 10) (by omega), show Int.tmod (n : Int) 10 = ((n % 10 : Nat) : Int) from rfl]
      refine Ev.bind (l1Num_b b (n / 10) (by omega) (by omega)) (Ev.sm rfl ?_)
      rw [one_dig (n := n % 10) (by omega)]
      have h1 : (decS (n / 10)).size ≤ 19 := by rw [size_decS]; exact Dg_le19 _ (by omega)
      have h2 : (decS (n % 10)).size ≤ 19 := by rw [size_decS]; exact Dg_le19 _ (by omega)
      refine Ev.pos (by omega) (Ev.eq ?_ (Ev.now _))
      apply L_inj
      rw [L_append, L_decS, L_decS, L_decS, Dg_big (n := n) (by omega), Dg_small (n := n % 10) (by omega)]
theorem l1Num_f (n : Nat) (h : n ≤ 9223372036854775807) : Ev (fun k => spec_l1Num.f k (n : Int)) (decS n) := l1Num_b n n (Nat.le_refl _) h
/-! ## txtO -/
def txtO (n : Nat) : Option Nat → ByteArray
  | some x => TS n x
  | none => ⟨#[]⟩
theorem txtO_nil (n : Nat) (h : 1 ≤ n) (o : Option Nat) : (txtO n o).toList = ([] : List UInt8) ↔ o = none := by
  have e0 : (⟨#[]⟩ : ByteArray).toList = [] := by rw [ByteArray.toList_eq]
  cases o with
  | none => exact ⟨fun _ => rfl, fun _ => e0⟩
  | some x =>
    refine ⟨fun h2 => ?_, fun h2 => by cases h2⟩
    have h3 := congrArg ByteArray.size (tl_eq.1 (h2.trans e0.symm))
    rw [show txtO n (some x) = TS n x from rfl, TS_size] at h3
    have h4 : (⟨#[]⟩ : ByteArray).size = 0 := rfl
    omega
theorem decS_small {c : Nat} (h : c < 10) : decS c = strOfNums [48 + (c : Int)] := by
  rw [← one_dig h, w64 (by omega) (by omega), Int.emod_eq_of_lt (by omega) (by omega)]
/-! ## miFirst -/
/-! spec.miFirst: the least reading of a kind that begins with some digits and comes behind a reading -/
def KD (n : Nat) (c : Int) (y : Nat) : Bool := kindV c (TS n y)
theorem good_TS {n : Nat} (h1 : 1 ≤ n) (h9 : n ≤ 9) (y : Nat) : good (TS n y) = true := by
  unfold good
  rw [L_TS, TD_dig, TS_size, Bool.true_and, Bool.and_eq_true, decide_eq_true_eq, decide_eq_true_eq]
  omega
theorem bt_pre {n j y i : Nat} (hj : j ≤ n) (hi : i < j) : bt (TS j (y / 10 ^ (n - j))) (i : Int) = bt (TS n y) (i : Int) := by
  rw [← TS_ext n y j hj, ext_bt (by rw [TS_size]; exact hj) hi]
theorem fresh_congr {s t : ByteArray} {i : Nat} (h : ∀ k, k ≤ i → bt s (k : Int) = bt t (k : Int)) : fresh s i = fresh t i := by
  rw [Bool.eq_iff_iff, fresh_t, fresh_t]
  constructor
  · intro g k hk; rw [← h k (by omega), ← h i (Nat.le_refl _)]; exact g k hk
  · intro g k hk; rw [h k (by omega), h i (Nat.le_refl _)]; exact g k hk
theorem miIs_empty {v : Nat} {c : UInt8} (hc : c = 114 ∨ c = 102) : Ev (fun k => spec_miIs.f k (TS 0 v) (⟨#[c]⟩ : ByteArray)) true := by
  rcases hc with rfl | rfl <;> exact Ev.neg (tl1_ne (by decide)) (Ev.neg (tl1_ne (by decide)) (Ev.neg (tl1_ne (by decide)) (Ev.neg (tl1_ne (by decide)) (Ev.step (fun _ => spec_miIs.l0.eq_2 ..) (Ev.neg (by rw [TS_size]; omega) (Ev.now _))))))
/-- The kinds: their letters and their texts. -/
def sixK : List (Int × ByteArray) := [(97, ⟨#[97]⟩), (109, ⟨#[109]⟩), (117, ⟨#[117]⟩), (114, ⟨#[114]⟩), (102, ⟨#[102]⟩), (100, ⟨#[100]⟩)]
section
variable {n j v : Nat} (h1 : 1 ≤ n) (h9 : n ≤ 9) (hj : j < n)
include h1 h9 hj
theorem can_a : ∃ b, Ev (fun k => spec_miCan.f k (n : Int) (TS j v) (⟨#[97]⟩ : ByteArray)) b ∧ ∀ y, y / 10 ^ (n - j) = v → KD n 97 y = true → b = true := by
  refine ⟨decide ((cntD (TS j v) (TS j v).size : Int) ≤ 1), Ev.neg (by rw [TS_size]; omega) (Ev.pos (tl1 97) (Ev.bind (miDigits_f (TS j v) (by rw [TS_size]; omega) (good_128 (by rw [L_TS]; exact TD_dig _ _))) (Ev.now _))), fun y hy hk => ?_⟩
  rw [TS_size, decide_eq_true_eq]
  unfold KD at hk
  rw [kind_a, TS_size] at hk
  by_cases h0 : j = 0
  · subst h0; show ((0 : Nat) : Int) ≤ 1; omega
  · have := (cntD_one (s := TS j v) (n := j) (by omega)).2 (fun i hi => by
      rw [← hy, show (0 : Int) = ((0 : Nat) : Int) from rfl, bt_pre (by omega) hi, bt_pre (by omega) (show 0 < j by omega)]
      exact hk i (by omega))
    omega
theorem can_d : ∃ b, Ev (fun k => spec_miCan.f k (n : Int) (TS j v) (⟨#[100]⟩ : ByteArray)) b ∧ ∀ y, y / 10 ^ (n - j) = v → KD n 100 y = true → b = true := by
  refine ⟨(cntD (TS j v) (TS j v).size : Int) == ((TS j v).size : Int), Ev.neg (by rw [TS_size]; omega) (Ev.neg (tl1_ne (by decide)) (Ev.pos (tl1 100) (Ev.bind (miDigits_f (TS j v) (by rw [TS_size]; omega) (good_128 (by rw [L_TS]; exact TD_dig _ _))) (Ev.now _)))), fun y hy hk => ?_⟩
  rw [TS_size, beq_iff_eq]
  unfold KD at hk
  rw [kind_d (by decide), TS_size] at hk
  have := (cntD_all (s := TS j v) (n := j)).2 (fun i hi => by
    rw [fresh_congr (t := TS n y) (fun k hk2 => by rw [← hy, bt_pre (by omega) (by omega)])]
    exact hk i (by omega))
  omega
theorem can_m : ∃ b, Ev (fun k => spec_miCan.f k (n : Int) (TS j v) (⟨#[109]⟩ : ByteArray)) b ∧ ∀ y, y / 10 ^ (n - j) = v → KD n 109 y = true → b = true := by
  refine ⟨_, Ev.neg (by rw [TS_size]; omega) (Ev.neg (tl1_ne (by decide)) (Ev.neg (tl1_ne (by decide)) (Ev.neg (tl1_ne (by decide)) (Ev.neg (tl1_ne (by decide)) (miCan_l0m (s := TS j v) (n := (n : Int)) (by rw [TS_size]; omega) (by rw [TS_size]; omega) (TS j v).size 0 (by omega)))))), fun y hy hk => ?_⟩
  unfold KD at hk
  rw [kind_m, TS_size] at hk
  rw [List.all_eq_true]
  intro i hi
  have hi2 := List.mem_range'_1.1 hi
  rw [TS_size] at hi2
  unfold acrossB
  rw [TS_size]
  by_cases c : (n : Int) - 1 - (i : Int) < (j : Int)
  · rw [if_pos c, decide_eq_true_eq, show (n : Int) - 1 - (i : Int) = ((n - 1 - i : Nat) : Int) by omega, ← hy, bt_pre (by omega) (by omega), bt_pre (by omega) (by omega)]
    exact hk i (by omega)
  · rw [if_neg c]
theorem can_u : ∃ b, Ev (fun k => spec_miCan.f k (n : Int) (TS j v) (⟨#[117]⟩ : ByteArray)) b ∧ ∀ y, y / 10 ^ (n - j) = v → KD n 117 y = true → b = true := by
  refine ⟨_, Ev.neg (by rw [TS_size]; omega) (Ev.neg (tl1_ne (by decide)) (Ev.neg (tl1_ne (by decide)) (Ev.neg (tl1_ne (by decide)) (Ev.neg (tl1_ne (by decide)) (miCan_l0u (s := TS j v) (n := (n : Int)) (by rw [TS_size]; omega) (by rw [TS_size]; omega) (TS j v).size 0 (by omega)))))), fun y hy hk => ?_⟩
  unfold KD at hk
  rw [kind_u (good_TS h1 h9 y), TS_size] at hk
  rw [List.all_eq_true]
  intro i hi
  have hi2 := List.mem_range'_1.1 hi
  rw [TS_size] at hi2
  obtain ⟨k1, k2⟩ := hk i (by omega)
  unfold canU acrossB
  rw [TS_size, ← hy, bt_pre (by omega) (show i < j by omega), decide_eq_true k1, Bool.true_and, Bool.and_eq_true, Bool.not_eq_true', Bool.and_eq_false_iff, decide_eq_false_iff_not, decide_eq_false_iff_not]
  refine ⟨?_, ?_⟩
  · by_cases c : 2 * (i : Int) + 1 = (n : Int)
    · right
      rw [show n - 1 - i = i by omega] at k2
      intro h; exact h k2.symm
    · exact .inl c
  · by_cases c : (n : Int) - 1 - (i : Int) < (j : Int)
    · rw [if_pos c, decide_eq_true_eq, show (n : Int) - 1 - (i : Int) = ((n - 1 - i : Nat) : Int) by omega, bt_pre (by omega) (by omega)]
      exact k2
    · rw [if_neg c]
theorem can_r : ∃ b, Ev (fun k => spec_miCan.f k (n : Int) (TS j v) (⟨#[114]⟩ : ByteArray)) b ∧ ∀ y, y / 10 ^ (n - j) = v → KD n 114 y = true → b = true := by
  by_cases h0 : j = 0
  · subst h0
    exact ⟨true, Ev.neg (by rw [TS_size]; omega) (Ev.neg (tl1_ne (by decide)) (Ev.neg (tl1_ne (by decide)) (Ev.pos (tl1 114) (Ev.bind (miIs_empty (.inl rfl)) (Ev.pos rfl (Ev.pos (by rw [TS_size]; rfl) (Ev.now _))))))), fun _ _ _ => rfl⟩
  · have hg := good_TS (n := j) (by omega) (by omega) v
    have hl := good_bt (good_t hg).1 (show j - 1 < (TS j v).size by rw [TS_size]; omega)
    refine ⟨if kindV 114 (TS j v) = true then decide ((57 - bt (TS j v) ((j - 1 : Nat) : Int)) % 256 ≥ (n : Int) - (j : Int)) else false, Ev.neg (by rw [TS_size]; omega) (Ev.neg (tl1_ne (by decide)) (Ev.neg (tl1_ne (by decide)) (Ev.pos (tl1 114) (Ev.bind (miIs_r hg) ?_)))), fun y hy hk => ?_⟩
    · rw [TS_size, w64 (x := (j : Int) - 1) (by omega) (by omega), w64 (x := (n : Int) - (j : Int)) (by omega) (by omega), show (j : Int) - 1 = ((j - 1 : Nat) : Int) by omega]
      by_cases c : kindV 114 (TS j v) = true
      · refine Ev.eq (if_pos c) ?_
        exact Ev.pos c (Ev.neg (by omega) (Ev.pos (by omega) (Ev.pos (by omega) (Ev.now _))))
      · refine Ev.eq (if_neg c) ?_
        exact Ev.neg c (Ev.now _)
    · unfold KD at hk
      rw [kind_r (good_TS h1 h9 y), TS_size] at hk
      have hp : kindV 114 (TS j v) = true := by
        rw [kind_r hg, TS_size]
        intro i hi1 hi2
        rw [← hy, bt_pre (by omega) (by omega), bt_pre (by omega) (by omega)]
        exact hk i hi1 (by omega)
      rw [if_pos hp, decide_eq_true_eq, ← hy, bt_pre (by omega) (by omega)]
      have hr := rise (fun i => bt (TS n y) (i : Int)) n (fun i a b => hk i a b) (n - j) (j - 1) (by omega)
      rw [show j - 1 + (n - j) = n - 1 by omega] at hr
      have hl2 := good_bt (good_t (good_TS h1 h9 y)).1 (show n - 1 < (TS n y).size by rw [TS_size]; omega)
      rw [← hy, bt_pre (by omega) (by omega)] at hl
      omega
theorem can_f : ∃ b, Ev (fun k => spec_miCan.f k (n : Int) (TS j v) (⟨#[102]⟩ : ByteArray)) b ∧ ∀ y, y / 10 ^ (n - j) = v → KD n 102 y = true → b = true := by
  by_cases h0 : j = 0
  · subst h0
    exact ⟨true, Ev.neg (by rw [TS_size]; omega) (Ev.neg (tl1_ne (by decide)) (Ev.neg (tl1_ne (by decide)) (Ev.neg (tl1_ne (by decide)) (Ev.pos (tl1 102) (Ev.bind (miIs_empty (.inr rfl)) (Ev.pos rfl (Ev.pos (by rw [TS_size]; rfl) (Ev.now _)))))))), fun _ _ _ => rfl⟩
  · have hg := good_TS (n := j) (by omega) (by omega) v
    have hl := good_bt (good_t hg).1 (show j - 1 < (TS j v).size by rw [TS_size]; omega)
    refine ⟨if kindV 102 (TS j v) = true then decide ((bt (TS j v) ((j - 1 : Nat) : Int) - 48) % 256 ≥ (n : Int) - (j : Int)) else false, Ev.neg (by rw [TS_size]; omega) (Ev.neg (tl1_ne (by decide)) (Ev.neg (tl1_ne (by decide)) (Ev.neg (tl1_ne (by decide)) (Ev.pos (tl1 102) (Ev.bind (miIs_f hg) ?_))))), fun y hy hk => ?_⟩
    · rw [TS_size, w64 (x := (j : Int) - 1) (by omega) (by omega), w64 (x := (n : Int) - (j : Int)) (by omega) (by omega), show (j : Int) - 1 = ((j - 1 : Nat) : Int) by omega]
      by_cases c : kindV 102 (TS j v) = true
      · refine Ev.eq (if_pos c) ?_
        exact Ev.pos c (Ev.neg (by omega) (Ev.pos (by omega) (Ev.pos (by omega) (Ev.now _))))
      · refine Ev.eq (if_neg c) ?_
        exact Ev.neg c (Ev.now _)
    · unfold KD at hk
      rw [kind_f (good_TS h1 h9 y), TS_size] at hk
      have hp : kindV 102 (TS j v) = true := by
        rw [kind_f hg, TS_size]
        intro i hi1 hi2
        rw [← hy, bt_pre (by omega) (by omega), bt_pre (by omega) (by omega)]
        exact hk i hi1 (by omega)
      rw [if_pos hp, decide_eq_true_eq, ← hy, bt_pre (by omega) (by omega)]
      have hr := fall (fun i => bt (TS n y) (i : Int)) n (fun i a b => hk i a b) (n - j) (j - 1) (by omega)
      rw [show j - 1 + (n - j) = n - 1 by omega] at hr
      have hl2 := good_bt (good_t (good_TS h1 h9 y)).1 (show n - 1 < (TS n y).size by rw [TS_size]; omega)
      rw [← hy, bt_pre (by omega) (by omega)] at hl
      omega
end
/-- spec.miCan at a beginning of j digits. -/
theorem miCan_T {n j v : Nat} (h1 : 1 ≤ n) (h9 : n ≤ 9) (hj : j ≤ n) {c : Int} {kt : ByteArray} (hk : (c, kt) ∈ sixK) :
    ∃ b, Ev (fun k => spec_miCan.f k (n : Int) (TS j v) kt) b ∧ (j = n → b = KD n c v) ∧ (j < n → ∀ y, y / 10 ^ (n - j) = v → KD n c y = true → b = true) := by
  by_cases e : j = n
  · subst e
    refine ⟨KD j c v, Ev.pos (by rw [TS_size]) (Ev.bind ?_ (Ev.now _)), fun _ => rfl, fun h => by omega⟩
    have hg := good_TS h1 h9 v
    simp only [sixK, List.mem_cons, List.not_mem_nil, or_false, Prod.mk.injEq] at hk
    rcases hk with ⟨rfl, rfl⟩ | ⟨rfl, rfl⟩ | ⟨rfl, rfl⟩ | ⟨rfl, rfl⟩ | ⟨rfl, rfl⟩ | ⟨rfl, rfl⟩
    · exact miIs_a hg
    · exact miIs_m hg
    · exact miIs_u hg
    · exact miIs_r hg
    · exact miIs_f hg
    · exact miIs_d hg
  · have hlt : j < n := by omega
    have : ∃ b, Ev (fun k => spec_miCan.f k (n : Int) (TS j v) kt) b ∧ ∀ y, y / 10 ^ (n - j) = v → KD n c y = true → b = true := by
      simp only [sixK, List.mem_cons, List.not_mem_nil, or_false, Prod.mk.injEq] at hk
      rcases hk with ⟨rfl, rfl⟩ | ⟨rfl, rfl⟩ | ⟨rfl, rfl⟩ | ⟨rfl, rfl⟩ | ⟨rfl, rfl⟩ | ⟨rfl, rfl⟩
      · exact can_a h1 h9 hlt
      · exact can_m h1 h9 hlt
      · exact can_u h1 h9 hlt
      · exact can_r h1 h9 hlt
      · exact can_f h1 h9 hlt
      · exact can_d h1 h9 hlt
    obtain ⟨b, hb, hb2⟩ := this
    exact ⟨b, hb, fun h => absurd h e, fun _ => hb2⟩
def PF (n : Nat) (c : Int) (bh : Option Nat) (y : Nat) : Bool := KD n c y && (match bh with | none => true | some x => decide (x < y))
theorem miFirst_l0 {n j v d : Nat} {kt : ByteArray} {bt_ : ByteArray} {P : Nat → Bool} (h1 : 1 ≤ n) (h9 : n ≤ 9) (hd : j + (d + 1) = n)
    (hin : ∀ u, u < 10 ^ (j + 1) → Ev (fun k => spec_miFirst.f k (n : Int) (TS (j + 1) u) kt bt_) (txtO n (leastIn P (u * 10 ^ d) ((u + 1) * 10 ^ d)))) (hv : v < 10 ^ j) :
    ∀ e cc : Nat, cc + e = 10 → Ev (fun k => spec_miFirst.l0 k (n : Int) (TS j v) kt bt_ (cc : Int)) (txtO n (leastIn P ((10 * v + cc) * 10 ^ d) ((10 * v + 10) * 10 ^ d)))
  | 0, cc, hc => by
    obtain rfl : cc = 10 := by omega
    rw [leastIn_none.2 (fun x a b => absurd a (Nat.not_le.2 b))]
    exact Ev.step (fun _ => spec_miFirst.l0.eq_2 ..) (Ev.neg (by omega) (Ev.now _))
  | e + 1, cc, hc => by
    have ih := miFirst_l0 h1 h9 hd hin hv e (cc + 1) (by omega)
    have hu : 10 * v + cc < 10 ^ (j + 1) := by rw [Nat.pow_succ]; omega
    rw [leastIn_split (b := (10 * v + (cc + 1)) * 10 ^ d) (Nat.mul_le_mul_right _ (by omega)) (Nat.mul_le_mul_right _ (by omega))]
    have hz : (decS cc).size = 1 := by rw [size_decS, Dg_small (by omega)]; rfl
    refine Ev.step (fun _ => spec_miFirst.l0.eq_2 ..) (Ev.pos (by omega) (Ev.bind (l1Num_f cc (by omega)) (Ev.pos (by rw [TS_size, hz]; omega) ?_)))
    rw [decS_small (by omega), TS_snoc (by omega), wsucc (m := 10) (by omega) (by omega)]
    refine Ev.bind (hin _ hu) ?_
    rw [show 10 * v + cc + 1 = 10 * v + (cc + 1) by omega]
    cases ho : leastIn P ((10 * v + cc) * 10 ^ d) ((10 * v + (cc + 1)) * 10 ^ d) with
    | none => rw [Option.none_or]; exact Ev.pos ((txtO_nil n h1 none).2 rfl) ih
    | some x => rw [Option.some_or]; exact Ev.neg (fun h => by have := (txtO_nil n h1 (some x)).1 h; cases this) (Ev.now _)
theorem miFirst_f {n : Nat} (h1 : 1 ≤ n) (h9 : n ≤ 9) {c : Int} {kt : ByteArray} (hk : (c, kt) ∈ sixK) (bh : Option Nat) (hbh : ∀ x, bh = some x → x < 10 ^ n) :
    ∀ d j v : Nat, j + d = n → v < 10 ^ j → Ev (fun k => spec_miFirst.f k (n : Int) (TS j v) kt (txtO n bh)) (txtO n (leastIn (PF n c bh) (v * 10 ^ d) ((v + 1) * 10 ^ d))) := by
  intro d
  induction d with
  | zero =>
    intro j v hj hv
    obtain rfl : j = n := by omega
    obtain ⟨b, hb, hb1, _⟩ := miCan_T (v := v) h1 h9 (Nat.le_refl j) hk
    have hb1 := hb1 rfl
    have hl : leastIn (PF j c bh) (v * 10 ^ 0) ((v + 1) * 10 ^ 0) = if PF j c bh v = true then some v else none := by
      rw [Nat.pow_zero, Nat.mul_one, Nat.mul_one]
      by_cases hp : PF j c bh v = true
      · rw [if_pos hp, leastIn_some]; exact ⟨⟨Nat.le_refl _, by omega⟩, hp, fun y a b => by omega⟩
      · rw [if_neg hp, leastIn_none]; intro x a b; obtain rfl : x = v := by omega
        simpa using hp
    rw [hl]
    refine Ev.step (fun _ => spec_miFirst.f.eq_2 ..) (Ev.bind hb ?_)
    subst hb1
    by_cases hkd : KD j c v = true
    · refine Ev.pos hkd ?_
      cases bh with
      | none =>
        rw [if_pos (by unfold PF; rw [hkd]; rfl)]
        refine Ev.pos ((txtO_nil j h1 none).2 rfl) (Ev.step (fun _ => spec_miFirst.j0.eq_2 ..) (Ev.neg (by decide) (Ev.pos (by rw [TS_size]) (Ev.pos ((txtO_nil j h1 none).2 rfl) (Ev.now _)))))
      | some x =>
        have hx := hbh x rfl
        have hne : ¬ (txtO j (some x)).toList = ([] : List UInt8) := fun h => by have := (txtO_nil j h1 (some x)).1 h; cases this
        rw [show txtO j (some x) = TS j x from rfl] at hne ⊢
        rw [TS_size, TS_size]
        refine Ev.neg hne (Ev.pos (by omega) (Ev.pos (by omega) ?_))
        rw [Int.toNat_natCast, TS_ext j x j (Nat.le_refl _), Nat.sub_self, Nat.pow_zero, Nat.div_one, bless_TS j v x hv hx]
        by_cases hlt : v < x
        · have hv1 : (if PF j c (some x) v = true then some v else none) = none := if_neg (by unfold PF; rw [hkd]; simp; omega)
          rw [decide_eq_true hlt, hv1]
          exact Ev.step (fun _ => spec_miFirst.j0.eq_2 ..) (Ev.pos rfl (Ev.now _))
        · rw [decide_eq_false hlt]
          refine Ev.step (fun _ => spec_miFirst.j0.eq_2 ..) (Ev.neg (by decide) (Ev.pos (by rw [TS_size]) (Ev.neg hne ?_)))
          rw [bless_TS j x v hx hv]
          by_cases hgt : x < v
          · have hv1 : (if PF j c (some x) v = true then some v else none) = some v := if_pos (by unfold PF; rw [hkd]; simp; omega)
            rw [hv1]
            exact Ev.pos (decide_eq_true hgt) (Ev.now _)
          · have hv1 : (if PF j c (some x) v = true then some v else none) = none := if_neg (by unfold PF; rw [hkd]; simp; omega)
            rw [hv1]
            exact Ev.neg (by simpa using hgt) (Ev.now _)
    · rw [if_neg (by unfold PF; rw [Bool.and_eq_true]; exact fun h => hkd h.1)]
      exact Ev.neg hkd (Ev.step (fun _ => spec_miFirst.j0.eq_2 ..) (Ev.pos rfl (Ev.now _)))
  | succ d ih =>
    intro j v hj hv
    have hp : 0 < 10 ^ (d + 1) := Nat.pow_pos (by omega)
    obtain ⟨b, hb, _, hb2⟩ := miCan_T (v := v) h1 h9 (show j ≤ n by omega) hk
    have hb2 := hb2 (by omega)
    rw [show n - j = d + 1 by omega] at hb2
    refine Ev.step (fun _ => spec_miFirst.f.eq_2 ..) (Ev.bind hb ?_)
    have hmem : ∀ x, v * 10 ^ (d + 1) ≤ x → x < (v + 1) * 10 ^ (d + 1) → x / 10 ^ (d + 1) = v := fun x a b => (in_pre hp).2 ⟨a, b⟩
    by_cases hbt : b = true
    · refine Ev.pos hbt ?_
      have hl0 := miFirst_l0 (P := PF n c bh) (bt_ := txtO n bh) (kt := kt) h1 h9 hj (fun u hu => ih (j + 1) u (by omega) hu) hv 10 0 (by omega)
      rw [show (10 * v + 0) * 10 ^ d = v * 10 ^ (d + 1) by rw [Nat.pow_succ, Nat.mul_comm (10 ^ d) 10, ← Nat.mul_assoc, Nat.mul_comm v 10, Nat.add_zero], show (10 * v + 10) * 10 ^ d = (v + 1) * 10 ^ (d + 1) by rw [Nat.pow_succ, Nat.mul_comm (10 ^ d) 10, ← Nat.mul_assoc, show (v + 1) * 10 = 10 * v + 10 by omega]] at hl0
      have hgo : Ev (fun k => spec_miFirst.j0 k (n : Int) (TS j v) kt (txtO n bh) false) (txtO n (leastIn (PF n c bh) (v * 10 ^ (d + 1)) ((v + 1) * 10 ^ (d + 1)))) :=
        Ev.step (fun _ => spec_miFirst.j0.eq_2 ..) (Ev.neg (by decide) (Ev.neg (by rw [TS_size]; omega) hl0))
      cases bh with
      | none => exact Ev.pos ((txtO_nil n h1 none).2 rfl) hgo
      | some x =>
        have hx := hbh x rfl
        refine Ev.neg (fun h => by have := (txtO_nil n h1 (some x)).1 h; cases this) ?_
        have hxd : x / 10 ^ (d + 1) < 10 ^ j := by rw [Nat.div_lt_iff_lt_mul hp, ← Nat.pow_add, hj]; exact hx
        rw [show txtO n (some x) = TS n x from rfl] at hgo ⊢
        rw [TS_size, TS_size]
        refine Ev.pos (by omega) (Ev.pos (by omega) ?_)
        rw [Int.toNat_natCast, TS_ext n x j (by omega), show n - j = d + 1 by omega, bless_TS j v _ hv hxd]
        by_cases hlt : v < x / 10 ^ (d + 1)
        · rw [decide_eq_true hlt, leastIn_none.2]
          · exact Ev.step (fun _ => spec_miFirst.j0.eq_2 ..) (Ev.pos rfl (Ev.now _))
          · intro y a b
            have hy := hmem y a b
            unfold PF
            rw [Bool.and_eq_false_iff]
            right
            rw [decide_eq_false_iff_not]
            intro h
            have := Nat.div_le_div_right (c := 10 ^ (d + 1)) (Nat.le_of_lt h)
            omega
        · rw [decide_eq_false hlt]
          exact hgo
    · refine Ev.neg hbt ?_
      rw [leastIn_none.2]
      · exact Ev.step (fun _ => spec_miFirst.j0.eq_2 ..) (Ev.pos rfl (Ev.now _))
      · intro y a b
        unfold PF
        rw [Bool.and_eq_false_iff]
        left
        rw [← Bool.not_eq_true]
        exact fun h => hbt (hb2 y (hmem y a b) h)
/-- spec.miNext: the next one behind a reading, or the first one. -/
def nextN (n : Nat) (c : Int) (x : Nat) : Option Nat := (leastIn (KD n c) (x + 1) (10 ^ n)).or (leastIn (KD n c) 0 (10 ^ n))
theorem miNext_f {n : Nat} (h1 : 1 ≤ n) (h9 : n ≤ 9) {c : Int} {kt : ByteArray} (hk : (c, kt) ∈ sixK) {x : Nat} (hx : x < 10 ^ n) : Ev (fun k => spec_miNext.f k (TS n x) kt) (txtO n (nextN n c x)) := by
  have e0 : (⟨#[]⟩ : ByteArray) = TS 0 0 := L_inj (by rw [L_TS, TD, L_nil])
  have hA := miFirst_f h1 h9 hk (some x) (fun y hy => by cases hy; exact hx) n 0 0 (by omega) (by simp)
  have hB := miFirst_f h1 h9 hk none (fun y hy => by cases hy) n 0 0 (by omega) (by simp)
  rw [Nat.zero_mul, Nat.zero_add, Nat.one_mul] at hA hB
  have eA : leastIn (PF n c (some x)) 0 (10 ^ n) = leastIn (KD n c) (x + 1) (10 ^ n) := by
    rw [← leastIn_from (P := KD n c) (Nat.zero_le (x + 1)) (by omega)]
    exact leastIn_congr (fun y _ _ => by unfold PF; rw [Bool.and_comm]; rfl)
  have eB : leastIn (PF n c none) 0 (10 ^ n) = leastIn (KD n c) 0 (10 ^ n) := leastIn_congr (fun y _ _ => by unfold PF; simp)
  rw [eA] at hA
  rw [eB] at hB
  unfold spec_miNext.f nextN
  rw [TS_size, e0]
  refine Ev.bind hA ?_
  cases leastIn (KD n c) (x + 1) (10 ^ n) with
  | none =>
    rw [Option.none_or]
    refine Ev.pos ((txtO_nil n h1 none).2 rfl) (Ev.bind ?_ (Ev.now _))
    rw [show txtO n none = TS 0 0 from e0] at hB
    exact hB
  | some y => rw [Option.some_or]; exact Ev.neg (fun h => by have := (txtO_nil n h1 (some y)).1 h; cases this) (Ev.now _)
/-! ## miAll -/
theorem miAll_l0 : ∀ (n : Nat) (a : Int), 0 ≤ a → n ≤ 18 → a * p10 n ≤ 1000000000000000000 → Ev (fun k => spec_miAll.l0 k (n : Int) a) (a * p10 n)
  | 0, a, _, _, _ => Ev.step (fun _ => spec_miAll.l0.eq_2 ..) (Ev.neg (by omega) (Ev.eq (by simp [p10]) (Ev.now _)))
  | n + 1, a, h0, hn, h => by
    refine Ev.step (fun _ => spec_miAll.l0.eq_2 ..) (Ev.pos (by omega) ?_)
    have hp := p10_pos n
    have e : a * p10 (n + 1) = a * 10 * p10 n := by rw [p10_succ, Int.mul_assoc]
    have e3 : a * 10 * 1 ≤ a * 10 * p10 n := Int.mul_le_mul_of_nonneg_left hp (by omega)
    rw [e] at h ⊢
    rw [w64 (x := a * 10) (by omega) (by omega), w64 (by omega) (by omega), show ((n + 1 : Nat) : Int) - 1 = (n : Int) by omega]
    exact miAll_l0 n (a * 10) (by omega) (by omega) h
theorem miAll_f (n : Nat) (h : n ≤ 18) : Ev (fun k => spec_miAll.f k (n : Int)) (p10 n) := by
  have h1 := miAll_l0 n 1 (by omega) h (by rw [Int.one_mul]; exact p10_mono (m := 18) h)
  rw [Int.one_mul] at h1
  exact h1
/-! ## room18 -/
theorem room18 {n : Nat} (h : n ≤ 18) : ((0 : Int) + 1) * p10 n ≤ 1000000000000000000 := by
  rw [Int.zero_add, Int.one_mul]; exact p10_mono (m := 18) h
/-! ## tkNumber -/
theorem tkNumber_l0 (s : ByteArray) (hs : s.size ≤ 18) : ∀ (l : List Int) (n : Nat) (a : Int), (L s).drop n = l → l.all isD = true → 0 ≤ a → (a + 1) * p10 l.length ≤ 1000000000000000000 →
    Ev (fun k => spec_tkNumber.l0 k s a (n : Int)) (numF a l) := by
  intro l
  induction l with
  | nil =>
    intro n a h _ _ _
    have h1 := sdrop_nil h
    exact Ev.step (fun _ => spec_tkNumber.l0.eq_2 ..) (Ev.neg (by omega) (Ev.now _))
  | cons c t ih =>
    intro n a h hl ha hb
    obtain ⟨h1, h2, h3⟩ := sdrop_cons h
    rw [List.all_cons, Bool.and_eq_true] at hl
    have hc := isD_t.1 hl.1
    obtain ⟨g1, g2, g3⟩ := num_step ha hc hb
    refine Ev.step (fun _ => spec_tkNumber.l0.eq_2 ..) (Ev.pos (by omega) (Ev.pos (by omega) ?_))
    rw [h2, dig_mod hl.1, wsucc h1 (by omega), w64 (x := a * 10) (by omega) (by omega), Int.mul_comm a 10, w64 (x := 10 * a + (c - 48)) (by omega) (by omega)]
    exact ih (n + 1) _ h3 hl.2 g1 g2
theorem tkNumber_f (s : ByteArray) (hd : (L s).all isD = true) (hs : s.size ≤ 18) : Ev (fun k => spec_tkNumber.f k s) (numF 0 (L s)) :=
  tkNumber_l0 s hs (L s) 0 0 rfl hd (by omega) (room18 (by rw [L_length]; exact hs))
/-! ## toGoN -/
/-- From one number to another one on a dial of n digits. -/
def toGo (a b : ByteArray) : Int := Int.tmod (wrap64 ((wrap64 (numF 0 (L b) - numF 0 (L a))) + p10 a.size)) (p10 a.size)
theorem miTo_f (a b : ByteArray) (ha : (L a).all isD = true) (hb : (L b).all isD = true) (ha9 : a.size ≤ 9) (hb9 : b.size ≤ 9) : Ev (fun k => spec_miTo.f k a b) (toGo a b) :=
  Ev.bind (miAll_f a.size (by omega)) (Ev.bind (tkNumber_f b hb (by omega)) (Ev.bind (tkNumber_f a ha (by omega)) (Ev.neg (by have := p10_pos a.size; omega) (Ev.now _))))
theorem nextN_lt {n : Nat} {c : Int} {x y : Nat} (h : nextN n c x = some y) : y < 10 ^ n := by
  unfold nextN at h
  cases h1 : leastIn (KD n c) (x + 1) (10 ^ n) with
  | some z =>
    rw [h1, Option.some_or] at h
    obtain rfl := Option.some.inj h
    exact (leastIn_some.1 h1).1.2
  | none =>
    rw [h1, Option.none_or] at h
    exact (leastIn_some.1 h).1.2
theorem toGo_TS {n x y : Nat} (h9 : n ≤ 9) (hx : x < 10 ^ n) (hy : y < 10 ^ n) : toGo (TS n x) (TS n y) = (((y + 10 ^ n - x) % 10 ^ n : Nat) : Int) := by
  have hp : 10 ^ n ≤ 10 ^ 9 := Nat.pow_le_pow_right (by omega) h9
  unfold toGo
  rw [L_TS, L_TS, TD_num n x hx, TD_num n y hy, TS_size, p10_nat, w64 (x := (y : Int) - (x : Int)) (by omega) (by omega), w64 (by omega) (by omega), show (y : Int) - (x : Int) + ((10 ^ n : Nat) : Int) = ((y + 10 ^ n - x : Nat) : Int) by omega]
  rfl
def numN (s : ByteArray) : Nat := (numF 0 (L s)).toNat
theorem good_num {s : ByteArray} (h : good s = true) : s = TS s.size (numN s) ∧ numN s < 10 ^ s.size ∧ numF 0 (L s) = (numN s : Int) := by
  obtain ⟨hd, _, _⟩ := good_t h
  obtain ⟨g1, g2, _⟩ := num_lt hd
  rw [L_length] at g2
  exact ⟨TS_of hd, g2, by unfold numN; omega⟩
/-! ## miText -/
theorem miText_l0 (d : Nat) (hd : d ≤ 1000) : ∀ (e i n : Nat) (acc t : ByteArray), i + e = d → n ≤ 9223372036854775807 → acc.size ≤ 100000 + i → L t = TD e n ++ L acc →
    Ev (fun k => spec_miText.l0 k (d : Int) (n : Int) acc (i : Int)) t
  | 0, i, n, acc, t, h, _, _, ht => by
    refine Ev.step (fun _ => spec_miText.l0.eq_2 ..) (Ev.neg (by omega) (Ev.eq ?_ (Ev.now _)))
    exact L_inj ht
  | e + 1, i, n, acc, t, h, hn, ha, ht => by
    refine Ev.step (fun _ => spec_miText.l0.eq_2 ..) (Ev.pos (by omega) ?_)
    rw [show Int.tmod (n : Int) 10 = ((n % 10 : Nat) : Int) from rfl, show Int.tdiv (n : Int) 10 = ((n / 10 : Nat) : Int) from rfl, w64n (x := n / 10) (by omega), wsucc (m := d) (by omega) (by omega)]
    have h1 : (decS (n % 10)).size = 1 := by rw [size_decS, Dg_small (by omega)]; rfl
    refine Ev.bind (l1Num_f (n % 10) (by omega)) (Ev.pos (by omega) ?_)
    refine miText_l0 d hd e (i + 1) (n / 10) _ t (by omega) (by omega) (by rw [size_app]; omega) ?_
    rw [ht, L_append, L_decS, Dg_small (by omega), TD, List.append_assoc]
theorem miText_f (d n : Nat) (hd : d ≤ 1000) (hn : n ≤ 9223372036854775807) : Ev (fun k => spec_miText.f k (d : Int) (n : Int)) (TS d n) :=
  miText_l0 d hd d 0 n ⟨#[]⟩ (TS d n) (by omega) hn (Nat.zero_le _) (by rw [L_TS, L_nil, List.append_nil])
/-! ## l1In -/
theorem l1In_f (a b c : Int) : spec_l1In.f a b c = some (decide (b ≤ a) && decide (a ≤ c)) := by
  unfold spec_l1In.f; by_cases h : b ≤ a <;> simp [h]
/-! ## miGood -/
theorem miGood_l0 (s : ByteArray) (hs : s.size ≤ 140737488351232) : ∀ (l : List Int) (n : Nat), (L s).drop n = l →
    Ev (fun k => spec_miGood.l0 k s (n : Int)) (l.all isD) := by
  intro l
  induction l with
  | nil =>
    intro n h
    have h1 := sdrop_nil h
    exact Ev.step (spec_miGood.l0.eq_2 s (n : Int)) (Ev.neg (by omega) (Ev.now _))
  | cons c t ih =>
    intro n h
    obtain ⟨h1, h2, h3⟩ := sdrop_cons h
    refine Ev.step (spec_miGood.l0.eq_2 s (n : Int)) (Ev.pos (by omega) (Ev.pos (by omega) ?_))
    rw [h2, wsucc h1 (by omega)]
    by_cases hc : isD c = true
    · have hc' := isD_t.1 hc
      refine Ev.neg (by omega) (Ev.neg (by omega) (Ev.eq ?_ (ih (n + 1) h3)))
      simp [hc]
    · have hc' := isD_f.1 (by simpa using hc)
      by_cases h48 : c < 48
      · exact Ev.pos h48 (Ev.eq (by simp [hc]) (Ev.now _))
      · exact Ev.neg h48 (Ev.pos (by omega) (Ev.eq (by simp [hc]) (Ev.now _)))
theorem miGood_f (s : ByteArray) (hs : s.size ≤ 140737488351232) :
    Ev (fun k => spec_miGood.f k s) ((L s).all isD && (decide ((1 : Int) ≤ s.size) && decide ((s.size : Int) ≤ 9))) := by
  refine Ev.sm (l1In_f _ _ _) ?_
  by_cases h : (decide ((1 : Int) ≤ s.size) && decide ((s.size : Int) ≤ 9)) = true
  · exact Ev.pos h (Ev.eq (by rw [h, Bool.and_true]) (miGood_l0 s hs (L s) 0 rfl))
  · exact Ev.neg h (Ev.eq (by rw [Bool.not_eq_true] at h; rw [h, Bool.and_false]) (Ev.now _))
/-! ## areDigits -/
theorem areDigits_l0 (s : ByteArray) (lo hi : Int) (hs : s.size ≤ 140737488351232) : ∀ (l : List Int) (n : Nat), (L s).drop n = l →
    Ev (fun k => impl_areDigits.l0 k s lo hi (s.size : Int) (n : Int)) (l.all isD && (decide (lo ≤ s.size) && decide ((s.size : Int) ≤ hi))) := by
  intro l
  induction l with
  | nil =>
    intro n h
    have h1 := sdrop_nil h
    refine Ev.step (impl_areDigits.l0.eq_2 s lo hi (s.size : Int) (n : Int)) ?_
    refine Ev.neg (by omega) (Ev.sm (within_f _ _ _) (Ev.eq ?_ (Ev.now _)))
    simp
  | cons c t ih =>
    intro n h
    obtain ⟨h1, h2, h3⟩ := sdrop_cons h
    refine Ev.step (impl_areDigits.l0.eq_2 s lo hi (s.size : Int) (n : Int)) (Ev.pos (by omega) (Ev.pos (by omega) (Ev.pos (by omega) ?_)))
    rw [h2, wsucc h1 (by omega)]
    by_cases hc : isD c = true
    · have hc' := isD_t.1 hc
      refine Ev.neg (by omega) (Ev.neg (by omega) (Ev.eq ?_ (ih (n + 1) h3)))
      simp [hc]
    · have hc' := isD_f.1 (by simpa using hc)
      by_cases h48 : c < 48
      · exact Ev.pos h48 (Ev.eq (by simp [hc]) (Ev.now _))
      · exact Ev.neg h48 (Ev.pos (by omega) (Ev.eq (by simp [hc]) (Ev.now _)))
theorem areDigits_f (s : ByteArray) (lo hi : Int) (hs : s.size ≤ 140737488351232) :
    Ev (fun k => impl_areDigits.f k s lo hi) ((L s).all isD && (decide (lo ≤ s.size) && decide ((s.size : Int) ≤ hi))) :=
  areDigits_l0 s lo hi hs (L s) 0 rfl
/-! ## round -/
theorem round_l0 (n : Nat) (hn : n ≤ 18) : ∀ (d i : Nat), i + d = n → Ev (fun k => impl_round.l0 k (p10 i) (n : Int) (i : Int)) (p10 n)
  | 0, i, h => by
    obtain rfl : i = n := by omega
    exact Ev.step (fun _ => impl_round.l0.eq_2 ..) (Ev.neg (by omega) (Ev.now _))
  | d + 1, i, h => by
    refine Ev.step (fun _ => impl_round.l0.eq_2 ..) (Ev.pos (by omega) ?_)
    have hp := p10_pos i
    have hq : p10 (i + 1) ≤ 1000000000000000000 := p10_mono (m := 18) (by omega)
    rw [p10_succ] at hq
    rw [w64 (x := p10 i * 10) (by omega) (by omega), wsucc (m := n) (by omega) (by omega), Int.mul_comm, ← p10_succ]
    exact round_l0 n hn d (i + 1) (by omega)
theorem round_f (n : Nat) (h : n ≤ 18) : Ev (fun k => impl_round.f k (n : Int)) (p10 n) := round_l0 n h n 0 (by omega)
/-! ## numberOf -/
theorem numberOf_l0 (s : ByteArray) (hs : s.size ≤ 18) : ∀ (l : List Int) (n : Nat) (a : Int), (L s).drop n = l → l.all isD = true → 0 ≤ a → (a + 1) * p10 l.length ≤ 1000000000000000000 →
    Ev (fun k => impl_numberOf.l0 k s a (s.size : Int) (n : Int)) (numF a l) := by
  intro l
  induction l with
  | nil =>
    intro n a h _ _ _
    have h1 := sdrop_nil h
    exact Ev.step (fun _ => impl_numberOf.l0.eq_2 ..) (Ev.neg (by omega) (Ev.now _))
  | cons c t ih =>
    intro n a h hl ha hb
    obtain ⟨h1, h2, h3⟩ := sdrop_cons h
    rw [List.all_cons, Bool.and_eq_true] at hl
    have hc := isD_t.1 hl.1
    obtain ⟨g1, g2, g3⟩ := num_step ha hc hb
    refine Ev.step (fun _ => impl_numberOf.l0.eq_2 ..) (Ev.pos (by omega) (Ev.pos (by omega) (Ev.pos (by omega) ?_)))
    rw [h2, dig_mod hl.1, wsucc h1 (by omega), w64 (x := 10 * a) (by omega) (by omega), w64 (x := 10 * a + (c - 48)) (by omega) (by omega)]
    exact ih (n + 1) _ h3 hl.2 g1 g2
theorem numberOf_f (s : ByteArray) (hd : (L s).all isD = true) (hs : s.size ≤ 18) : Ev (fun k => impl_numberOf.f k s) (numF 0 (L s)) :=
  numberOf_l0 s hs (L s) 0 0 rfl hd (by omega) (room18 (by rw [L_length]; exact hs))
/-! ## FnExactBothMirrored -/
/-! both dials mirrored -/
theorem KD_m (n u : Nat) : KD n 109 u = true ↔ ∀ i, i < n → u / 10 ^ i % 10 = u / 10 ^ (n - 1 - i) % 10 := by
  unfold KD
  rw [kind_m, TS_size]
  refine forall_congr' (fun i => forall_congr' (fun hi => ?_))
  rw [bt_TS (by omega), bt_TS hi, show n - 1 - (n - 1 - i) = i by omega]
  omega
theorem mirEq_t (u n : Nat) : ∀ t, mirEq u n t = true ↔ ∀ i, i < t → u / 10 ^ i % 10 = u / 10 ^ (n - 1 - i) % 10
  | 0 => ⟨fun _ i hi => by omega, fun _ => rfl⟩
  | t + 1 => by
    rw [mirEq, Bool.and_eq_true, mirEq_t u n t, beq_iff_eq]
    constructor
    · intro h i hi
      by_cases e : i = t
      · subst e; exact h.2
      · exact h.1 i (by omega)
    · intro h
      exact ⟨fun i hi => h i (by omega), h t (by omega)⟩
theorem mirEq_KD (u n : Nat) : mirEq u n (n / 2) = KD n 109 u := by
  rw [Bool.eq_iff_iff, mirEq_t, KD_m]
  constructor
  · intro h i hi
    by_cases c : i < n / 2
    · exact h i c
    · by_cases c2 : n - 1 - i < n / 2
      · have := h (n - 1 - i) c2
        rw [show n - 1 - (n - 1 - i) = i by omega] at this
        exact this.symm
      · rw [show n - 1 - i = i by omega]
  · intro h i hi
    exact h i (by omega)
theorem KD_zero (n : Nat) : KD n 109 0 = true := (KD_m n 0).2 (fun i _ => by rw [Nat.zero_div, Nat.zero_div])
def byN (A u z : Nat) : Nat := if (z + A - u) % A = 0 then A else (z + A - u) % A
theorem byN_ok {n u z : Nat} (hu : u < 10 ^ n) (h : nextN n 109 u = some z) :
    1 ≤ byN (10 ^ n) u z ∧ byN (10 ^ n) u z ≤ 10 ^ n ∧ (u + byN (10 ^ n) u z) % 10 ^ n = z ∧ KD n 109 z = true ∧ ∀ t, 1 ≤ t → t < byN (10 ^ n) u z → KD n 109 ((u + t) % 10 ^ n) = false := by
  unfold nextN at h
  generalize 10 ^ n = A at hu h
  cases h1 : leastIn (KD n 109) (u + 1) A with
  | some y =>
    rw [h1, Option.some_or] at h
    obtain rfl := Option.some.inj h
    obtain ⟨⟨a1, a2⟩, a3, a4⟩ := leastIn_some.1 h1
    have hb : byN A u y = y - u := by
      unfold byN
      rw [show y + A - u = (y - u) + A by omega, Nat.add_mod_right, Nat.mod_eq_of_lt (by omega), if_neg (by omega)]
    rw [hb]
    refine ⟨by omega, by omega, by rw [show u + (y - u) = y by omega, Nat.mod_eq_of_lt a2], a3, fun t h1 h2 => ?_⟩
    rw [Nat.mod_eq_of_lt (by omega)]
    exact a4 (u + t) (by omega) (by omega)
  | none =>
    rw [h1, Option.none_or] at h
    rw [leastIn_none] at h1
    obtain ⟨⟨a1, a2⟩, a3, a4⟩ := leastIn_some.1 h
    have hzu : z ≤ u := by
      by_cases c : z ≤ u
      · exact c
      · have := h1 z (by omega) a2
        rw [a3] at this; cases this
    have hb : byN A u z = z + A - u := by
      unfold byN
      by_cases e : z = u
      · rw [e, show u + A - u = A by omega, Nat.mod_self, if_pos rfl]
      · rw [Nat.mod_eq_of_lt (by omega), if_neg (by omega)]
    rw [hb]
    refine ⟨by omega, by omega, by rw [show u + (z + A - u) = z + A by omega, Nat.add_mod_right, Nat.mod_eq_of_lt a2], a3, fun t k1 k2 => ?_⟩
    by_cases c : u + t < A
    · rw [Nat.mod_eq_of_lt c]
      exact h1 (u + t) (by omega) c
    · rw [show u + t = (u + t - A) + A by omega, Nat.add_mod_right, Nat.mod_eq_of_lt (by omega)]
      exact a4 (u + t - A) (by omega) (by omega)
theorem nextN_ex (n u : Nat) : ∃ z, nextN n 109 u = some z := by
  have h0 : leastIn (KD n 109) 0 (10 ^ n) ≠ none := fun h => by
    rw [leastIn_none] at h
    have := h 0 (by omega) (Nat.pow_pos (by omega))
    rw [KD_zero] at this; cases this
  unfold nextN
  cases h1 : leastIn (KD n 109) (u + 1) (10 ^ n) with
  | some y => exact ⟨y, rfl⟩
  | none =>
    rw [Option.none_or]
    exact Option.ne_none_iff_exists'.1 h0
def bmP (n p x y : Nat) (t : Nat) : Bool := KD n 109 ((x + t) % 10 ^ n) && KD p 109 ((y + t) % 10 ^ p)
def bmO : Option Nat → Int × Bool
  | some t => ((t : Int), true)
  | none => (0, false)
theorem isMir_f (m u : Nat) (h1 : 1 ≤ m) (h9 : m ≤ 9) (hu : u < 10 ^ m) : impl_isMirrored.f (u : Int) (m : Int) = some (KD m 109 u) := by
  have hA : 10 ^ m ≤ 10 ^ 9 := Nat.pow_le_pow_right (by omega) h9
  unfold impl_isMirrored.f
  rw [if_pos ⟨by omega, by omega, by omega, by omega⟩, Int.toNat_natCast, Int.toNat_natCast, mirEq_KD]
set_option linter.unusedSectionVars false
section
variable {n p x y : Nat} (n1 : 1 ≤ n) (n9 : n ≤ 9) (p1 : 1 ≤ p) (p9 : p ≤ 9) (hx : x < 10 ^ n) (hy : y < 10 ^ p)
include n1 n9 p1 p9 hx hy
theorem spec_bm_l0 : ∀ e m : Nat, m + e = 1000000 → Ev (fun k => spec_BothMirrored.l0 k (TS p y) (m : Int) (TS n ((x + m) % 10 ^ n))) (bmO (leastIn (bmP n p x y) (m + 1) 1000001)) := by
  intro e
  induction e using Nat.strongRecOn with
  | ind e ih =>
    intro m hm
    have hA : 10 ^ n ≤ 10 ^ 9 := Nat.pow_le_pow_right (by omega) n9
    have hB : 10 ^ p ≤ 10 ^ 9 := Nat.pow_le_pow_right (by omega) p9
    have hA0 : 0 < 10 ^ n := Nat.pow_pos (by omega)
    have hB0 : 0 < 10 ^ p := Nat.pow_pos (by omega)
    obtain ⟨u, hu⟩ : ∃ u, u = (x + m) % 10 ^ n := ⟨_, rfl⟩
    have hul : u < 10 ^ n := by rw [hu]; exact Nat.mod_lt _ hA0
    rw [← hu]
    obtain ⟨z, hz⟩ := nextN_ex n u
    have hzl := nextN_lt hz
    obtain ⟨b1, b2, b3, b4, b5⟩ := byN_ok hul hz
    have hnx := miNext_f (kt := ⟨#[109]⟩) n1 n9 (c := 109) (by unfold sixK; simp) hul
    rw [hz] at hnx
    have hto := miTo_f (TS n u) (TS n z) (by rw [L_TS]; exact TD_dig _ _) (by rw [L_TS]; exact TD_dig _ _) (by rw [TS_size]; exact n9) (by rw [TS_size]; exact n9)
    rw [toGo_TS n9 hul hzl] at hto
    obtain ⟨d, hd⟩ : ∃ d, d = byN (10 ^ n) u z := ⟨_, rfl⟩
    rw [← hd] at b1 b2 b3 b5
    -- no common one lies between
    have hno : ∀ t, m + 1 ≤ t → t < m + d → bmP n p x y t = false := by
      intro t h1 h2
      unfold bmP
      have h3 := b5 (t - m) (by omega) (by omega)
      rw [hu, Nat.mod_add_mod, show x + m + (t - m) = x + t by omega] at h3
      rw [h3, Bool.false_and]
    have hz2 : (x + (m + d)) % 10 ^ n = z := by rw [← b3, hu, Nat.mod_add_mod, Nat.add_assoc]
    have hj : Ev (fun k => spec_BothMirrored.j2 k (TS p y) (m : Int) (TS n z) ((d : Nat) : Int)) (bmO (leastIn (bmP n p x y) (m + 1) 1000001)) := by
      refine Ev.step (fun _ => spec_BothMirrored.j2.eq_2 ..) ?_
      rw [w64 (x := (m : Int) + (d : Int)) (by omega) (by omega), show (m : Int) + (d : Int) = ((m + d : Nat) : Int) by omega]
      by_cases hbig : ((m + d : Nat) : Int) > 1000000
      · refine Ev.eq ?_ (Ev.pos hbig (Ev.now (0, false)))
        rw [leastIn_none.2 (fun t h1 h2 => hno t h1 (by omega))]; rfl
      · refine Ev.neg hbig ?_
        have hnum := tkNumber_f (TS p y) (by rw [L_TS]; exact TD_dig _ _) (by rw [TS_size]; omega)
        rw [L_TS, TD_num p y hy] at hnum
        refine Ev.bind hnum ?_
        rw [TS_size]
        refine Ev.bind (miAll_f p (by omega)) (Ev.neg (by rw [p10_nat]; omega) ?_)
        rw [w64 (x := (y : Int) + ((m + d : Nat) : Int)) (by omega) (by omega), p10_nat, show (y : Int) + ((m + d : Nat) : Int) = ((y + (m + d) : Nat) : Int) by omega, tmodN]
        obtain ⟨v, hv⟩ : ∃ v, v = (y + (m + d)) % 10 ^ p := ⟨_, rfl⟩
        have hvl : v < 10 ^ p := by rw [hv]; exact Nat.mod_lt _ hB0
        rw [← hv]
        refine Ev.bind (miText_f p v (by omega) (by omega)) (Ev.bind (miIs_m (good_TS p1 p9 v)) ?_)
        have hP : bmP n p x y (m + d) = kindV 109 (TS p v) := by
          unfold bmP
          rw [hz2, b4, Bool.true_and, ← hv]; rfl
        rw [leastIn_split (a := m + 1) (b := m + d) (c := 1000001) (by omega) (by omega), leastIn_none.2 (fun t h1 h2 => hno t h1 h2), Option.none_or]
        by_cases hk : kindV 109 (TS p v) = true
        · refine Ev.pos hk (Ev.eq ?_ (Ev.now _))
          rw [leastIn_some.2 ⟨⟨Nat.le_refl _, by omega⟩, by rw [hP]; exact hk, fun t h1 h2 => by omega⟩]; rfl
        · refine Ev.neg hk ?_
          have h := ih (1000000 - (m + d)) (by omega) (m + d) (by omega)
          rw [hz2] at h
          rw [leastIn_split (a := m + d) (b := m + d + 1) (c := 1000001) (by omega) (by omega), leastIn_none.2 (fun t h1 h2 => by rw [show t = m + d by omega, hP]; exact Bool.eq_false_iff.2 hk), Option.none_or]
          exact h
    refine Ev.step (fun _ => spec_BothMirrored.l0.eq_2 ..) (Ev.bind hnx ?_)
    show Ev (fun k => (spec_miTo.f k (TS n u) (TS n z)).bind _) _
    refine Ev.bind hto ?_
    by_cases c : (z + 10 ^ n - u) % 10 ^ n = 0
    · have hdd : d = 10 ^ n := by rw [hd]; unfold byN; rw [if_pos c]
      refine Ev.pos (by omega) ?_
      rw [TS_size]
      refine Ev.bind (miAll_f n (by omega)) ?_
      rw [p10_nat, ← hdd]
      exact hj
    · have hdd : d = (z + 10 ^ n - u) % 10 ^ n := by rw [hd]; unfold byN; rw [if_neg c]
      refine Ev.neg (by omega) ?_
      rw [← hdd]
      exact hj
theorem impl_bm_l0 : ∀ e t : Nat, t + e = 1000001 → Ev (fun k => impl_BothMirrored.l0 k (TS n x) (TS p y) (x : Int) (y : Int) (t : Int)) (bmO (leastIn (bmP n p x y) t 1000001))
  | 0, t, h => by
    refine Ev.step (fun _ => impl_BothMirrored.l0.eq_2 ..) (Ev.neg (by omega) (Ev.eq ?_ (Ev.now (0, false))))
    rw [leastIn_none.2 (fun z h1 h2 => by omega)]; rfl
  | e + 1, t, h => by
    have ih := impl_bm_l0 e (t + 1) (by omega)
    have hA : 10 ^ n ≤ 10 ^ 9 := Nat.pow_le_pow_right (by omega) n9
    have hB : 10 ^ p ≤ 10 ^ 9 := Nat.pow_le_pow_right (by omega) p9
    have hA0 : 0 < 10 ^ n := Nat.pow_pos (by omega)
    have hB0 : 0 < 10 ^ p := Nat.pow_pos (by omega)
    have hnext : bmP n p x y t = false → Ev (fun k => impl_BothMirrored.l0 k (TS n x) (TS p y) (x : Int) (y : Int) ((t + 1 : Nat) : Int)) (bmO (leastIn (bmP n p x y) t 1000001)) := by
      intro hf
      rw [leastIn_split (a := t) (b := t + 1) (c := 1000001) (by omega) (by omega), leastIn_none.2 (fun z h1 h2 => by rw [show z = t by omega]; exact hf), Option.none_or]
      exact ih
    refine Ev.step (fun _ => impl_BothMirrored.l0.eq_2 ..) (Ev.pos (by omega) ?_)
    rw [TS_size, TS_size, wsucc (n := t) (m := 1000002) (by omega) (by omega), w64 (x := (x : Int) + (t : Int)) (by omega) (by omega), w64 (x := (y : Int) + (t : Int)) (by omega) (by omega), show (x : Int) + (t : Int) = ((x + t : Nat) : Int) by omega, show (y : Int) + (t : Int) = ((y + t : Nat) : Int) by omega]
    refine Ev.bind (round_f n (by omega)) (Ev.neg (by rw [p10_nat]; omega) ?_)
    rw [p10_nat, tmodN]
    refine Ev.sm (isMir_f n _ n1 n9 (Nat.mod_lt _ hA0)) ?_
    by_cases c1 : KD n 109 ((x + t) % 10 ^ n) = true
    · refine Ev.pos c1 (Ev.bind (round_f p (by omega)) (Ev.neg (by rw [p10_nat]; omega) ?_))
      rw [p10_nat, tmodN]
      refine Ev.sm (isMir_f p _ p1 p9 (Nat.mod_lt _ hB0)) ?_
      by_cases c2 : KD p 109 ((y + t) % 10 ^ p) = true
      · refine Ev.pos c2 (Ev.eq ?_ (Ev.now _))
        rw [leastIn_some.2 ⟨⟨Nat.le_refl _, by omega⟩, by unfold bmP; rw [c1, c2]; rfl, fun z h1 h2 => by omega⟩]; rfl
      · exact Ev.neg c2 (hnext (by unfold bmP; rw [Bool.eq_false_iff.2 c2, Bool.and_false]))
    · exact Ev.neg c1 (hnext (by unfold bmP; rw [Bool.eq_false_iff.2 c1, Bool.false_and]))
end
def bmAns (a b : ByteArray) : Int × Bool := if good a = true ∧ good b = true then bmO (leastIn (bmP a.size b.size (numN a) (numN b)) 1 1000001) else (0, false)
theorem spec_bm (a b : ByteArray) (ha : a.size ≤ 140737488351232) (hb : b.size ≤ 140737488351232) : Ev (fun k => spec_BothMirrored.f k a b) (bmAns a b) := by
  refine Ev.bind (show Ev (fun k => spec_miGood.f k a) (good a) from miGood_f a ha) ?_
  unfold bmAns
  by_cases ga : good a = true
  · refine Ev.pos ga (Ev.bind (show Ev (fun k => spec_miGood.f k b) (good b) from miGood_f b hb) (Ev.step (fun _ => spec_BothMirrored.j0.eq_2 ..) ?_))
    by_cases gb : good b = true
    · obtain ⟨_, a1, a9⟩ := good_t ga
      obtain ⟨_, b1, b9⟩ := good_t gb
      obtain ⟨e1, e2, _⟩ := good_num ga
      obtain ⟨f1, f2, _⟩ := good_num gb
      have h := spec_bm_l0 (n := a.size) (p := b.size) a1 a9 b1 b9 e2 f2 1000000 0 (by omega)
      rw [Nat.add_zero, Nat.mod_eq_of_lt e2, ← e1, ← f1] at h
      exact Ev.neg (by rw [gb]; decide) (Ev.eq (if_pos ⟨ga, gb⟩) h)
    · exact Ev.pos (by rw [Bool.eq_false_iff.2 gb]; rfl) (Ev.eq (if_neg (fun h => gb h.2)) (Ev.now _))
  · exact Ev.neg ga (Ev.step (fun _ => spec_BothMirrored.j0.eq_2 ..) (Ev.pos rfl (Ev.eq (if_neg (fun h => ga h.1)) (Ev.now _))))
theorem impl_bm (a b : ByteArray) (ha : a.size ≤ 140737488351232) (hb : b.size ≤ 140737488351232) : Ev (fun k => impl_BothMirrored.f k a b) (bmAns a b) := by
  have hr : ∀ s : ByteArray, s.size ≤ 140737488351232 → Ev (fun k => impl_IsReading.f k s) (good s) := fun s hs => Ev.bind (areDigits_f s 1 9 hs) (Ev.now _)
  refine Ev.bind (hr a ha) ?_
  unfold bmAns
  by_cases ga : good a = true
  · refine Ev.pos ga (Ev.bind (hr b hb) (Ev.step (fun _ => impl_BothMirrored.j0.eq_2 ..) ?_))
    by_cases gb : good b = true
    · obtain ⟨ad, a1, a9⟩ := good_t ga
      obtain ⟨bd, b1, b9⟩ := good_t gb
      obtain ⟨e1, e2, e3⟩ := good_num ga
      obtain ⟨f1, f2, f3⟩ := good_num gb
      have h := impl_bm_l0 (n := a.size) (p := b.size) a1 a9 b1 b9 e2 f2 1000000 1 (by omega)
      rw [← e1, ← f1] at h
      have na := numberOf_f a ad (by omega)
      have nb := numberOf_f b bd (by omega)
      rw [e3] at na
      rw [f3] at nb
      exact Ev.neg (by rw [gb]; decide) (Ev.bind na (Ev.bind nb (Ev.eq (if_pos ⟨ga, gb⟩) h)))
    · exact Ev.pos (by rw [Bool.eq_false_iff.2 gb]; rfl) (Ev.eq (if_neg (fun h => gb h.2)) (Ev.now _))
  · exact Ev.neg ga (Ev.step (fun _ => impl_BothMirrored.j0.eq_2 ..) (Ev.pos rfl (Ev.eq (if_neg (fun h => ga h.1)) (Ev.now _))))
theorem FnExactBothMirrored : laws_FnExactBothMirrored.Pure := by
  intro a b ha hb
  refine Ev.rounds (g := fun k => laws_FnExactBothMirrored.f k a b) ?_
  unfold laws_FnExactBothMirrored.f
  by_cases b1 : (a.size : Int) > 1048576
  · exact Ev.pos b1 (Ev.now _)
  · refine Ev.neg b1 ?_
    by_cases b2 : (b.size : Int) > 1048576
    · exact Ev.pos b2 (Ev.now _)
    · exact Ev.neg b2 (Ev.bind (spec_bm a b ha hb) (Ev.bind (impl_bm a b ha hb) (Ev.pos rfl (Ev.neg (by simp) (Ev.now _)))))

end Go.Proofs.Ytkbbmkbkpkmdkab.Pure
