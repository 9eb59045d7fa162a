/- The plain law of FnExactMilesToDigits: at all arguments the printed function of the law answers true after some number of rounds. Conditions: none beyond the bounds that the printed statement itself bears. -/
import Derived.Test.YtkbbmkbkpkmdkabQFnExactMilesToDigitsx2
import Derived.Lib.ItoaNum
namespace Go.Proofs.Ytkbbmkbkpkmdkab.Pure
open Go.RowKit Go.Proofs.Ytkbbmkbkpkmdkab.QFnExactMilesToDigits Go.Proofs.YtkbbmkbkpkmdkabW.PrintWords Go.Proofs.YtkbbmkbkpkmdkabW.PrintLast Go.Proofs.Ytkbbmkbkpkmdkab.Ext Go.Proofs.Ytkbbmkbkpkmdkab.Ext Go.Proofs.Ytkbbmkbkpkmdkab.Ext
set_option linter.unusedVariables false


/-! ## openA12 -/
open Go.Proofs.Ytkbbmkbkpkmdkab.QA1 Go.Proofs.Ytkbbmkbkpkmdkab.QA2
/-! ## base -/
/-! numbers in 64 bits -/
theorem w64 {x : Int} (h1 : -9223372036854775808 ≤ x) (h2 : x ≤ 9223372036854775807) : wrap64 x = x := by unfold wrap64; omega
theorem w64n {x : Nat} (h2 : x ≤ 9223372036854775807) : wrap64 (x : Int) = (x : Int) := w64 (by omega) (by omega)
theorem wf64 {x : Int} (h : (Lit.int .i64 x).wf = true) : -9223372036854775808 ≤ x ∧ x ≤ 9223372036854775807 := by
  have hmin : IntKind.i64.min = -9223372036854775808 := rfl
  have hmax : IntKind.i64.max = 9223372036854775807 := rfl
  simp only [Lit.wf, Bool.and_eq_true, decide_eq_true_eq, hmin, hmax] at h
  exact h
theorem tmodN (a b : Nat) : Int.tmod (a : Int) (b : Int) = ((a % b : Nat) : Int) := rfl
theorem tdivN (a b : Nat) : Int.tdiv (a : Int) (b : Int) = ((a / b : Nat) : Int) := rfl
theorem tmod_nn {a b : Int} (h : 0 ≤ a) : Int.tmod a b = a % b := Int.tmod_eq_emod_of_nonneg h
theorem tdiv_nn {a b : Int} (h : 0 ≤ a) : Int.tdiv a b = a / b := Int.tdiv_eq_ediv_of_nonneg h
/-! from some number of rounds on -/
theorem Ev.pos {α : Type} {c : Prop} [Decidable c] {f g : Nat → Option α} {r : α} (h : c) (e : Ev f r) : Ev (fun k => if c then f k else g k) r := by simpa only [if_pos h] using e
theorem Ev.neg {α : Type} {c : Prop} [Decidable c] {f g : Nat → Option α} {r : α} (h : ¬ c) (e : Ev g r) : Ev (fun k => if c then f k else g k) r := by simpa only [if_neg h] using e
theorem Ev.sm {α β : Type} {f : Nat → α → Option β} {a : α} {o : Option α} {r : β} (h : o = some a) (e : Ev (fun n => f n a) r) : Ev (fun n => o.bind (f n)) r := by subst h; simpa only [Option.bind_some] using e
theorem Ev.eq {α : Type} {f : Nat → Option α} {r r' : α} (h : r' = r) (e : Ev f r) : Ev f r' := h ▸ e
theorem Ev.of_some {α : Type} {o : Option α} {r : α} (h : o = some r) : Ev (fun _ => o) r := ⟨0, fun _ _ => h⟩
theorem Ev.uniq {α : Type} {g : Nat → Option α} {r q : α} (h : Ev g r) (h' : Ev g q) : r = q := by
  obtain ⟨K, h⟩ := h
  obtain ⟨K', h'⟩ := h'
  have := (h (max K K') (by omega)).symm.trans (h' (max K K') (by omega))
  exact Option.some.inj this
/-! a string as a list of numbers -/
def L (s : ByteArray) : List Int := s.data.toList.map (fun c => (c.toNat : Int))
theorem L_length (s : ByteArray) : (L s).length = s.size := by simp [L]
theorem bt_lo (s : ByteArray) (i : Int) : 0 ≤ bt s i := by unfold bt; split <;> omega
theorem bt_hi (s : ByteArray) (i : Int) : bt s i ≤ 255 := by
  unfold bt; split
  · have := UInt8.toNat_lt (s[i.toNat]); omega
  · omega
theorem bt_L (s : ByteArray) (n : Nat) : bt s (n : Int) = (L s).getD n 0 := by
  unfold bt L
  by_cases h : n < s.size
  · simp [h, List.getD_eq_getElem?_getD]; rfl
  · simp [h, List.getD_eq_getElem?_getD]
theorem L_get (s : ByteArray) (n : Nat) (h : n < s.size) : (L s)[n]? = some (bt s n) := by
  rw [bt_L, List.getD_eq_getElem?_getD]
  have : n < (L s).length := by rw [L_length]; exact h
  simp [this]
theorem L_mem {s : ByteArray} {c : Int} (h : c ∈ L s) : 0 ≤ c ∧ c ≤ 255 := by
  unfold L at h
  obtain ⟨u, _, rfl⟩ := List.mem_map.1 h
  have := UInt8.toNat_lt u
  omega
theorem map_toNat_inj : ∀ (l m : List UInt8), l.map (fun c => (c.toNat : Int)) = m.map (fun c => (c.toNat : Int)) → l = m
  | [], [], _ => rfl
  | [], _ :: _, h => by simp at h
  | _ :: _, [], h => by simp at h
  | a :: l, b :: m, h => by
    simp only [List.map_cons, List.cons.injEq] at h
    have h1 : a = b := by apply UInt8.toNat_inj.1; omega
    rw [h1, map_toNat_inj l m h.2]
theorem L_inj {s t : ByteArray} (h : L s = L t) : s = t := by
  have := map_toNat_inj _ _ h
  cases s; cases t
  congr 1
  exact Array.toList_inj.1 this
theorem toList_L {s t : ByteArray} : s.data.toList = t.data.toList ↔ L s = L t := by
  constructor
  · intro h; unfold L; rw [h]
  · intro h; exact map_toNat_inj _ _ h
theorem L_append (s t : ByteArray) : L (s ++ t) = L s ++ L t := by
  unfold L
  rw [ByteArray.data_append]
  simp
/-- The rest of a list from a place on. -/
theorem drop_cons {α : Type} {l : List α} {n : Nat} {c : α} {t : List α} (h : l.drop n = c :: t) : n < l.length ∧ l[n]? = some c ∧ l.drop (n + 1) = t := by
  have h1 : n < l.length := by
    by_cases h1 : n < l.length
    · exact h1
    · rw [List.drop_eq_nil_of_le (by omega)] at h; cases h
  rw [List.drop_eq_getElem_cons h1] at h
  simp only [List.cons.injEq] at h
  exact ⟨h1, by rw [List.getElem?_eq_getElem h1, h.1], h.2⟩
theorem drop_nil {α : Type} {l : List α} {n : Nat} (h : l.drop n = []) : l.length ≤ n := by simpa using h
theorem sdrop_cons {s : ByteArray} {n : Nat} {c : Int} {t : List Int} (h : (L s).drop n = c :: t) : n < s.size ∧ bt s n = c ∧ (L s).drop (n + 1) = t := by
  obtain ⟨h1, h2, h3⟩ := drop_cons h
  rw [L_length] at h1
  rw [L_get s n h1] at h2
  exact ⟨h1, Option.some.inj h2, h3⟩
theorem sdrop_nil {s : ByteArray} {n : Nat} (h : (L s).drop n = []) : s.size ≤ n := by have := drop_nil h; rwa [L_length] at this
theorem wsucc {n m : Nat} (h : n < m) (hm : m ≤ 140737488355328) : wrap64 ((n : Int) + 1) = ((n + 1 : Nat) : Int) := by rw [w64 (by omega) (by omega)]; rfl
/-! digits -/
def isD (c : Int) : Bool := decide (48 ≤ c) && decide (c ≤ 57)
theorem isD_t {c : Int} : isD c = true ↔ 48 ≤ c ∧ c ≤ 57 := by simp [isD]
theorem isD_f {c : Int} : isD c = false ↔ c < 48 ∨ 57 < c := by
  rw [← Bool.not_eq_true, isD_t]; omega
theorem dig_mod {c : Int} (h : isD c = true) : (c - 48) % 256 = c - 48 := by rw [isD_t] at h; omega
/-! ## str -/
theorem tl_eq {s t : ByteArray} : s.toList = t.toList ↔ s = t := by
  rw [ByteArray.toList_eq, ByteArray.toList_eq, toList_L]
  exact ⟨L_inj, fun h => by rw [h]⟩
theorem L_extract (s : ByteArray) (a b : Nat) : L (s.extract a b) = ((L s).take b).drop a := by
  unfold L
  rw [ByteArray.data_extract]
  simp [List.map_drop, List.map_take, List.drop_take]
theorem L_nil : L (⟨#[]⟩ : ByteArray) = [] := rfl
theorem size_L (s : ByteArray) : s.size = (L s).length := (L_length s).symm
theorem size_ext (s : ByteArray) (a b : Nat) : (s.extract a b).size = min b s.size - a := by rw [size_L, L_extract, List.length_drop, List.length_take, L_length]
theorem size_app (s t : ByteArray) : (s ++ t).size = s.size + t.size := by rw [size_L, L_append, List.length_append, L_length, L_length]
/-! ## miDigits -/
/-- No digit ahead of this one is the same. -/
def fresh (s : ByteArray) (i : Nat) : Bool := (List.range i).all (fun k => bt s (k : Int) != bt s (i : Int))
/-- How many different digits there are. -/
def cntD (s : ByteArray) (n : Nat) : Nat := ((List.range n).filter (fresh s)).length
theorem cntD_succ (s : ByteArray) (n : Nat) : cntD s (n + 1) = cntD s n + (if fresh s n = true then 1 else 0) := by
  unfold cntD
  rw [List.range_succ, List.filter_append, List.length_append]
  congr 1
  rw [List.filter_cons, List.filter_nil]
  split <;> rfl
theorem cntD_le (s : ByteArray) (n : Nat) : cntD s n ≤ n := by
  have := List.length_filter_le (fresh s) (List.range n)
  rw [List.length_range] at this
  exact this
theorem miDigits_l1 (s : ByteArray) (hs : s.size ≤ 1000) (i : Nat) (hi : i < s.size) (c : Int) (r : Int) (n : Int) : ∀ (e j : Nat) (is : Bool), j + e = i → is = (List.range j).all (fun k => bt s (k : Int) != bt s (i : Int)) →
    Ev (fun k => spec_miDigits.l0 k s (if fresh s i = true then wrap64 (c + 1) else c) n ((i + 1 : Nat) : Int)) r → Ev (fun k => spec_miDigits.l1 k s c (i : Int) is (j : Int) n (i : Int)) r
  | 0, j, is, hj, his, h => by
    obtain rfl : j = i := by omega
    refine Ev.step (fun _ => spec_miDigits.l1.eq_2 ..) (Ev.neg (by omega) ?_)
    rw [wsucc (m := 1000) (by omega) (by omega)]
    have hf : fresh s j = is := his.symm
    rw [hf] at h
    by_cases c1 : is = true
    · rw [if_pos c1] at h; exact Ev.pos c1 h
    · rw [if_neg c1] at h; exact Ev.neg c1 h
  | e + 1, j, is, hj, his, h => by
    have hall : ∀ b : Bool, b = (is && (bt s (j : Int) != bt s (i : Int))) → b = (List.range (j + 1)).all (fun k => bt s (k : Int) != bt s (i : Int)) := by
      intro b hb
      rw [hb, his, List.range_succ, List.all_append]
      simp
    refine Ev.step (fun _ => spec_miDigits.l1.eq_2 ..) (Ev.pos (by omega) ?_)
    rw [wsucc (m := 1000) (by omega) (by omega)]
    by_cases c1 : is = true
    · exact Ev.pos c1 (Ev.pos (by omega) (Ev.pos (by omega) (Ev.pos (by omega) (Ev.pos (by omega) (miDigits_l1 s hs i hi c r n e (j + 1) _ (by omega) (hall _ (by rw [c1, Bool.true_and])) h)))))
    · exact Ev.neg c1 (miDigits_l1 s hs i hi c r n e (j + 1) _ (by omega) (hall _ (by rw [Bool.eq_false_iff.2 c1, Bool.false_and])) h)
theorem miDigits_l0 (s : ByteArray) (hs : s.size ≤ 1000) : ∀ e i : Nat, i + e = s.size → Ev (fun k => spec_miDigits.l0 k s (cntD s i : Int) (s.size : Int) (i : Int)) (cntD s s.size : Int)
  | 0, i, h => by
    obtain rfl : i = s.size := by omega
    exact Ev.step (fun _ => spec_miDigits.l0.eq_2 ..) (Ev.neg (by omega) (Ev.now _))
  | e + 1, i, h => by
    refine Ev.step (fun _ => spec_miDigits.l0.eq_2 ..) (Ev.pos (by omega) (miDigits_l1 s hs i (by omega) _ _ _ i 0 true (by omega) (by simp) ?_))
    have ih := miDigits_l0 s hs e (i + 1) (by omega)
    have hc := cntD_le s i
    rw [cntD_succ] at ih
    by_cases c : fresh s i = true
    · rw [if_pos c] at ih ⊢
      rw [w64 (by omega) (by omega)]
      exact ih
    · rw [if_neg c] at ih ⊢
      exact ih
theorem miDigits_f (s : ByteArray) (hs : s.size ≤ 1000) (hd : (s.data.toList.all fun c => decide (c.toNat < 128)) = true) : Ev (fun k => spec_miDigits.f k s) (cntD s s.size : Int) := by
  unfold spec_miDigits.f
  exact Ev.pos ⟨hd, by omega⟩ (miDigits_l0 s hs s.size 0 (by omega))
theorem fresh_t {s : ByteArray} {i : Nat} : fresh s i = true ↔ ∀ k, k < i → bt s (k : Int) ≠ bt s (i : Int) := by
  unfold fresh
  rw [List.all_eq_true]
  constructor
  · intro h k hk e
    have := h k (List.mem_range.2 hk)
    rw [e] at this
    simp at this
  · intro h k hk
    simpa using h k (List.mem_range.1 hk)
/-- All digits are the same just where there is one different digit. -/
theorem cntD_one {s : ByteArray} {n : Nat} (hn : 0 < n) : cntD s n = 1 ↔ ∀ i, i < n → bt s (i : Int) = bt s (0 : Int) := by
  obtain ⟨m, rfl⟩ : ∃ m, n = m + 1 := ⟨n - 1, by omega⟩
  clear hn
  have h0 : fresh s 0 = true := rfl
  induction m with
  | zero => exact ⟨fun _ i hi => by obtain rfl : i = 0 := by omega
                                    rfl, fun _ => by rw [cntD_succ, if_pos h0]; rfl⟩
  | succ m ih =>
    rw [cntD_succ]
    have hge : 1 ≤ cntD s (m + 1) := by
      clear ih
      induction m with
      | zero => rw [cntD_succ, if_pos h0]; omega
      | succ m ih => rw [cntD_succ]; omega
    constructor
    · intro h
      have hf : ¬ fresh s (m + 1) = true := fun x => by rw [if_pos x] at h; omega
      rw [if_neg hf] at h
      have ha := ih.1 (by omega)
      intro i hi
      by_cases e : i = m + 1
      · subst e
        rw [fresh_t] at hf
        apply Classical.byContradiction
        intro x
        exact hf (fun k hk y => x (by rw [← y]; exact ha k hk))
      · exact ha i (by omega)
    · intro h
      have hf : ¬ fresh s (m + 1) = true := fun x => (fresh_t.1 x) 0 (by omega) (h (m + 1) (by omega)).symm
      rw [if_neg hf]
      exact ih.2 (fun i hi => h i (by omega))
theorem cntD_all {s : ByteArray} {n : Nat} : cntD s n = n ↔ ∀ i, i < n → fresh s i = true := by
  unfold cntD
  have h := List.length_filter_eq_length_iff (p := fresh s) (l := List.range n)
  rw [List.length_range] at h
  rw [h]
  exact ⟨fun x i hi => x i (List.mem_range.2 hi), fun x i hi => x i (List.mem_range.1 hi)⟩
/-! ## diffV -/
/-! how many different bytes: in order and taken together, or one by one -/
theorem bytesOf_L (s : ByteArray) : bytesOf s = L s := rfl
theorem sortedB_facts (s : ByteArray) : (sortedB s).size = s.size ∧ (∀ i j, i < j → j < s.size → (sortedB s)[i]! ≤ (sortedB s)[j]!) ∧ (sortedB s).toList.Perm (L s) := by
  have hz : (bytesOf s).toArray.size = s.size := by rw [List.size_toArray, bytesOf_L, L_length]
  have h := Go.Sort.insertionSort_holds (lt := Go.Sort.ltInt) Go.Sort.swo_ltInt (bytesOf s).toArray 0 (bytesOf s).toArray.size (Nat.zero_le _) (Nat.le_refl _)
  obtain ⟨⟨h1, _, h3⟩, h4⟩ := h
  refine ⟨by unfold sortedB; omega, fun i j hij hj => ?_, ?_⟩
  · have := h4 i j (Nat.zero_le _) hij (by omega)
    have h5 : decide ((sortedB s)[j]! < (sortedB s)[i]!) = false := this
    rw [decide_eq_false_iff_not] at h5
    omega
  · have e1 : (sortedB s).extract 0 (bytesOf s).toArray.size = sortedB s := by
      apply Array.ext'
      rw [Array.toList_extract]
      show ((sortedB s).toList.take _).drop 0 = _
      rw [List.drop_zero, List.take_of_length_le]
      rw [Array.length_toList]; unfold sortedB; omega
    have e2 : (bytesOf s).toArray.extract 0 (bytesOf s).toArray.size = (bytesOf s).toArray := by
      apply Array.ext'
      rw [Array.toList_extract]
      show ((bytesOf s).toArray.toList.take _).drop 0 = _
      rw [List.drop_zero, List.take_of_length_le]
      rw [Array.length_toList]; exact Nat.le_refl _
    have h3' : ((sortedB s).extract 0 (bytesOf s).toArray.size).toList.Perm ((bytesOf s).toArray.extract 0 (bytesOf s).toArray.size).toList := h3
    rw [e1, e2] at h3'
    exact h3'
theorem getE (d : Array Int) (j : Nat) (h : j < d.size) : d[j]! ∈ d.toList := by
  rw [getElem!_pos d j h]
  exact Array.getElem_mem_toList h
theorem mem_least {P : Nat → Prop} {f : Nat → Int} {x : Int} (hstep : ∀ j, ¬ P j → ∃ i, i < j ∧ f i = f j) : ∀ j, f j = x → ∃ i, i ≤ j ∧ P i ∧ f i = x := by
  intro j
  induction j using Nat.strongRecOn with
  | ind j ih =>
    intro hj
    by_cases h : P j
    · exact ⟨j, Nat.le_refl _, h, hj⟩
    · obtain ⟨i, hi, e⟩ := hstep j h
      obtain ⟨q, hq, h1, h2⟩ := ih i hi (e.trans hj)
      exact ⟨q, by omega, h1, h2⟩
theorem diffV_cnt (s : ByteArray) : diffV s = cntD s s.size := by
  obtain ⟨hz, hs, hp⟩ := sortedB_facts s
  unfold diffV cntD
  rw [hz]
  rw [show ((List.range s.size).filter (fresh s)).length = (((List.range s.size).filter (fresh s)).map (fun i : Nat => bt s (i : Int))).length by rw [List.length_map]]
  apply List.Perm.length_eq
  have memA : ∀ x, x ∈ Go.Lib.compactUpTo (sortedB s) s.size ↔ x ∈ L s := by
    intro x
    unfold Go.Lib.compactUpTo
    rw [List.mem_map, ← hp.mem_iff]
    constructor
    · rintro ⟨j, hj, rfl⟩
      exact getE _ j (by have := List.mem_range.1 (List.mem_filter.1 hj).1; omega)
    · intro hx
      obtain ⟨j, hj, e⟩ := List.getElem_of_mem hx
      rw [Array.length_toList] at hj
      have e2 : (sortedB s)[j]! = x := by rw [getElem!_pos _ j hj, ← Array.getElem_toList]; exact e
      obtain ⟨i, hi, h1, h2⟩ := mem_least (P := fun i => Go.Lib.keeps (sortedB s) i = true) (f := fun i => (sortedB s)[i]!) (x := x) (fun q hq => by
        unfold Go.Lib.keeps at hq
        rw [decide_eq_true_eq, not_or, Classical.not_not] at hq
        exact ⟨q - 1, by omega, hq.2.symm⟩) j e2
      exact ⟨i, List.mem_filter.2 ⟨List.mem_range.2 (by omega), h1⟩, h2⟩
  have memB : ∀ x, x ∈ ((List.range s.size).filter (fresh s)).map (fun i : Nat => bt s (i : Int)) ↔ x ∈ L s := by
    intro x
    rw [List.mem_map]
    constructor
    · rintro ⟨j, hj, rfl⟩
      exact List.mem_of_getElem? (L_get s j (List.mem_range.1 (List.mem_filter.1 hj).1))
    · intro hx
      obtain ⟨j, hj, e⟩ := List.getElem_of_mem hx
      rw [L_length] at hj
      have e2 : bt s (j : Int) = x := by
        have := L_get s j hj
        rw [List.getElem?_eq_getElem (by rw [L_length]; exact hj), e] at this
        exact (Option.some.inj this).symm
      obtain ⟨i, hi, h1, h2⟩ := mem_least (P := fun i => fresh s i = true) (f := fun i => bt s (i : Int)) (x := x) (fun q hq => by
        rw [fresh_t] at hq
        apply Classical.byContradiction
        intro hn
        exact hq (fun k hk e => hn ⟨k, hk, e⟩)) j e2
      exact ⟨i, List.mem_filter.2 ⟨List.mem_range.2 (by omega), h1⟩, h2⟩
  have ndA : (Go.Lib.compactUpTo (sortedB s) s.size).Nodup := by
    unfold Go.Lib.compactUpTo List.Nodup
    rw [List.pairwise_map]
    refine List.Pairwise.imp_of_mem ?_ (List.Pairwise.filter _ List.pairwise_lt_range)
    intro i j hi hj hij e
    have hj' := List.mem_filter.1 hj
    have hjn := List.mem_range.1 hj'.1
    have hk := hj'.2
    unfold Go.Lib.keeps at hk
    rw [decide_eq_true_eq] at hk
    rcases hk with hk | hk
    · omega
    · have h1 := hs (j - 1) j (by omega) hjn
      by_cases e2 : i = j - 1
      · subst e2; exact hk e.symm
      · have h2 := hs i (j - 1) (by omega) (by omega)
        omega
  have ndB : (((List.range s.size).filter (fresh s)).map (fun i : Nat => bt s (i : Int))).Nodup := by
    unfold List.Nodup
    rw [List.pairwise_map]
    refine List.Pairwise.imp_of_mem ?_ (List.Pairwise.filter _ List.pairwise_lt_range)
    intro i j hi hj hij e
    exact (fresh_t.1 (List.mem_filter.1 hj).2) i hij e
  exact (List.perm_ext_iff_of_nodup ndA ndB).2 (fun x => (memA x).trans (memB x).symm)
theorem differs_f (s : ByteArray) (h : s.size ≤ 12) : impl_differs.f s = some (cntD s s.size : Int) := by
  unfold impl_differs.f
  rw [if_pos ⟨h, (sortedB_facts s).1⟩, diffV_cnt]
/-! ## num -/
/-- Ten to a power. -/
def p10 (n : Nat) : Int := 10 ^ n
theorem p10_succ (n : Nat) : p10 (n + 1) = 10 * p10 n := by unfold p10; rw [Int.pow_succ, Int.mul_comm]
theorem p10_pos (n : Nat) : 1 ≤ p10 n := by
  induction n with
  | zero => decide
  | succ n ih => rw [p10_succ]; omega
theorem p10_mono {n m : Nat} (h : n ≤ m) : p10 n ≤ p10 m := by
  obtain ⟨d, rfl⟩ : ∃ d, m = n + d := ⟨m - n, by omega⟩
  clear h
  induction d with
  | zero => exact Int.le_refl _
  | succ d ih => rw [← Nat.add_assoc, p10_succ]; have := p10_pos (n + d); omega
theorem p10_9 {n : Nat} (h : n ≤ 9) : p10 n ≤ 1000000000 := p10_mono h
/-- The number that digits tell, behind what stands before them. -/
def numF (a : Int) (l : List Int) : Int := l.foldl (fun n c => 10 * n + (c - 48)) a
theorem numF_cons (a c : Int) (l : List Int) : numF a (c :: l) = numF (10 * a + (c - 48)) l := rfl
theorem numF_bd : ∀ (l : List Int) (a : Int), l.all isD = true → 0 ≤ a → a * p10 l.length ≤ numF a l ∧ numF a l < (a + 1) * p10 l.length
  | [], a, _, h => by simp [numF, p10]; omega
  | c :: l, a, hl, h => by
    rw [List.all_cons, Bool.and_eq_true] at hl
    have hc := isD_t.1 hl.1
    have ih := numF_bd l (10 * a + (c - 48)) hl.2 (by omega)
    have hp := p10_pos l.length
    rw [numF_cons, List.length_cons, p10_succ]
    have e1 : a * (10 * p10 l.length) ≤ (10 * a + (c - 48)) * p10 l.length := by
      rw [← Int.mul_assoc]; exact Int.mul_le_mul_of_nonneg_right (by omega) (by omega)
    have e2 : (10 * a + (c - 48) + 1) * p10 l.length ≤ (a + 1) * (10 * p10 l.length) := by
      rw [← Int.mul_assoc]; exact Int.mul_le_mul_of_nonneg_right (by omega) (by omega)
    omega
/-- A number with room for so many digits behind it. -/
theorem num_step {a c : Int} {n : Nat} (ha : 0 ≤ a) (hc : 48 ≤ c ∧ c ≤ 57) (h : (a + 1) * p10 (n + 1) ≤ 1000000000000000000) : 0 ≤ 10 * a + (c - 48) ∧ (10 * a + (c - 48) + 1) * p10 n ≤ 1000000000000000000 ∧ 10 * a + (c - 48) ≤ 1000000000000000000 := by
  have hp := p10_pos n
  rw [p10_succ, ← Int.mul_assoc] at h
  have e2 : (10 * a + (c - 48) + 1) * p10 n ≤ (a + 1) * 10 * p10 n := Int.mul_le_mul_of_nonneg_right (by omega) (by omega)
  have e3 : (10 * a + (c - 48) + 1) * 1 ≤ (10 * a + (c - 48) + 1) * p10 n := Int.mul_le_mul_of_nonneg_left hp (by omega)
  omega
/-! ## dec -/
/-- The decimal digits of a number, as bytes told as numbers. -/
def Dg (n : Nat) : List Int := (Go.Lib.decDigits n).map (fun c => (c.toNat : Int))
theorem u8n {n : Nat} (h : n < 256) : (((UInt8.ofNat n).toNat : Nat) : Int) = (n : Int) := by
  rw [UInt8.toNat_ofNat', Nat.mod_eq_of_lt (by omega)]
theorem Dg_small {n : Nat} (h : n < 10) : Dg n = [48 + (n : Int)] := by
  unfold Dg
  rw [Go.Lib.decDigits, dif_pos h, List.map_cons, List.map_nil, u8n (by omega)]
  rfl
theorem Dg_big {n : Nat} (h : 10 ≤ n) : Dg n = Dg (n / 10) ++ [48 + ((n % 10 : Nat) : Int)] := by
  unfold Dg
  conv => lhs; rw [Go.Lib.decDigits, dif_neg (by omega)]
  rw [List.map_append, List.map_cons, List.map_nil, u8n (by omega)]
  rfl
theorem L_itoa (n : Nat) : L (⟨(Go.Lib.itoa (n : Int)).toArray⟩ : ByteArray) = Dg n := by
  unfold L Dg Go.Lib.itoa
  rw [if_neg (by omega), Int.toNat_natCast]
theorem L_dec (n : Nat) : L (⟨(Go.Lib.decDigits n).toArray⟩ : ByteArray) = Dg n := rfl
theorem Dg_dig : ∀ b n : Nat, n ≤ b → (Dg n).all isD = true
  | 0, n, h => by
    rw [Dg_small (by omega)]
    simp [isD]; omega
  | b + 1, n, h => by
    by_cases hn : n < 10
    · rw [Dg_small hn]
      simp [isD]; omega
    · rw [Dg_big (by omega), List.all_append, Dg_dig b (n / 10) (by omega)]
      simp [isD]; omega
theorem Dg_isD (n : Nat) : (Dg n).all isD = true := Dg_dig n n (Nat.le_refl _)
theorem Dg_pos : ∀ n : Nat, 1 ≤ (Dg n).length := by
  intro n
  by_cases hn : n < 10
  · rw [Dg_small hn]; simp
  · rw [Dg_big (by omega)]; simp
theorem numF_app (a : Int) (l m : List Int) : numF a (l ++ m) = numF (numF a l) m := by unfold numF; rw [List.foldl_append]
theorem Dg_num : ∀ b n : Nat, n ≤ b → numF 0 (Dg n) = n
  | 0, n, h => by
    rw [Dg_small (by omega)]
    simp [numF]; omega
  | b + 1, n, h => by
    by_cases hn : n < 10
    · rw [Dg_small hn]
      simp [numF]; omega
    · rw [Dg_big (by omega), numF_app, Dg_num b (n / 10) (by omega)]
      simp [numF]; omega
theorem num_Dg (n : Nat) : numF 0 (Dg n) = n := Dg_num n n (Nat.le_refl _)
/-- The last k digits of a number, zeros in front. -/
def TD : Nat → Nat → List Int
  | 0, _ => []
  | k + 1, n => TD k (n / 10) ++ [48 + ((n % 10 : Nat) : Int)]
theorem TD_len : ∀ k n, (TD k n).length = k
  | 0, _ => rfl
  | k + 1, n => by rw [TD, List.length_append, TD_len k]; rfl
theorem TD_dig : ∀ k n, (TD k n).all isD = true
  | 0, _ => rfl
  | k + 1, n => by
    rw [TD, List.all_append, TD_dig k]
    simp [isD]; omega
theorem TD_num : ∀ k n : Nat, n < 10 ^ k → numF 0 (TD k n) = n
  | 0, n, h => by
    simp at h
    subst h
    rfl
  | k + 1, n, h => by
    rw [Nat.pow_succ] at h
    rw [TD, numF_app, TD_num k (n / 10) (by omega)]
    simp [numF]; omega
theorem TD_Dg : ∀ k n : Nat, n < 10 ^ (k + 1) → (Dg n).length ≤ k + 1 ∧ TD (k + 1) n = List.replicate (k + 1 - (Dg n).length) 48 ++ Dg n
  | 0, n, h => by
    have hn : n < 10 := by simpa using h
    rw [Dg_small hn]
    refine ⟨by simp, ?_⟩
    rw [TD, TD, Nat.mod_eq_of_lt hn]
    simp
  | k + 1, n, h => by
    rw [Nat.pow_succ] at h
    obtain ⟨h1, h2⟩ := TD_Dg k (n / 10) (by omega)
    rw [TD, h2]
    by_cases hn : n < 10
    · have h0 : n / 10 = 0 := by omega
      rw [h0, Dg_small hn, Dg_small (by omega), Nat.mod_eq_of_lt hn]
      refine ⟨by simp, ?_⟩
      simp only [List.length_singleton, Nat.add_sub_cancel]
      rw [List.replicate_succ']
      simp
    · rw [Dg_big (n := n) (by omega), List.length_append, List.length_singleton]
      refine ⟨by omega, ?_⟩
      rw [show k + 1 + 1 - ((Dg (n / 10)).length + 1) = k + 1 - (Dg (n / 10)).length by omega, List.append_assoc]
/-- Ten to a power in both kinds of numbers. -/
theorem p10_nat (k : Nat) : p10 k = ((10 ^ k : Nat) : Int) := by unfold p10; exact (Int.natCast_pow 10 k).symm
/-! ## strnum -/
theorem ofNat_toNat {c : Int} (h : 0 ≤ c ∧ c ≤ 255) : (((UInt8.ofNat c.toNat).toNat : Nat) : Int) = c := by
  rw [UInt8.toNat_ofNat', Nat.mod_eq_of_lt (by omega)]; omega
theorem L_strOfNums (l : List Int) (h : ∀ c ∈ l, 0 ≤ c ∧ c ≤ 255) : L (strOfNums l) = l := by
  unfold L strOfNums
  rw [List.map_map]
  conv => rhs; rw [← List.map_id l]
  exact List.map_congr_left (fun c hc => ofNat_toNat (h c hc))
/-! ## ts -/
/-- The text of so many digits with a number. -/
def TS (k n : Nat) : ByteArray := strOfNums (TD k n)
theorem TD_byte (k n : Nat) : ∀ c ∈ TD k n, 0 ≤ c ∧ c ≤ 255 := by
  intro c hc
  have := isD_t.1 (List.all_eq_true.1 (TD_dig k n) c hc)
  omega
theorem L_TS (k n : Nat) : L (TS k n) = TD k n := L_strOfNums _ (TD_byte k n)
theorem TS_size (k n : Nat) : (TS k n).size = k := by rw [size_L, L_TS, TD_len]
/-! ## tdnum -/
theorem TD_numF : ∀ (k : Nat) (l : List Int), l.length = k → l.all isD = true → TD k (numF 0 l).toNat = l
  | 0, l, h, _ => by
    obtain rfl : l = [] := List.length_eq_zero_iff.1 h
    rfl
  | k + 1, l, h, hd => by
    obtain ⟨l', c, rfl⟩ : ∃ l' c, l = l' ++ [c] := ⟨l.dropLast, l.getLast (by intro e; simp [e] at h), (List.dropLast_concat_getLast _).symm⟩
    rw [List.all_append, Bool.and_eq_true] at hd
    have hc : isD c = true := by simpa using hd.2
    have hc' := isD_t.1 hc
    have hb := (numF_bd l' 0 hd.1 (by omega)).1
    have ih := TD_numF k l' (by simpa using h) hd.1
    have e : numF 0 (l' ++ [c]) = 10 * numF 0 l' + (c - 48) := by rw [numF_app]; rfl
    rw [Int.zero_mul] at hb
    rw [e, TD, show (10 * numF 0 l' + (c - 48)).toNat / 10 = (numF 0 l').toNat by omega, ih, show ((((10 * numF 0 l' + (c - 48)).toNat % 10 : Nat) : Int)) = c - 48 by omega]
    congr 2
    omega
theorem num_lt {l : List Int} (hd : l.all isD = true) : 0 ≤ numF 0 l ∧ (numF 0 l).toNat < 10 ^ l.length ∧ numF 0 l < p10 l.length := by
  obtain ⟨h1, h2⟩ := numF_bd l 0 hd (by omega)
  rw [Int.zero_mul] at h1
  rw [show ((0 : Int) + 1) * p10 l.length = p10 l.length by rw [Int.zero_add, Int.one_mul]] at h2
  refine ⟨h1, ?_, h2⟩
  rw [p10_nat] at h2
  omega
/-! ## tsd -/
/-! digits of texts told by numbers -/
theorem TD_get : ∀ (k n j : Nat), j < k → (TD k n)[j]? = some (48 + ((n / 10 ^ (k - 1 - j) % 10 : Nat) : Int))
  | 0, n, j, h => by omega
  | k + 1, n, j, h => by
    rw [TD]
    by_cases e : j = k
    · subst e
      rw [List.getElem?_append_right (by rw [TD_len]; omega), TD_len, Nat.sub_self, show j + 1 - 1 - j = 0 by omega, Nat.pow_zero, Nat.div_one]
      rfl
    · rw [List.getElem?_append_left (by rw [TD_len]; omega), TD_get k (n / 10) j (by omega), Nat.div_div_eq_div_mul, show k + 1 - 1 - j = k - 1 - j + 1 by omega, Nat.pow_succ, Nat.mul_comm 10]
theorem bt_TS {k n j : Nat} (h : j < k) : bt (TS k n) (j : Int) = 48 + ((n / 10 ^ (k - 1 - j) % 10 : Nat) : Int) := by
  have h1 := L_get (TS k n) j (by rw [TS_size]; exact h)
  rw [L_TS, TD_get k n j h] at h1
  exact (Option.some.inj h1).symm
theorem TS_snoc {j v c : Nat} (h : c < 10) : TS j v ++ strOfNums [48 + (c : Int)] = TS (j + 1) (10 * v + c) := by
  apply L_inj
  rw [L_append, L_TS, L_TS, L_strOfNums _ (by intro x hx; rw [List.mem_singleton] at hx; omega), TD, show (10 * v + c) / 10 = v by omega, show (10 * v + c) % 10 = c by omega]
theorem TS_ext (n x i : Nat) (h : i ≤ n) : (TS n x).extract 0 i = TS i (x / 10 ^ (n - i)) := by
  apply L_inj
  rw [L_extract, L_TS, L_TS, List.drop_zero]
  apply List.ext_getElem?
  intro j
  rw [List.getElem?_take]
  by_cases hj : j < i
  · rw [if_pos hj, TD_get n x j (by omega), TD_get i _ j hj, Nat.div_div_eq_div_mul, ← Nat.pow_add, show n - i + (i - 1 - j) = n - 1 - j by omega]
  · rw [if_neg hj, List.getElem?_eq_none (by rw [TD_len]; omega)]
theorem TS_inj {n x y : Nat} (hx : x < 10 ^ n) (hy : y < 10 ^ n) (h : TS n x = TS n y) : x = y := by
  have h1 := congrArg (fun s => numF 0 (L s)) h
  simp only [L_TS] at h1
  rw [TD_num n x hx, TD_num n y hy] at h1
  omega
/-- A reading is the text of its number. -/
theorem TS_of {s : ByteArray} (hd : (L s).all isD = true) : s = TS s.size (numF 0 (L s)).toNat := by
  apply L_inj
  rw [L_TS, TD_numF s.size (L s) (L_length s) hd]
/-- Ranges of numbers that begin with the same digits. -/
theorem in_pre {x v p : Nat} (hp : 0 < p) : x / p = v ↔ v * p ≤ x ∧ x < (v + 1) * p := by
  rw [Nat.div_eq_iff hp]
  have : (v + 1) * p = v * p + p := by rw [Nat.add_mul, Nat.one_mul]
  omega
/-! ## bless -/
/-! texts of digits, compared as texts, are compared as numbers -/
theorem bless_snoc : ∀ (a b : List UInt8) (x y : UInt8), a.length = b.length → Op.bytesLess (a ++ [x]) (b ++ [y]) = (Op.bytesLess a b || (a == b && decide (x < y)))
  | [], [], x, y, _ => by simp [Op.bytesLess]
  | [], _ :: _, _, _, h => by simp at h
  | _ :: _, [], _, _, h => by simp at h
  | c :: a, d :: b, x, y, h => by
    have ih := bless_snoc a b x y (by simpa using h)
    by_cases e : c = d
    · subst e
      simp [Op.bytesLess, ih, UInt8.lt_irrefl]
    · have e' : (c == d) = false := beq_eq_false_iff_ne.2 e
      simp [Op.bytesLess, e']
theorem bless_TS : ∀ (k a b : Nat), a < 10 ^ k → b < 10 ^ k → Op.bytesLess (TS k a).toList (TS k b).toList = decide (a < b)
  | 0, a, b, ha, hb => by
    simp at ha hb
    subst ha; subst hb
    have e : (TS 0 0).toList = [] := by rw [ByteArray.toList_eq]; rfl
    rw [e]; rfl
  | k + 1, a, b, ha, hb => by
    rw [Nat.pow_succ] at ha hb
    have ih := bless_TS k (a / 10) (b / 10) (by omega) (by omega)
    have sp : ∀ n, (TS (k + 1) n).toList = (TS k (n / 10)).toList ++ [UInt8.ofNat (48 + n % 10)] := by
      intro n
      rw [ByteArray.toList_eq, ByteArray.toList_eq]
      apply map_toNat_inj
      have h1 : L (TS (k + 1) n) = L (TS k (n / 10)) ++ [48 + ((n % 10 : Nat) : Int)] := by rw [L_TS, L_TS]; rfl
      unfold L at h1
      rw [h1, List.map_append, List.map_cons, List.map_nil, u8n (by omega)]
      congr 1
    have hl : (TS k (a / 10)).toList.length = (TS k (b / 10)).toList.length := by
      rw [ByteArray.toList_eq, ByteArray.toList_eq]
      have h1 := TS_size k (a / 10)
      have h2 := TS_size k (b / 10)
      rw [size_L] at h1 h2
      unfold L at h1 h2
      rw [List.length_map] at h1 h2
      omega
    have heq : ((TS k (a / 10)).toList == (TS k (b / 10)).toList) = decide (a / 10 = b / 10) := by
      by_cases e : a / 10 = b / 10
      · rw [e]; simp
      · rw [decide_eq_false e, beq_eq_false_iff_ne]
        intro h
        exact e (TS_inj (by omega) (by omega) (tl_eq.1 h))
    have hlt : decide (UInt8.ofNat (48 + a % 10) < UInt8.ofNat (48 + b % 10)) = decide (a % 10 < b % 10) := by
      congr 1
      rw [UInt8.lt_iff_toNat_lt, UInt8.toNat_ofNat', UInt8.toNat_ofNat', Nat.mod_eq_of_lt (show 48 + a % 10 < 2 ^ 8 by omega), Nat.mod_eq_of_lt (show 48 + b % 10 < 2 ^ 8 by omega)]
      exact propext ⟨fun h => by omega, fun h => by omega⟩
    rw [sp, sp, bless_snoc _ _ _ _ hl, ih, heq, hlt, Bool.eq_iff_iff, Bool.or_eq_true, Bool.and_eq_true, decide_eq_true_eq, decide_eq_true_eq, decide_eq_true_eq, decide_eq_true_eq]
    omega
/-! ## full -/
/-! the least number of a range that has a property -/
def leastIn (P : Nat → Bool) (a b : Nat) : Option Nat := (List.range' a (b - a)).find? P
theorem leastIn_none {P : Nat → Bool} {a b : Nat} : leastIn P a b = none ↔ ∀ x, a ≤ x → x < b → P x = false := by
  unfold leastIn
  rw [List.find?_eq_none]
  constructor
  · intro h x h1 h2
    have := h x (List.mem_range'_1.2 ⟨h1, by omega⟩)
    simpa using this
  · intro h x hx
    have := List.mem_range'_1.1 hx
    simp [h x this.1 (by omega)]
theorem leastIn_some {P : Nat → Bool} {a b x : Nat} : leastIn P a b = some x ↔ (a ≤ x ∧ x < b) ∧ P x = true ∧ ∀ y, a ≤ y → y < x → P y = false := by
  constructor
  · intro h
    have hP := List.find?_some h
    have hm := List.mem_range'_1.1 (List.mem_of_find?_eq_some h)
    refine ⟨⟨hm.1, by omega⟩, hP, fun y h1 h2 => ?_⟩
    have h3 := List.find?_eq_some_iff_getElem.1 h
    obtain ⟨_, i, hi, hx, hall⟩ := h3
    simp only [List.getElem_range'] at hx
    have h4 := hall (y - a) (by omega)
    simp only [List.getElem_range', Bool.not_eq_true', Nat.one_mul] at h4
    rw [show a + (y - a) = y by omega] at h4
    exact h4
  · intro ⟨⟨h1, h2⟩, h3, h4⟩
    cases h : leastIn P a b with
    | none => rw [leastIn_none] at h; rw [h x h1 h2] at h3; cases h3
    | some z =>
      have hP := List.find?_some h
      have hm := List.mem_range'_1.1 (List.mem_of_find?_eq_some h)
      have hz : ∀ y, a ≤ y → y < z → P y = false := by
        intro y k1 k2
        obtain ⟨_, i, hi, hx, hall⟩ := List.find?_eq_some_iff_getElem.1 h
        simp only [List.getElem_range'] at hx
        have h5 := hall (y - a) (by omega)
        simp only [List.getElem_range', Bool.not_eq_true', Nat.one_mul] at h5
        rw [show a + (y - a) = y by omega] at h5
        exact h5
      rcases Nat.lt_trichotomy x z with e | e | e
      · rw [hz x h1 e] at h3; cases h3
      · rw [e]
      · rw [h4 z hm.1 e] at hP; cases hP
theorem leastIn_split {P : Nat → Bool} {a b c : Nat} (h1 : a ≤ b) (h2 : b ≤ c) : leastIn P a c = (leastIn P a b).or (leastIn P b c) := by
  unfold leastIn
  rw [show List.range' a (c - a) = List.range' a (b - a) ++ List.range' b (c - b) by
    rw [show c - a = (b - a) + (c - b) by omega, ← List.range'_append_1, show a + (b - a) = b by omega], List.find?_append]
theorem leastIn_congr {P Q : Nat → Bool} {a b : Nat} (h : ∀ x, a ≤ x → x < b → P x = Q x) : leastIn P a b = leastIn Q a b := by
  cases e : leastIn Q a b with
  | none =>
    rw [leastIn_none] at e ⊢
    intro x h1 h2; rw [h x h1 h2]; exact e x h1 h2
  | some z =>
    rw [leastIn_some] at e ⊢
    obtain ⟨⟨h1, h2⟩, h3, h4⟩ := e
    exact ⟨⟨h1, h2⟩, by rw [h z h1 h2]; exact h3, fun y k1 k2 => by rw [h y k1 (by omega)]; exact h4 y k1 k2⟩
/-- Numbers that do not come up to a bound are left out. -/
theorem leastIn_from {P : Nat → Bool} {a b c : Nat} (h1 : a ≤ b) (h2 : b ≤ c) : leastIn (fun x => decide (b ≤ x) && P x) a c = leastIn P b c := by
  rw [leastIn_split h1 h2, leastIn_none.2 (fun x _ h => by simp; intro h'; omega), Option.none_or]
  exact leastIn_congr (fun x h _ => by simp [h])
/-! ## decs -/
/-- A number's decimal text. -/
def decS (n : Nat) : ByteArray := ⟨(Go.Lib.decDigits n).toArray⟩
theorem L_decS (n : Nat) : L (decS n) = Dg n := rfl
theorem Dg_le19 (n : Nat) (h : n ≤ 9223372036854775807) : (Dg n).length ≤ 19 := (TD_Dg 18 n (by omega)).1
theorem size_decS (n : Nat) : (decS n).size = (Dg n).length := by rw [size_L, L_decS]
theorem one_dig {n : Nat} (h : n < 10) : strOfNums [wrap64 (48 + (n : Int)) % 256] = decS n := by
  apply L_inj
  rw [L_decS, Dg_small h, w64 (by omega) (by omega), Int.emod_eq_of_lt (by omega) (by omega), L_strOfNums]
  intro c hc
  rw [List.mem_singleton] at hc
  omega
/-! ## l1Num -/
theorem l1Num_b : ∀ b n : Nat, n ≤ b → n ≤ 9223372036854775807 → Ev (fun k => spec_l1Num.f k (n : Int)) (decS n)
  | 0, n, h, hb => by
    refine Ev.step (fun _ => spec_l1Num.f.eq_2 ..) (Ev.pos (by omega) (Ev.eq ?_ (Ev.now _)))
    exact (one_dig (by omega)).symm
  | b + 1, n, h, hb => by
    refine Ev.step (fun _ => spec_l1Num.f.eq_2 ..) ?_
    by_cases hn : n < 10
    · exact Ev.pos (by omega) (Ev.eq (one_dig hn).symm (Ev.now _))
    · refine Ev.neg (by omega) ?_
      rw [show Int.tdiv (n : Int) 10 = ((n / 10 : Nat) : Int) from rfl, w64n (x := n / 10) (by omega), show Int.tmod (n : Int) 10 = ((n % 10 : Nat) : Int) from rfl]
      refine Ev.bind (l1Num_b b (n / 10) (by omega) (by omega)) (Ev.sm rfl ?_)
      rw [one_dig (n := n % 10) (by omega)]
      have h1 : (decS (n / 10)).size ≤ 19 := by rw [size_decS]; exact Dg_le19 _ (by omega)
      have h2 : (decS (n % 10)).size ≤ 19 := by rw [size_decS]; exact Dg_le19 _ (by omega)
      refine Ev.pos (by omega) (Ev.eq ?_ (Ev.now _))
      apply L_inj
      rw [L_append, L_decS, L_decS, L_decS, Dg_big (n := n) (by omega), Dg_small (n := n % 10) (by omega)]
theorem l1Num_f (n : Nat) (h : n ≤ 9223372036854775807) : Ev (fun k => spec_l1Num.f k (n : Int)) (decS n) := l1Num_b n n (Nat.le_refl _) h
/-! ## good128 -/
theorem good_128 {s : ByteArray} (h : (L s).all isD = true) : (s.data.toList.all fun c => decide (c.toNat < 128)) = true := by
  rw [List.all_eq_true]
  intro c hc
  have h1 : (c.toNat : Int) ∈ L s := List.mem_map_of_mem hc
  have h2 := isD_t.1 (List.all_eq_true.1 h _ h1)
  rw [decide_eq_true_eq]; omega
/-! ## txtO -/
def txtO (n : Nat) : Option Nat → ByteArray
  | some x => TS n x
  | none => ⟨#[]⟩
theorem txtO_nil (n : Nat) (h : 1 ≤ n) (o : Option Nat) : (txtO n o).toList = ([] : List UInt8) ↔ o = none := by
  have e0 : (⟨#[]⟩ : ByteArray).toList = [] := by rw [ByteArray.toList_eq]
  cases o with
  | none => exact ⟨fun _ => rfl, fun _ => e0⟩
  | some x =>
    refine ⟨fun h2 => ?_, fun h2 => by cases h2⟩
    have h3 := congrArg ByteArray.size (tl_eq.1 (h2.trans e0.symm))
    rw [show txtO n (some x) = TS n x from rfl, TS_size] at h3
    have h4 : (⟨#[]⟩ : ByteArray).size = 0 := rfl
    omega
theorem decS_small {c : Nat} (h : c < 10) : decS c = strOfNums [48 + (c : Int)] := by
  rw [← one_dig h, w64 (by omega) (by omega), Int.emod_eq_of_lt (by omega) (by omega)]
/-! ## miSome -/
/-! spec.miSome: the least reading that begins with some digits, is not before another one, and has just so many different digits -/
def CN (n y : Nat) : Nat := cntD (TS n y) n
theorem cntD_mono (s : ByteArray) : ∀ e m, cntD s m ≤ cntD s (m + e) ∧ cntD s (m + e) ≤ cntD s m + e
  | 0, m => ⟨Nat.le_refl _, Nat.le_refl _⟩
  | e + 1, m => by
    obtain ⟨h1, h2⟩ := cntD_mono s e m
    rw [← Nat.add_assoc, cntD_succ]
    split <;> omega
theorem bt_pre {n j y i : Nat} (hj : j ≤ n) (hi : i < j) : bt (TS j (y / 10 ^ (n - j))) (i : Int) = bt (TS n y) (i : Int) := by
  rw [← TS_ext n y j hj, bt_L, bt_L, L_extract, List.drop_zero, List.getD_eq_getElem?_getD, List.getD_eq_getElem?_getD, List.getElem?_take, if_pos hi]
theorem cntD_pre {n j y : Nat} (hj : j ≤ n) : cntD (TS j (y / 10 ^ (n - j))) j = cntD (TS n y) j := by
  unfold cntD
  congr 1
  apply List.filter_congr
  intro i hi
  have hij := List.mem_range.1 hi
  rw [Bool.eq_iff_iff, fresh_t, fresh_t]
  constructor
  · intro g k hk; rw [← bt_pre hj (by omega), ← bt_pre hj hij]; exact g k hk
  · intro g k hk; rw [bt_pre hj (by omega), bt_pre hj hij]; exact g k hk
theorem CN_bd {n j y v : Nat} (hj : j ≤ n) (hv : y / 10 ^ (n - j) = v) : cntD (TS j v) j ≤ CN n y ∧ CN n y ≤ cntD (TS j v) j + (n - j) := by
  rw [← hv, cntD_pre hj]
  have h := cntD_mono (TS n y) (n - j) j
  rw [show j + (n - j) = n by omega] at h
  exact h
def CS (n : Nat) (many : Int) (x y : Nat) : Bool := decide (x ≤ y) && decide ((CN n y : Int) = many)
theorem cnt_f (j v : Nat) (hj : j ≤ 1000) : Ev (fun k => spec_miDigits.f k (TS j v)) (cntD (TS j v) j : Int) := by
  have h := miDigits_f (TS j v) (by rw [TS_size]; exact hj) (good_128 (by rw [L_TS]; exact TD_dig _ _))
  rw [TS_size] at h
  exact h
theorem miSome_l0 {n x j v d : Nat} {many : Int} {P : Nat → Bool} (h1 : 1 ≤ n) (h9 : n ≤ 9) (hd : j + (d + 1) = n)
    (hin : ∀ u, u < 10 ^ (j + 1) → Ev (fun k => spec_miSome.f k (TS n x) (TS (j + 1) u) many) (txtO n (leastIn P (u * 10 ^ d) ((u + 1) * 10 ^ d)))) (hv : v < 10 ^ j) :
    ∀ e cc : Nat, cc + e = 10 → Ev (fun k => spec_miSome.l0 k (TS n x) (TS j v) many (cc : Int)) (txtO n (leastIn P ((10 * v + cc) * 10 ^ d) ((10 * v + 10) * 10 ^ d)))
  | 0, cc, hc => by
    obtain rfl : cc = 10 := by omega
    rw [leastIn_none.2 (fun x a b => absurd a (Nat.not_le.2 b))]
    exact Ev.step (fun _ => spec_miSome.l0.eq_2 ..) (Ev.neg (by omega) (Ev.now _))
  | e + 1, cc, hc => by
    have ih := miSome_l0 h1 h9 hd hin hv e (cc + 1) (by omega)
    have hu : 10 * v + cc < 10 ^ (j + 1) := by rw [Nat.pow_succ]; omega
    rw [leastIn_split (b := (10 * v + (cc + 1)) * 10 ^ d) (Nat.mul_le_mul_right _ (by omega)) (Nat.mul_le_mul_right _ (by omega))]
    have hz : (decS cc).size = 1 := by rw [size_decS, Dg_small (by omega)]; rfl
    refine Ev.step (fun _ => spec_miSome.l0.eq_2 ..) (Ev.pos (by omega) (Ev.bind (l1Num_f cc (by omega)) (Ev.pos (by rw [TS_size, hz]; omega) ?_)))
    rw [decS_small (by omega), TS_snoc (by omega), wsucc (m := 10) (by omega) (by omega)]
    refine Ev.bind (hin _ hu) ?_
    rw [show 10 * v + cc + 1 = 10 * v + (cc + 1) by omega]
    cases ho : leastIn P ((10 * v + cc) * 10 ^ d) ((10 * v + (cc + 1)) * 10 ^ d) with
    | none => rw [Option.none_or]; exact Ev.pos ((txtO_nil n h1 none).2 rfl) ih
    | some x => rw [Option.some_or]; exact Ev.neg (fun h => by have := (txtO_nil n h1 (some x)).1 h; cases this) (Ev.now _)
theorem miSome_f {n x : Nat} {many : Int} (h1 : 1 ≤ n) (h9 : n ≤ 9) (hx : x < 10 ^ n) :
    ∀ d j v : Nat, j + d = n → v < 10 ^ j → Ev (fun k => spec_miSome.f k (TS n x) (TS j v) many) (txtO n (leastIn (CS n many x) (v * 10 ^ d) ((v + 1) * 10 ^ d))) := by
  intro d
  induction d with
  | zero =>
    intro j v hj hv
    obtain rfl : j = n := by omega
    have hc := CN_bd (n := j) (j := j) (y := v) (v := v) (Nat.le_refl _) (by rw [Nat.sub_self, Nat.pow_zero, Nat.div_one])
    have hcl := cntD_le (TS j v) j
    have hl : leastIn (CS j many x) (v * 10 ^ 0) ((v + 1) * 10 ^ 0) = if CS j many x v = true then some v else none := by
      rw [Nat.pow_zero, Nat.mul_one, Nat.mul_one]
      by_cases hp : CS j many x v = true
      · rw [if_pos hp, leastIn_some]; exact ⟨⟨Nat.le_refl _, by omega⟩, hp, fun y a b => by omega⟩
      · rw [if_neg hp, leastIn_none]; intro y a b; obtain rfl : y = v := by omega
        simpa using hp
    rw [hl]
    refine Ev.step (fun _ => spec_miSome.f.eq_2 ..) (Ev.bind (cnt_f j v (by omega)) ?_)
    rw [TS_size, TS_size, Int.toNat_natCast, TS_ext j x j (Nat.le_refl _), Nat.sub_self, Nat.pow_zero, Nat.div_one, bless_TS j v x hv hx, w64 (x := (j : Int) - (j : Int)) (by omega) (by omega), show (j : Int) - (j : Int) = 0 by omega, w64 (x := (cntD (TS j v) j : Int) + 0) (by omega) (by omega)]
    refine Ev.pos (by omega) (Ev.pos (by omega) ?_)
    have hno : ∀ h : ¬ (x ≤ v ∧ (CN j v : Int) = many), Ev (fun k => spec_miSome.j0 k (TS j x) (TS j v) many 0 true) (txtO j (if CS j many x v = true then some v else none)) := by
      intro h
      have e : (if CS j many x v = true then some v else none) = none := if_neg (by unfold CS; rw [Bool.and_eq_true, decide_eq_true_eq, decide_eq_true_eq]; exact h)
      rw [e]
      exact Ev.step (fun _ => spec_miSome.j0.eq_2 ..) (Ev.pos rfl (Ev.now _))
    by_cases hlt : v < x
    · exact Ev.pos (decide_eq_true hlt) (hno (fun h => by omega))
    · refine Ev.neg (by simpa using hlt) ?_
      by_cases c1 : (cntD (TS j v) j : Int) > many
      · exact Ev.pos c1 (hno (fun h => by omega))
      · refine Ev.neg c1 ?_
        by_cases c2 : (cntD (TS j v) j : Int) + 0 < many
        · rw [decide_eq_true c2]; exact hno (fun h => by omega)
        · rw [decide_eq_false c2]
          have e : (if CS j many x v = true then some v else none) = some v := if_pos (by unfold CS; rw [Bool.and_eq_true, decide_eq_true_eq, decide_eq_true_eq]; exact ⟨by omega, by omega⟩)
          rw [e]
          exact Ev.step (fun _ => spec_miSome.j0.eq_2 ..) (Ev.neg (by decide) (Ev.pos rfl (Ev.now _)))
  | succ d ih =>
    intro j v hj hv
    have hp : 0 < 10 ^ (d + 1) := Nat.pow_pos (by omega)
    have hcl := cntD_le (TS j v) j
    have hxd : x / 10 ^ (d + 1) < 10 ^ j := by rw [Nat.div_lt_iff_lt_mul hp, ← Nat.pow_add, hj]; exact hx
    have hmem : ∀ y, v * 10 ^ (d + 1) ≤ y → y < (v + 1) * 10 ^ (d + 1) → y / 10 ^ (d + 1) = v := fun y a b => (in_pre hp).2 ⟨a, b⟩
    refine Ev.step (fun _ => spec_miSome.f.eq_2 ..) (Ev.bind (cnt_f j v (by omega)) ?_)
    rw [TS_size, TS_size, Int.toNat_natCast, TS_ext n x j (by omega), show n - j = d + 1 by omega, bless_TS j v _ hv hxd, w64 (x := (n : Int) - (j : Int)) (by omega) (by omega), w64 (x := (cntD (TS j v) j : Int) + ((n : Int) - (j : Int))) (by omega) (by omega)]
    refine Ev.pos (by omega) (Ev.pos (by omega) ?_)
    have hno : (∀ y, y / 10 ^ (d + 1) = v → ¬ (x ≤ y ∧ (CN n y : Int) = many)) → Ev (fun k => spec_miSome.j0 k (TS n x) (TS j v) many ((n : Int) - (j : Int)) true) (txtO n (leastIn (CS n many x) (v * 10 ^ (d + 1)) ((v + 1) * 10 ^ (d + 1)))) := by
      intro h
      rw [leastIn_none.2]
      · exact Ev.step (fun _ => spec_miSome.j0.eq_2 ..) (Ev.pos rfl (Ev.now _))
      · intro y a b
        rw [← Bool.not_eq_true]
        unfold CS
        rw [Bool.and_eq_true, decide_eq_true_eq, decide_eq_true_eq]
        exact h y (hmem y a b)
    by_cases hlt : v < x / 10 ^ (d + 1)
    · refine Ev.pos (decide_eq_true hlt) (hno (fun y hy h => ?_))
      have := Nat.div_le_div_right (c := 10 ^ (d + 1)) h.1
      omega
    · refine Ev.neg (by simpa using hlt) ?_
      by_cases c1 : (cntD (TS j v) j : Int) > many
      · refine Ev.pos c1 (hno (fun y hy h => ?_))
        have := CN_bd (n := n) (j := j) (y := y) (v := v) (by omega) (by rw [show n - j = d + 1 by omega]; exact hy)
        omega
      · refine Ev.neg c1 ?_
        by_cases c2 : (cntD (TS j v) j : Int) + ((n : Int) - (j : Int)) < many
        · rw [decide_eq_true c2]
          refine hno (fun y hy h => ?_)
          have := CN_bd (n := n) (j := j) (y := y) (v := v) (by omega) (by rw [show n - j = d + 1 by omega]; exact hy)
          omega
        · rw [decide_eq_false c2]
          have hl0 := miSome_l0 (P := CS n many x) (many := many) (x := x) h1 h9 hj (fun u hu => ih (j + 1) u (by omega) hu) hv 10 0 (by omega)
          rw [show (10 * v + 0) * 10 ^ d = v * 10 ^ (d + 1) by rw [Nat.pow_succ, Nat.mul_comm (10 ^ d) 10, ← Nat.mul_assoc, Nat.mul_comm v 10, Nat.add_zero], show (10 * v + 10) * 10 ^ d = (v + 1) * 10 ^ (d + 1) by rw [Nat.pow_succ, Nat.mul_comm (10 ^ d) 10, ← Nat.mul_assoc, show (v + 1) * 10 = 10 * v + 10 by omega]] at hl0
          exact Ev.step (fun _ => spec_miSome.j0.eq_2 ..) (Ev.neg (by decide) (Ev.neg (by omega) hl0))
theorem miSome_0 {n x : Nat} {many : Int} (h1 : 1 ≤ n) (h9 : n ≤ 9) (hx : x < 10 ^ n) : Ev (fun k => spec_miSome.f k (TS n x) (⟨#[]⟩ : ByteArray) many) (txtO n (leastIn (fun y => decide ((CN n y : Int) = many)) x (10 ^ n))) := by
  have h := miSome_f (many := many) h1 h9 hx n 0 0 (by omega) (by simp)
  rw [show TS 0 0 = (⟨#[]⟩ : ByteArray) from L_inj (by rw [L_TS, TD, L_nil]), Nat.zero_mul, Nat.zero_add, Nat.one_mul] at h
  rw [show leastIn (CS n many x) 0 (10 ^ n) = leastIn (fun y => decide ((CN n y : Int) = many)) x (10 ^ n) from leastIn_from (P := fun y => decide ((CN n y : Int) = many)) (Nat.zero_le _) (Nat.le_of_lt hx)] at h
  exact h
/-! ## search -/
/-! impl.search upward: the least text that is not before the bound and all of whose beginnings are allowed -/
section
variable {mayF : ByteArray → Option Bool} {M : Nat → Nat → Bool} {n B : Nat}
/-- All beginnings are allowed. -/
def allM (M : Nat → Nat → Bool) (n x : Nat) : Bool := (List.range n).all (fun i => M (i + 1) (x / 10 ^ (n - (i + 1))))
theorem allM_t {M : Nat → Nat → Bool} {n x : Nat} : allM M n x = true ↔ ∀ i, i < n → M (i + 1) (x / 10 ^ (n - (i + 1))) = true := by
  unfold allM
  rw [List.all_eq_true]
  exact ⟨fun h i hi => h i (List.mem_range.2 hi), fun h i hi => h i (List.mem_range.1 hi)⟩
def ansF (n : Nat) : Option Nat → ByteArray × Bool
  | some x => (TS n x, true)
  | none => (⟨#[]⟩, false)
def goodP (M : Nat → Nat → Bool) (n B x : Nat) : Bool := decide (B ≤ x) && allM M n x
theorem dig_up {c : Nat} (h : c < 10) : dig false (c : Int) = 48 + (c : Int) := by
  unfold dig
  rw [if_neg (by decide), w64 (by omega) (by omega)]
  omega
theorem loop_up (hM : ∀ j v, j < n → v < 10 ^ (j + 1) → mayF (TS (j + 1) v) = some (M (j + 1) v)) {find : ByteArray → Bool → Option (ByteArray × Bool)} {j v d : Nat} {tight : Bool} (hd : j + (d + 1) = n) (hv : v < 10 ^ j)
    (ht : if tight = true then v = B / 10 ^ (d + 1) else B / 10 ^ (d + 1) < v)
    (hm : ∀ i, i < j → M (i + 1) (v / 10 ^ (j - (i + 1))) = true)
    (hfind : ∀ u tg, u < 10 ^ (j + 1) → (if tg = true then u = B / 10 ^ d else B / 10 ^ d < u) → (∀ i, i < j + 1 → M (i + 1) (u / 10 ^ (j + 1 - (i + 1))) = true) → find (TS (j + 1) u) tg = some (ansF n (leastIn (goodP M n B) (u * 10 ^ d) ((u + 1) * 10 ^ d)))) :
    ∀ e c : Nat, c + e = 10 → loopF find mayF (TS n B) false (TS j v) tight e = some (ansF n (leastIn (goodP M n B) ((10 * v + c) * 10 ^ d) ((10 * v + 10) * 10 ^ d)))
  | 0, c, hc => by
    obtain rfl : c = 10 := by omega
    rw [loopF, leastIn_none.2 (fun x h1 h2 => absurd h1 (Nat.not_le.2 h2))]
    rfl
  | e + 1, c, hc => by
    have ih := loop_up hM hd hv ht hm hfind e (c + 1) (by omega)
    have hp : 0 < 10 ^ d := Nat.pow_pos (by omega)
    have hu : 10 * v + c < 10 ^ (j + 1) := by rw [Nat.pow_succ]; omega
    have hB : B / 10 ^ (d + 1) = B / 10 ^ d / 10 := by rw [Nat.div_div_eq_div_mul, Nat.pow_succ]
    rw [leastIn_split (b := (10 * v + (c + 1)) * 10 ^ d) (Nat.mul_le_mul_right _ (by omega)) (Nat.mul_le_mul_right _ (by omega))]
    have hbt : bt (TS n B) ((j : Nat) : Int) = 48 + ((B / 10 ^ d % 10 : Nat) : Int) := by rw [bt_TS (by omega), show n - 1 - j = d by omega]
    rw [loopF, TS_size, show (9 : Int) - (e : Int) = (c : Int) by omega, dig_up (by omega), TS_snoc (by omega), hbt]
    unfold cutF
    rw [if_neg (show ¬ (false = true) by decide), hbt]
    have hmem : ∀ x, (10 * v + c) * 10 ^ d ≤ x → x < (10 * v + (c + 1)) * 10 ^ d → x / 10 ^ d = 10 * v + c := fun x h1 h2 => (in_pre hp).2 ⟨h1, h2⟩
    by_cases hcut : tight = true ∧ c < B / 10 ^ d % 10
    · rw [if_pos (by rw [hcut.1, Bool.true_and, decide_eq_true_eq]; omega), leastIn_none.2, Option.none_or]
      · exact ih
      · intro x h1 h2
        have h3 := hmem x h1 h2
        unfold goodP
        rw [Bool.and_eq_false_iff]
        left
        rw [decide_eq_false_iff_not]
        intro h4
        have h5 : B / 10 ^ d ≤ x / 10 ^ d := Nat.div_le_div_right h4
        rw [hcut.1, if_pos rfl] at ht
        omega
    · rw [if_neg (by rw [Bool.and_eq_true, decide_eq_true_eq]; intro h; exact hcut ⟨h.1, by omega⟩), hM j _ (by omega) hu, Option.bind_some]
      by_cases hok : M (j + 1) (10 * v + c) = true
      · rw [if_pos hok]
        rw [hfind (10 * v + c) (tight && ((48 + (c : Int)) == (48 + ((B / 10 ^ d % 10 : Nat) : Int)))) hu ?_ ?_, Option.bind_some]
        · rw [show 10 * v + c + 1 = 10 * v + (c + 1) by omega]
          cases leastIn (goodP M n B) ((10 * v + c) * 10 ^ d) ((10 * v + (c + 1)) * 10 ^ d) with
          | some x => rw [Option.some_or]; exact if_pos rfl
          | none => rw [Option.none_or]; exact ih
        · cases tight with
          | false =>
            rw [if_neg (by decide)] at ht
            rw [Bool.false_and, if_neg (by decide)]
            omega
          | true =>
            rw [if_pos rfl] at ht
            rw [Bool.true_and]
            by_cases e1 : c = B / 10 ^ d % 10
            · rw [if_pos (by rw [beq_iff_eq]; omega)]; omega
            · rw [if_neg (by rw [beq_iff_eq]; omega)]
              have : ¬ c < B / 10 ^ d % 10 := fun h => hcut ⟨rfl, h⟩
              omega
        · intro i hi
          by_cases e1 : i = j
          · subst e1
            rw [Nat.sub_self, Nat.pow_zero, Nat.div_one]; exact hok
          · have h1 := hm i (by omega)
            rw [show j + 1 - (i + 1) = j - (i + 1) + 1 by omega, Nat.pow_succ, Nat.mul_comm (10 ^ (j - (i + 1))) 10, ← Nat.div_div_eq_div_mul, show (10 * v + c) / 10 = v by omega]
            exact h1
      · rw [if_neg hok, leastIn_none.2, Option.none_or]
        · exact ih
        · intro x h1 h2
          have h3 := hmem x h1 h2
          unfold goodP
          rw [Bool.and_eq_false_iff]
          right
          rw [← Bool.not_eq_true, allM_t]
          intro h4
          have h5 := h4 j (by omega)
          rw [show n - (j + 1) = d by omega, h3] at h5
          exact hok h5
theorem find_up (hM : ∀ j v, j < n → v < 10 ^ (j + 1) → mayF (TS (j + 1) v) = some (M (j + 1) v)) :
    ∀ (d k j v : Nat) (tight : Bool), d < k → j + d = n → v < 10 ^ j → (if tight = true then v = B / 10 ^ d else B / 10 ^ d < v) → (∀ i, i < j → M (i + 1) (v / 10 ^ (j - (i + 1))) = true) →
      findF mayF (TS n B) false k (TS j v) tight = some (ansF n (leastIn (goodP M n B) (v * 10 ^ d) ((v + 1) * 10 ^ d)))
  | d, 0, _, _, _, hk, _, _, _, _ => by omega
  | 0, k + 1, j, v, tight, hk, hj, hv, ht, hm => by
    obtain rfl : j = n := by omega
    rw [findF, TS_size, TS_size, if_pos rfl]
    have : leastIn (goodP M j B) (v * 10 ^ 0) ((v + 1) * 10 ^ 0) = some v := by
      rw [Nat.pow_zero, Nat.mul_one, Nat.mul_one, leastIn_some]
      refine ⟨⟨Nat.le_refl _, by omega⟩, ?_, fun y h1 h2 => by omega⟩
      unfold goodP
      rw [Bool.and_eq_true, decide_eq_true_eq, allM_t]
      refine ⟨?_, hm⟩
      rw [Nat.pow_zero, Nat.div_one] at ht
      split at ht <;> omega
    rw [this]
    rfl
  | d + 1, k + 1, j, v, tight, hk, hj, hv, ht, hm => by
    rw [findF, TS_size, TS_size, if_neg (by omega)]
    have h := loop_up (mayF := mayF) hM (d := d) hj hv ht hm (find := findF mayF (TS n B) false k) (fun u tg h1 h2 h3 => find_up hM d k (j + 1) u tg (by omega) (by omega) h1 h2 h3) 10 0 (by omega)
    rw [h, Nat.pow_succ, Nat.mul_comm (10 ^ d) 10, ← Nat.mul_assoc, ← Nat.mul_assoc, Nat.add_zero, Nat.mul_comm v 10, show (v + 1) * 10 = 10 * v + 10 by omega]
theorem find_up0 (hM : ∀ j v, j < n → v < 10 ^ (j + 1) → mayF (TS (j + 1) v) = some (M (j + 1) v)) (hB : B < 10 ^ n) {k : Nat} (hk : n < k) :
    findF mayF (TS n B) false k ⟨#[]⟩ true = some (ansF n (leastIn (allM M n) B (10 ^ n))) := by
  have h := find_up (mayF := mayF) (B := B) hM n k 0 0 true hk (by omega) (by simp) (by rw [if_pos rfl, Nat.div_eq_of_lt hB]) (fun i hi => by omega)
  rw [show TS 0 0 = (⟨#[]⟩ : ByteArray) from L_inj (by rw [L_TS, TD, L_nil])] at h
  rw [h]
  congr 2
  rw [Nat.zero_mul, Nat.zero_add, Nat.one_mul]
  exact leastIn_from (P := allM M n) (Nat.zero_le _) (Nat.le_of_lt hB)
end
/-! ## evall -/
/-- From some number of rounds on, for all of finitely many at once. -/
theorem ev_all {P : Nat → Nat → Prop} : ∀ N : Nat, (∀ i, i < N → ∃ K, ∀ k, K ≤ k → P i k) → ∃ K, ∀ k, K ≤ k → ∀ i, i < N → P i k
  | 0, _ => ⟨0, fun _ _ i hi => by omega⟩
  | N + 1, h => by
    obtain ⟨K1, h1⟩ := ev_all N (fun i hi => h i (by omega))
    obtain ⟨K2, h2⟩ := h N (by omega)
    refine ⟨max K1 K2, fun k hk i hi => ?_⟩
    by_cases e : i = N
    · subst e; exact h2 k (by omega)
    · exact h1 k (by omega) i (by omega)
/-! ## rep48 -/
theorem L_rep (r : Nat) : L (⟨(Go.Lib.repeatL [48] r).toArray⟩ : ByteArray) = List.replicate r 48 := by
  unfold L
  show (Go.Lib.repeatL [48] r).map _ = _
  induction r with
  | zero => rfl
  | succ r ih => rw [Go.Lib.repeatL, List.map_append, ih, List.replicate_succ]; rfl
/-! ## searchEv -/
/-! nextAround: the least text from the bound on, else the least one of all -/
theorem TD_zero : ∀ n, TD n 0 = List.replicate n 48
  | 0 => rfl
  | n + 1 => by rw [TD, Nat.zero_div, TD_zero n, List.replicate_succ']; rfl
theorem zerosOf_TS (n : Nat) : zerosOf n = TS n 0 := L_inj (by rw [L_TS, TD_zero]; exact L_rep n)
theorem nextAround_f {may : Nat → ByteArray → Option Bool} {M : Nat → Nat → Bool} {n B : Nat} (hn : n ≤ 1000) (hB : B < 10 ^ n) (hM : ∀ j v, j < n → v < 10 ^ (j + 1) → Ev (fun k => may k (TS (j + 1) v)) (M (j + 1) v)) :
    Ev (fun k => nextAroundF (may k) k (TS n B)) (ansF n ((leastIn (allM M n) B (10 ^ n)).or (leastIn (allM M n) 0 (10 ^ n)))) := by
  obtain ⟨K, hK⟩ := ev_all (P := fun j k => ∀ v, v < 10 ^ (j + 1) → may k (TS (j + 1) v) = some (M (j + 1) v)) n (fun j hj => ev_all (P := fun v k => may k (TS (j + 1) v) = some (M (j + 1) v)) (10 ^ (j + 1)) (fun v hv => hM j v hj hv))
  refine ⟨max K (n + 1), fun k hk => ?_⟩
  have hm : ∀ j v, j < n → v < 10 ^ (j + 1) → may k (TS (j + 1) v) = some (M (j + 1) v) := fun j v hj hv => hK k (by omega) j hj v hv
  show nextAroundF (may k) k (TS n B) = some _
  unfold nextAroundF
  rw [TS_size, zerosOf_TS, TS_size, if_pos ⟨hn, hn⟩, find_up0 hm hB (by omega), find_up0 hm (Nat.pow_pos (by omega)) (by omega), Option.bind_some]
  cases leastIn (allM M n) B (10 ^ n) with
  | some y => rw [Option.some_or]; exact if_pos rfl
  | none => rw [Option.none_or]; exact if_neg (fun h => Bool.noConfusion h)
/-! ## miText -/
theorem miText_l0 (d : Nat) (hd : d ≤ 1000) : ∀ (e i n : Nat) (acc t : ByteArray), i + e = d → n ≤ 9223372036854775807 → acc.size ≤ 100000 + i → L t = TD e n ++ L acc →
    Ev (fun k => spec_miText.l0 k (d : Int) (n : Int) acc (i : Int)) t
  | 0, i, n, acc, t, h, _, _, ht => by
    refine Ev.step (fun _ => spec_miText.l0.eq_2 ..) (Ev.neg (by omega) (Ev.eq ?_ (Ev.now _)))
    exact L_inj ht
  | e + 1, i, n, acc, t, h, hn, ha, ht => by
    refine Ev.step (fun _ => spec_miText.l0.eq_2 ..) (Ev.pos (by omega) ?_)
    rw [show Int.tmod (n : Int) 10 = ((n % 10 : Nat) : Int) from rfl, show Int.tdiv (n : Int) 10 = ((n / 10 : Nat) : Int) from rfl, w64n (x := n / 10) (by omega), wsucc (m := d) (by omega) (by omega)]
    have h1 : (decS (n % 10)).size = 1 := by rw [size_decS, Dg_small (by omega)]; rfl
    refine Ev.bind (l1Num_f (n % 10) (by omega)) (Ev.pos (by omega) ?_)
    refine miText_l0 d hd e (i + 1) (n / 10) _ t (by omega) (by omega) (by rw [size_app]; omega) ?_
    rw [ht, L_append, L_decS, Dg_small (by omega), TD, List.append_assoc]
theorem miText_f (d n : Nat) (hd : d ≤ 1000) (hn : n ≤ 9223372036854775807) : Ev (fun k => spec_miText.f k (d : Int) (n : Int)) (TS d n) :=
  miText_l0 d hd d 0 n ⟨#[]⟩ (TS d n) (by omega) hn (Nat.zero_le _) (by rw [L_TS, L_nil, List.append_nil])
/-! ## miAll -/
theorem miAll_l0 : ∀ (n : Nat) (a : Int), 0 ≤ a → n ≤ 18 → a * p10 n ≤ 1000000000000000000 → Ev (fun k => spec_miAll.l0 k (n : Int) a) (a * p10 n)
  | 0, a, _, _, _ => Ev.step (fun _ => spec_miAll.l0.eq_2 ..) (Ev.neg (by omega) (Ev.eq (by simp [p10]) (Ev.now _)))
  | n + 1, a, h0, hn, h => by
    refine Ev.step (fun _ => spec_miAll.l0.eq_2 ..) (Ev.pos (by omega) ?_)
    have hp := p10_pos n
    have e : a * p10 (n + 1) = a * 10 * p10 n := by rw [p10_succ, Int.mul_assoc]
    have e3 : a * 10 * 1 ≤ a * 10 * p10 n := Int.mul_le_mul_of_nonneg_left hp (by omega)
    rw [e] at h ⊢
    rw [w64 (x := a * 10) (by omega) (by omega), w64 (by omega) (by omega), show ((n + 1 : Nat) : Int) - 1 = (n : Int) by omega]
    exact miAll_l0 n (a * 10) (by omega) (by omega) h
theorem miAll_f (n : Nat) (h : n ≤ 18) : Ev (fun k => spec_miAll.f k (n : Int)) (p10 n) := by
  have h1 := miAll_l0 n 1 (by omega) h (by rw [Int.one_mul]; exact p10_mono (m := 18) h)
  rw [Int.one_mul] at h1
  exact h1
/-! ## round -/
theorem round_l0 (n : Nat) (hn : n ≤ 18) : ∀ (d i : Nat), i + d = n → Ev (fun k => impl_round.l0 k (p10 i) (n : Int) (i : Int)) (p10 n)
  | 0, i, h => by
    obtain rfl : i = n := by omega
    exact Ev.step (fun _ => impl_round.l0.eq_2 ..) (Ev.neg (by omega) (Ev.now _))
  | d + 1, i, h => by
    refine Ev.step (fun _ => impl_round.l0.eq_2 ..) (Ev.pos (by omega) ?_)
    have hp := p10_pos i
    have hq : p10 (i + 1) ≤ 1000000000000000000 := p10_mono (m := 18) (by omega)
    rw [p10_succ] at hq
    rw [w64 (x := p10 i * 10) (by omega) (by omega), wsucc (m := n) (by omega) (by omega), Int.mul_comm, ← p10_succ]
    exact round_l0 n hn d (i + 1) (by omega)
theorem round_f (n : Nat) (h : n ≤ 18) : Ev (fun k => impl_round.f k (n : Int)) (p10 n) := round_l0 n h n 0 (by omega)
/-! ## room18 -/
theorem room18 {n : Nat} (h : n ≤ 18) : ((0 : Int) + 1) * p10 n ≤ 1000000000000000000 := by
  rw [Int.zero_add, Int.one_mul]; exact p10_mono (m := 18) h
/-! ## tkNumber -/
theorem tkNumber_l0 (s : ByteArray) (hs : s.size ≤ 18) : ∀ (l : List Int) (n : Nat) (a : Int), (L s).drop n = l → l.all isD = true → 0 ≤ a → (a + 1) * p10 l.length ≤ 1000000000000000000 →
    Ev (fun k => spec_tkNumber.l0 k s a (n : Int)) (numF a l) := by
  intro l
  induction l with
  | nil =>
    intro n a h _ _ _
    have h1 := sdrop_nil h
    exact Ev.step (fun _ => spec_tkNumber.l0.eq_2 ..) (Ev.neg (by omega) (Ev.now _))
  | cons c t ih =>
    intro n a h hl ha hb
    obtain ⟨h1, h2, h3⟩ := sdrop_cons h
    rw [List.all_cons, Bool.and_eq_true] at hl
    have hc := isD_t.1 hl.1
    obtain ⟨g1, g2, g3⟩ := num_step ha hc hb
    refine Ev.step (fun _ => spec_tkNumber.l0.eq_2 ..) (Ev.pos (by omega) (Ev.pos (by omega) ?_))
    rw [h2, dig_mod hl.1, wsucc h1 (by omega), w64 (x := a * 10) (by omega) (by omega), Int.mul_comm a 10, w64 (x := 10 * a + (c - 48)) (by omega) (by omega)]
    exact ih (n + 1) _ h3 hl.2 g1 g2
theorem tkNumber_f (s : ByteArray) (hd : (L s).all isD = true) (hs : s.size ≤ 18) : Ev (fun k => spec_tkNumber.f k s) (numF 0 (L s)) :=
  tkNumber_l0 s hs (L s) 0 0 rfl hd (by omega) (room18 (by rw [L_length]; exact hs))
/-! ## numberOf -/
theorem numberOf_l0 (s : ByteArray) (hs : s.size ≤ 18) : ∀ (l : List Int) (n : Nat) (a : Int), (L s).drop n = l → l.all isD = true → 0 ≤ a → (a + 1) * p10 l.length ≤ 1000000000000000000 →
    Ev (fun k => impl_numberOf.l0 k s a (s.size : Int) (n : Int)) (numF a l) := by
  intro l
  induction l with
  | nil =>
    intro n a h _ _ _
    have h1 := sdrop_nil h
    exact Ev.step (fun _ => impl_numberOf.l0.eq_2 ..) (Ev.neg (by omega) (Ev.now _))
  | cons c t ih =>
    intro n a h hl ha hb
    obtain ⟨h1, h2, h3⟩ := sdrop_cons h
    rw [List.all_cons, Bool.and_eq_true] at hl
    have hc := isD_t.1 hl.1
    obtain ⟨g1, g2, g3⟩ := num_step ha hc hb
    refine Ev.step (fun _ => impl_numberOf.l0.eq_2 ..) (Ev.pos (by omega) (Ev.pos (by omega) (Ev.pos (by omega) ?_)))
    rw [h2, dig_mod hl.1, wsucc h1 (by omega), w64 (x := 10 * a) (by omega) (by omega), w64 (x := 10 * a + (c - 48)) (by omega) (by omega)]
    exact ih (n + 1) _ h3 hl.2 g1 g2
theorem numberOf_f (s : ByteArray) (hd : (L s).all isD = true) (hs : s.size ≤ 18) : Ev (fun k => impl_numberOf.f k s) (numF 0 (L s)) :=
  numberOf_l0 s hs (L s) 0 0 rfl hd (by omega) (room18 (by rw [L_length]; exact hs))
/-! ## miToT -/
/-- From one number to another one on a dial of n digits. -/
def toGo (a b : ByteArray) : Int := Int.tmod (wrap64 ((wrap64 (numF 0 (L b) - numF 0 (L a))) + p10 a.size)) (p10 a.size)
theorem miTo_f (a b : ByteArray) (ha : (L a).all isD = true) (hb : (L b).all isD = true) (ha9 : a.size ≤ 9) (hb9 : b.size ≤ 9) : Ev (fun k => spec_miTo.f k a b) (toGo a b) :=
  Ev.bind (miAll_f a.size (by omega)) (Ev.bind (tkNumber_f b hb (by omega)) (Ev.bind (tkNumber_f a ha (by omega)) (Ev.neg (by have := p10_pos a.size; omega) (Ev.now _))))
theorem milesTo_f (a b : ByteArray) (ha : (L a).all isD = true) (hb : (L b).all isD = true) (ha9 : a.size ≤ 9) (hb9 : b.size ≤ 9) : Ev (fun k => impl_milesTo.f k a b) (toGo a b) :=
  Ev.bind (round_f a.size (by omega)) (Ev.bind (numberOf_f b hb (by omega)) (Ev.bind (numberOf_f a ha (by omega)) (Ev.neg (by have := p10_pos a.size; omega) (Ev.now _))))
/-! ## l1In -/
theorem l1In_f (a b c : Int) : spec_l1In.f a b c = some (decide (b ≤ a) && decide (a ≤ c)) := by
  unfold spec_l1In.f; by_cases h : b ≤ a <;> simp [h]
/-! ## miGood -/
theorem miGood_l0 (s : ByteArray) (hs : s.size ≤ 140737488351232) : ∀ (l : List Int) (n : Nat), (L s).drop n = l →
    Ev (fun k => spec_miGood.l0 k s (n : Int)) (l.all isD) := by
  intro l
  induction l with
  | nil =>
    intro n h
    have h1 := sdrop_nil h
    exact Ev.step (spec_miGood.l0.eq_2 s (n : Int)) (Ev.neg (by omega) (Ev.now _))
  | cons c t ih =>
    intro n h
    obtain ⟨h1, h2, h3⟩ := sdrop_cons h
    refine Ev.step (spec_miGood.l0.eq_2 s (n : Int)) (Ev.pos (by omega) (Ev.pos (by omega) ?_))
    rw [h2, wsucc h1 (by omega)]
    by_cases hc : isD c = true
    · have hc' := isD_t.1 hc
      refine Ev.neg (by omega) (Ev.neg (by omega) (Ev.eq ?_ (ih (n + 1) h3)))
      simp [hc]
    · have hc' := isD_f.1 (by simpa using hc)
      by_cases h48 : c < 48
      · exact Ev.pos h48 (Ev.eq (by simp [hc]) (Ev.now _))
      · exact Ev.neg h48 (Ev.pos (by omega) (Ev.eq (by simp [hc]) (Ev.now _)))
theorem miGood_f (s : ByteArray) (hs : s.size ≤ 140737488351232) :
    Ev (fun k => spec_miGood.f k s) ((L s).all isD && (decide ((1 : Int) ≤ s.size) && decide ((s.size : Int) ≤ 9))) := by
  refine Ev.sm (l1In_f _ _ _) ?_
  by_cases h : (decide ((1 : Int) ≤ s.size) && decide ((s.size : Int) ≤ 9)) = true
  · exact Ev.pos h (Ev.eq (by rw [h, Bool.and_true]) (miGood_l0 s hs (L s) 0 rfl))
  · exact Ev.neg h (Ev.eq (by rw [Bool.not_eq_true] at h; rw [h, Bool.and_false]) (Ev.now _))
/-! ## within -/
theorem within_f (a b c : Int) : impl_within.f a b c = some (decide (b ≤ a) && decide (a ≤ c)) := by
  unfold impl_within.f; by_cases h : b ≤ a <;> simp [h]
/-! ## areDigits -/
theorem areDigits_l0 (s : ByteArray) (lo hi : Int) (hs : s.size ≤ 140737488351232) : ∀ (l : List Int) (n : Nat), (L s).drop n = l →
    Ev (fun k => impl_areDigits.l0 k s lo hi (s.size : Int) (n : Int)) (l.all isD && (decide (lo ≤ s.size) && decide ((s.size : Int) ≤ hi))) := by
  intro l
  induction l with
  | nil =>
    intro n h
    have h1 := sdrop_nil h
    refine Ev.step (impl_areDigits.l0.eq_2 s lo hi (s.size : Int) (n : Int)) ?_
    refine Ev.neg (by omega) (Ev.sm (within_f _ _ _) (Ev.eq ?_ (Ev.now _)))
    simp
  | cons c t ih =>
    intro n h
    obtain ⟨h1, h2, h3⟩ := sdrop_cons h
    refine Ev.step (impl_areDigits.l0.eq_2 s lo hi (s.size : Int) (n : Int)) (Ev.pos (by omega) (Ev.pos (by omega) (Ev.pos (by omega) ?_)))
    rw [h2, wsucc h1 (by omega)]
    by_cases hc : isD c = true
    · have hc' := isD_t.1 hc
      refine Ev.neg (by omega) (Ev.neg (by omega) (Ev.eq ?_ (ih (n + 1) h3)))
      simp [hc]
    · have hc' := isD_f.1 (by simpa using hc)
      by_cases h48 : c < 48
      · exact Ev.pos h48 (Ev.eq (by simp [hc]) (Ev.now _))
      · exact Ev.neg h48 (Ev.pos (by omega) (Ev.eq (by simp [hc]) (Ev.now _)))
theorem areDigits_f (s : ByteArray) (lo hi : Int) (hs : s.size ≤ 140737488351232) :
    Ev (fun k => impl_areDigits.f k s lo hi) ((L s).all isD && (decide (lo ≤ s.size) && decide ((s.size : Int) ≤ hi))) :=
  areDigits_l0 s lo hi hs (L s) 0 rfl
/-! ## reading -/
/-- Is a text a reading. -/
def good (s : ByteArray) : Bool := (L s).all isD && (decide ((1 : Int) ≤ s.size) && decide ((s.size : Int) ≤ 9))
theorem good_t {s : ByteArray} (h : good s = true) : (L s).all isD = true ∧ 1 ≤ s.size ∧ s.size ≤ 9 := by
  unfold good at h
  rw [Bool.and_eq_true, Bool.and_eq_true, decide_eq_true_eq, decide_eq_true_eq] at h
  exact ⟨h.1, by omega, by omega⟩
/-! ## FnExactMilesToDigits -/
def MD (n : Nat) (many : Int) (m v : Nat) : Bool := if (cntD (TS m v) m : Int) ≤ many then decide ((cntD (TS m v) m : Int) + (n : Int) - (m : Int) ≥ many) else false
theorem allM_MD {n : Nat} (h1 : 1 ≤ n) (many : Int) (y : Nat) : allM (MD n many) n y = decide ((CN n y : Int) = many) := by
  rw [Bool.eq_iff_iff, allM_t, decide_eq_true_eq]
  constructor
  · intro h
    have h2 := h (n - 1) (by omega)
    rw [show n - 1 + 1 = n by omega, Nat.sub_self, Nat.pow_zero, Nat.div_one] at h2
    unfold MD at h2
    unfold CN
    split at h2
    · rw [decide_eq_true_eq] at h2; omega
    · cases h2
  · intro h i hi
    have hb := CN_bd (n := n) (j := i + 1) (y := y) (v := y / 10 ^ (n - (i + 1))) (by omega) rfl
    unfold MD
    rw [if_pos (by omega), decide_eq_true_eq]
    omega
def wit (n m : Nat) : Nat := [0, 0, 1, 12, 123, 1234, 12345, 123456, 1234567, 12345678].getD m 0 * 10 ^ (n - m)
theorem everyW : (List.range 10).all (fun n => (List.range 10).all (fun m => (decide (n = 0) || decide (m = 0) || decide (n < m)) || (decide (CN n (wit n m) = m) && decide (wit n m < 10 ^ n)))) = true := by kernel_rfl
theorem some_one {n m : Nat} (h1 : 1 ≤ m) (h2 : m ≤ n) (h3 : n ≤ 9) : ∃ y, y < 10 ^ n ∧ CN n y = m := by
  have h := List.all_eq_true.1 (List.all_eq_true.1 everyW n (List.mem_range.2 (by omega))) m (List.mem_range.2 (by omega))
  rw [Bool.or_eq_true, Bool.or_eq_true, Bool.or_eq_true, Bool.and_eq_true, decide_eq_true_eq, decide_eq_true_eq, decide_eq_true_eq, decide_eq_true_eq, decide_eq_true_eq] at h
  rcases h with h | h
  · omega
  · exact ⟨wit n m, h.2, h.1⟩
def numN (s : ByteArray) : Nat := (numF 0 (L s)).toNat
theorem good_num {s : ByteArray} (h : good s = true) : s = TS s.size (numN s) ∧ numN s < 10 ^ s.size := by
  obtain ⟨hd, _, _⟩ := good_t h
  obtain ⟨g1, g2, _⟩ := num_lt hd
  rw [L_length] at g2
  exact ⟨TS_of hd, g2⟩
def nextD (n : Nat) (many : Int) (x : Nat) : Option Nat := (leastIn (fun y => decide ((CN n y : Int) = many)) x (10 ^ n)).or (leastIn (fun y => decide ((CN n y : Int) = many)) 0 (10 ^ n))
def mdAns (s : ByteArray) (many : Int) : Int × Bool := if good s = true ∧ (1 : Int) ≤ many ∧ many ≤ (s.size : Int) then (toGo s (txtO s.size (nextD s.size many (numN s))), true) else (0, false)
theorem nextD_some {n : Nat} {many : Int} {x : Nat} (h1 : 1 ≤ many) (h2 : many ≤ (n : Int)) (h9 : n ≤ 9) : ∃ y, nextD n many x = some y := by
  obtain ⟨y, hy, e⟩ := some_one (n := n) (m := many.toNat) (by omega) (by omega) h9
  cases hn : nextD n many x with
  | some z => exact ⟨z, rfl⟩
  | none =>
    unfold nextD at hn
    rw [Option.or_eq_none_iff] at hn
    have := leastIn_none.1 hn.2 y (Nat.zero_le _) hy
    rw [decide_eq_false_iff_not] at this
    exact absurd (by omega) this
theorem nextD_big {n : Nat} {many : Int} {x : Nat} (h : (n : Int) < many) : nextD n many x = none := by
  have hno : ∀ y, decide ((CN n y : Int) = many) = false := by
    intro y
    have := cntD_le (TS n y) n
    rw [decide_eq_false_iff_not]
    unfold CN
    omega
  unfold nextD
  rw [leastIn_none.2 (fun y _ _ => hno y), leastIn_none.2 (fun y _ _ => hno y)]
  rfl
theorem specMD_f (s : ByteArray) (many : Int) (hs : s.size ≤ 140737488351232) : Ev (fun k => spec_MilesToDigits.f k s many) (mdAns s many) := by
  refine Ev.bind (show Ev (fun k => spec_miGood.f k s) (good s) from miGood_f s hs) ?_
  unfold mdAns
  by_cases hg : good s = true
  · refine Ev.pos hg (Ev.sm (l1In_f _ _ _) (Ev.step (fun _ => spec_MilesToDigits.j0.eq_2 ..) ?_))
    by_cases hm : (1 : Int) ≤ many ∧ many ≤ (s.size : Int)
    · refine Ev.eq (if_pos ⟨hg, hm⟩) (Ev.neg (by simp; omega) ?_)
      obtain ⟨hd, h1, h9⟩ := good_t hg
      obtain ⟨e1, e2⟩ := good_num hg
      have hA := miSome_0 (many := many) h1 h9 e2
      rw [← e1] at hA
      refine Ev.bind hA ?_
      obtain ⟨y, hy⟩ := nextD_some (x := numN s) hm.1 hm.2 h9
      rw [hy]
      unfold nextD at hy
      cases h0 : leastIn (fun y => decide ((CN s.size y : Int) = many)) (numN s) (10 ^ s.size) with
      | none =>
        rw [h0, Option.none_or] at hy
        have hp : 0 < 10 ^ s.size := Nat.pow_pos (by omega)
        have hB := miSome_0 (many := many) h1 h9 hp
        rw [hy] at hB
        have hC := miText_f s.size 0 (by omega) (by omega)
        exact Ev.pos ((txtO_nil s.size h1 none).2 rfl) (Ev.bind hC (Ev.bind hB (Ev.bind (miTo_f s (TS s.size y) hd (by rw [L_TS]; exact TD_dig _ _) h9 (by rw [TS_size]; exact h9)) (Ev.now _))))
      | some z =>
        rw [h0, Option.some_or] at hy
        obtain rfl := Option.some.inj hy
        exact Ev.neg (fun h => by have := (txtO_nil s.size h1 (some z)).1 h; cases this) (Ev.bind (miTo_f s (TS s.size z) hd (by rw [L_TS]; exact TD_dig _ _) h9 (by rw [TS_size]; exact h9)) (Ev.now _))
    · exact Ev.eq (if_neg (fun h => hm h.2)) (Ev.pos (by simp; omega) (Ev.now _))
  · exact Ev.eq (if_neg (fun h => hg h.1)) (Ev.neg hg (Ev.step (fun _ => spec_MilesToDigits.j0.eq_2 ..) (Ev.pos rfl (Ev.now _))))
theorem mayD_f {n : Nat} (h9 : n ≤ 9) (many : Int) (m v : Nat) (hm : m ≤ n) : mayD many n (TS m v) = some (MD n many m v) := by
  have hc := cntD_le (TS m v) m
  unfold mayD MD
  rw [differs_f (TS m v) (by rw [TS_size]; omega), Option.bind_some, TS_size, w64 (x := (cntD (TS m v) m : Int) + (n : Int)) (by omega) (by omega), w64 (x := (cntD (TS m v) m : Int) + (n : Int) - (m : Int)) (by omega) (by omega)]
  split <;> rfl
theorem implMD_f (s : ByteArray) (many : Int) (hs : s.size ≤ 140737488351232) : Ev (fun k => impl_MilesToDigits.f k s many) (mdAns s many) := by
  refine Ev.bind (show Ev (fun k => impl_IsReading.f k s) (good s) from Ev.bind (areDigits_f s 1 9 hs) (Ev.now _)) ?_
  unfold mdAns
  by_cases hg : good s = true
  · refine Ev.pos hg (Ev.sm (within_f _ _ _) ?_)
    obtain ⟨hd, h1, h9⟩ := good_t hg
    obtain ⟨e1, e2⟩ := good_num hg
    by_cases hw : (1 : Int) ≤ many ∧ many ≤ 9
    · refine Ev.pos (by simp; omega) ?_
      have hA := nextAround_f (may := fun _ b => mayD many s.size b) (M := MD s.size many) (n := s.size) (B := numN s) (by omega) e2 (fun j v hj _ => Ev.of_some (mayD_f h9 many (j + 1) v (by omega)))
      rw [← e1, leastIn_congr (P := allM (MD s.size many) s.size) (Q := fun y => decide ((CN s.size y : Int) = many)) (fun y _ _ => allM_MD h1 many y), leastIn_congr (P := allM (MD s.size many) s.size) (Q := fun y => decide ((CN s.size y : Int) = many)) (fun y _ _ => allM_MD h1 many y)] at hA
      have hA' : Ev (fun k => nextAroundF (mayD many s.size) k s) (ansF s.size (nextD s.size many (numN s))) := hA
      refine Ev.bind hA' ?_
      by_cases hm : many ≤ (s.size : Int)
      · refine Ev.eq (if_pos ⟨hg, hw.1, hm⟩) ?_
        obtain ⟨y, hy⟩ := nextD_some (x := numN s) hw.1 hm h9
        rw [hy]
        exact Ev.pos rfl (Ev.bind (milesTo_f s (TS s.size y) hd (by rw [L_TS]; exact TD_dig _ _) h9 (by rw [TS_size]; exact h9)) (Ev.now _))
      · refine Ev.eq (if_neg (fun h => hm h.2.2)) ?_
        rw [nextD_big (by omega)]
        exact Ev.neg (fun h => Bool.noConfusion h) (Ev.now _)
    · exact Ev.eq (if_neg (fun h => hw ⟨h.2.1, by omega⟩)) (Ev.neg (by simp; omega) (Ev.now _))
  · exact Ev.eq (if_neg (fun h => hg h.1)) (Ev.neg hg (Ev.now _))
theorem FnExactMilesToDigits : laws_FnExactMilesToDigits.Pure := by
  intro s many hs _
  refine Ev.rounds (g := fun k => laws_FnExactMilesToDigits.f k s many) ?_
  unfold laws_FnExactMilesToDigits.f
  by_cases b1 : (s.size : Int) > 1048576
  · exact Ev.pos b1 (Ev.now _)
  · exact Ev.neg b1 (Ev.bind (specMD_f s many hs) (Ev.bind (implMD_f s many hs) (Ev.pos rfl (Ev.neg (by simp) (Ev.now _)))))

end Go.Proofs.Ytkbbmkbkpkmdkab.Pure
