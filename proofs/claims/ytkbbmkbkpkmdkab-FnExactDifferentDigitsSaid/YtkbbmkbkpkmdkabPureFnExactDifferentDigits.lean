/- The plain law of FnExactDifferentDigits: at all arguments the printed function of the law answers true after some number of rounds. Conditions: none beyond the bounds that the printed statement itself bears. -/
import Derived.Test.YtkbbmkbkpkmdkabQFnExactDifferentDigitsx1
namespace Go.Proofs.Ytkbbmkbkpkmdkab.Pure
open Go.RowKit Go.Proofs.Ytkbbmkbkpkmdkab.QFnExactDifferentDigits Go.Proofs.YtkbbmkbkpkmdkabW.PrintWords Go.Proofs.YtkbbmkbkpkmdkabW.PrintLast Go.Proofs.Ytkbbmkbkpkmdkab.Ext Go.Proofs.Ytkbbmkbkpkmdkab.Ext
set_option linter.unusedVariables false


/-! ## base -/
/-! numbers in 64 bits -/
theorem w64 {x : Int} (h1 : -9223372036854775808 ≤ x) (h2 : x ≤ 9223372036854775807) : wrap64 x = x := by unfold wrap64; omega
theorem w64n {x : Nat} (h2 : x ≤ 9223372036854775807) : wrap64 (x : Int) = (x : Int) := w64 (by omega) (by omega)
theorem wf64 {x : Int} (h : (Lit.int .i64 x).wf = true) : -9223372036854775808 ≤ x ∧ x ≤ 9223372036854775807 := by
  have hmin : IntKind.i64.min = -9223372036854775808 := rfl
  have hmax : IntKind.i64.max = 9223372036854775807 := rfl
  simp only [Lit.wf, Bool.and_eq_true, decide_eq_true_eq, hmin, hmax] at h
  exact h
theorem tmodN (a b : Nat) : Int.tmod (a : Int) (b : Int) = ((a % b : Nat) : Int) := rfl
theorem tdivN (a b : Nat) : Int.tdiv (a : Int) (b : Int) = ((a / b : Nat) : Int) := rfl
theorem tmod_nn {a b : Int} (h : 0 ≤ a) : Int.tmod a b = a % b := Int.tmod_eq_emod_of_nonneg h
theorem tdiv_nn {a b : Int} (h : 0 ≤ a) : Int.tdiv a b = a / b := Int.tdiv_eq_ediv_of_nonneg h
/-! from some number of rounds on -/
theorem Ev.pos {α : Type} {c : Prop} [Decidable c] {f g : Nat → Option α} {r : α} (h : c) (e : Ev f r) : Ev (fun k => if c then f k else g k) r := by simpa only [if_pos h] using e
theorem Ev.neg {α : Type} {c : Prop} [Decidable c] {f g : Nat → Option α} {r : α} (h : ¬ c) (e : Ev g r) : Ev (fun k => if c then f k else g k) r := by simpa only [if_neg h] using e
theorem Ev.sm {α β : Type} {f : Nat → α → Option β} {a : α} {o : Option α} {r : β} (h : o = some a) (e : Ev (fun n => f n a) r) : Ev (fun n => o.bind (f n)) r := by subst h; simpa only [Option.bind_some] using e
theorem Ev.eq {α : Type} {f : Nat → Option α} {r r' : α} (h : r' = r) (e : Ev f r) : Ev f r' := h ▸ e
theorem Ev.of_some {α : Type} {o : Option α} {r : α} (h : o = some r) : Ev (fun _ => o) r := ⟨0, fun _ _ => h⟩
theorem Ev.uniq {α : Type} {g : Nat → Option α} {r q : α} (h : Ev g r) (h' : Ev g q) : r = q := by
  obtain ⟨K, h⟩ := h
  obtain ⟨K', h'⟩ := h'
  have := (h (max K K') (by omega)).symm.trans (h' (max K K') (by omega))
  exact Option.some.inj this
/-! a string as a list of numbers -/
def L (s : ByteArray) : List Int := s.data.toList.map (fun c => (c.toNat : Int))
theorem L_length (s : ByteArray) : (L s).length = s.size := by simp [L]
theorem bt_lo (s : ByteArray) (i : Int) : 0 ≤ bt s i := by unfold bt; split <;> omega
theorem bt_hi (s : ByteArray) (i : Int) : bt s i ≤ 255 := by
  unfold bt; split
  · have := UInt8.toNat_lt (s[i.toNat]); omega
  · omega
theorem bt_L (s : ByteArray) (n : Nat) : bt s (n : Int) = (L s).getD n 0 := by
  unfold bt L
  by_cases h : n < s.size
  · simp [h, List.getD_eq_getElem?_getD]; rfl
  · simp [h, List.getD_eq_getElem?_getD]
theorem L_get (s : ByteArray) (n : Nat) (h : n < s.size) : (L s)[n]? = some (bt s n) := by
  rw [bt_L, List.getD_eq_getElem?_getD]
  have : n < (L s).length := by rw [L_length]; exact h
  simp [this]
theorem L_mem {s : ByteArray} {c : Int} (h : c ∈ L s) : 0 ≤ c ∧ c ≤ 255 := by
  unfold L at h
  obtain ⟨u, _, rfl⟩ := List.mem_map.1 h
  have := UInt8.toNat_lt u
  omega
theorem map_toNat_inj : ∀ (l m : List UInt8), l.map (fun c => (c.toNat : Int)) = m.map (fun c => (c.toNat : Int)) → l = m
  | [], [], _ => rfl
  | [], _ :: _, h => by simp at h
  | _ :: _, [], h => by simp at h
  | a :: l, b :: m, h => by
    simp only [List.map_cons, List.cons.injEq] at h
    have h1 : a = b := by apply UInt8.toNat_inj.1; omega
    rw [h1, map_toNat_inj l m h.2]
theorem L_inj {s t : ByteArray} (h : L s = L t) : s = t := by
  have := map_toNat_inj _ _ h
  cases s; cases t
  congr 1
  exact Array.toList_inj.1 this
theorem toList_L {s t : ByteArray} : s.data.toList = t.data.toList ↔ L s = L t := by
  constructor
  · intro h; unfold L; rw [h]
  · intro h; exact map_toNat_inj _ _ h
theorem L_append (s t : ByteArray) : L (s ++ t) = L s ++ L t := by
  unfold L
  rw [ByteArray.data_append]
  simp
/-- The rest of a list from a place on. -/
theorem drop_cons {α : Type} {l : List α} {n : Nat} {c : α} {t : List α} (h : l.drop n = c :: t) : n < l.length ∧ l[n]? = some c ∧ l.drop (n + 1) = t := by
  have h1 : n < l.length := by
    by_cases h1 : n < l.length
    · exact h1
    · rw [List.drop_eq_nil_of_le (by omega)] at h; cases h
  rw [List.drop_eq_getElem_cons h1] at h
  simp only [List.cons.injEq] at h
  exact ⟨h1, by rw [List.getElem?_eq_getElem h1, h.1], h.2⟩
theorem drop_nil {α : Type} {l : List α} {n : Nat} (h : l.drop n = []) : l.length ≤ n := by simpa using h
theorem sdrop_cons {s : ByteArray} {n : Nat} {c : Int} {t : List Int} (h : (L s).drop n = c :: t) : n < s.size ∧ bt s n = c ∧ (L s).drop (n + 1) = t := by
  obtain ⟨h1, h2, h3⟩ := drop_cons h
  rw [L_length] at h1
  rw [L_get s n h1] at h2
  exact ⟨h1, Option.some.inj h2, h3⟩
theorem sdrop_nil {s : ByteArray} {n : Nat} (h : (L s).drop n = []) : s.size ≤ n := by have := drop_nil h; rwa [L_length] at this
theorem wsucc {n m : Nat} (h : n < m) (hm : m ≤ 140737488355328) : wrap64 ((n : Int) + 1) = ((n + 1 : Nat) : Int) := by rw [w64 (by omega) (by omega)]; rfl
/-! digits -/
def isD (c : Int) : Bool := decide (48 ≤ c) && decide (c ≤ 57)
theorem isD_t {c : Int} : isD c = true ↔ 48 ≤ c ∧ c ≤ 57 := by simp [isD]
theorem isD_f {c : Int} : isD c = false ↔ c < 48 ∨ 57 < c := by
  rw [← Bool.not_eq_true, isD_t]; omega
theorem dig_mod {c : Int} (h : isD c = true) : (c - 48) % 256 = c - 48 := by rw [isD_t] at h; omega
/-! ## str -/
theorem tl_eq {s t : ByteArray} : s.toList = t.toList ↔ s = t := by
  rw [ByteArray.toList_eq, ByteArray.toList_eq, toList_L]
  exact ⟨L_inj, fun h => by rw [h]⟩
theorem L_extract (s : ByteArray) (a b : Nat) : L (s.extract a b) = ((L s).take b).drop a := by
  unfold L
  rw [ByteArray.data_extract]
  simp [List.map_drop, List.map_take, List.drop_take]
theorem L_nil : L (⟨#[]⟩ : ByteArray) = [] := rfl
theorem size_L (s : ByteArray) : s.size = (L s).length := (L_length s).symm
theorem size_ext (s : ByteArray) (a b : Nat) : (s.extract a b).size = min b s.size - a := by rw [size_L, L_extract, List.length_drop, List.length_take, L_length]
theorem size_app (s t : ByteArray) : (s ++ t).size = s.size + t.size := by rw [size_L, L_append, List.length_append, L_length, L_length]
/-! ## miDigits -/
/-- No digit ahead of this one is the same. -/
def fresh (s : ByteArray) (i : Nat) : Bool := (List.range i).all (fun k => bt s (k : Int) != bt s (i : Int))
/-- How many different digits there are. -/
def cntD (s : ByteArray) (n : Nat) : Nat := ((List.range n).filter (fresh s)).length
theorem cntD_succ (s : ByteArray) (n : Nat) : cntD s (n + 1) = cntD s n + (if fresh s n = true then 1 else 0) := by
  unfold cntD
  rw [List.range_succ, List.filter_append, List.length_append]
  congr 1
  rw [List.filter_cons, List.filter_nil]
  split <;> rfl
theorem cntD_le (s : ByteArray) (n : Nat) : cntD s n ≤ n := by
  have := List.length_filter_le (fresh s) (List.range n)
  rw [List.length_range] at this
  exact this
theorem miDigits_l1 (s : ByteArray) (hs : s.size ≤ 1000) (i : Nat) (hi : i < s.size) (c : Int) (r : Int) (n : Int) : ∀ (e j : Nat) (is : Bool), j + e = i → is = (List.range j).all (fun k => bt s (k : Int) != bt s (i : Int)) →
    Ev (fun k => spec_miDigits.l0 k s (if fresh s i = true then wrap64 (c + 1) else c) n ((i + 1 : Nat) : Int)) r → Ev (fun k => spec_miDigits.l1 k s c (i : Int) is (j : Int) n (i : Int)) r
  | 0, j, is, hj, his, h => by
    obtain rfl : j = i := by omega
    refine Ev.step (fun _ => spec_miDigits.l1.eq_2 ..) (Ev.neg (by omega) ?_)
    rw [wsucc (m := 1000) (by omega) (by omega)]
    have hf : fresh s j = is := his.symm
    rw [hf] at h
    by_cases c1 : is = true
    · rw [if_pos c1] at h; exact Ev.pos c1 h
    · rw [if_neg c1] at h; exact Ev.neg c1 h
  | e + 1, j, is, hj, his, h => by
    have hall : ∀ b : Bool, b = (is && (bt s (j : Int) != bt s (i : Int))) → b = (List.range (j + 1)).all (fun k => bt s (k : Int) != bt s (i : Int)) := by
      intro b hb
      rw [hb, his, List.range_succ, List.all_append]
      simp
    refine Ev.step (fun _ => spec_miDigits.l1.eq_2 ..) (Ev.pos (by omega) ?_)
    rw [wsucc (m := 1000) (by omega) (by omega)]
    by_cases c1 : is = true
    · exact Ev.pos c1 (Ev.pos (by omega) (Ev.pos (by omega) (Ev.pos (by omega) (Ev.pos (by omega) (miDigits_l1 s hs i hi c r n e (j + 1) _ (by omega) (hall _ (by rw [c1, Bool.true_and])) h)))))
    · exact Ev.neg c1 (miDigits_l1 s hs i hi c r n e (j + 1) _ (by omega) (hall _ (by rw [Bool.eq_false_iff.2 c1, Bool.false_and])) h)
theorem miDigits_l0 (s : ByteArray) (hs : s.size ≤ 1000) : ∀ e i : Nat, i + e = s.size → Ev (fun k => spec_miDigits.l0 k s (cntD s i : Int) (s.size : Int) (i : Int)) (cntD s s.size : Int)
  | 0, i, h => by
    obtain rfl : i = s.size := by omega
    exact Ev.step (fun _ => spec_miDigits.l0.eq_2 ..) (Ev.neg (by omega) (Ev.now _))
  | e + 1, i, h => by
    refine Ev.step (fun _ => spec_miDigits.l0.eq_2 ..) (Ev.pos (by omega) (miDigits_l1 s hs i (by omega) _ _ _ i 0 true (by omega) (by simp) ?_))
    have ih := miDigits_l0 s hs e (i + 1) (by omega)
    have hc := cntD_le s i
    rw [cntD_succ] at ih
    by_cases c : fresh s i = true
    · rw [if_pos c] at ih ⊢
      rw [w64 (by omega) (by omega)]
      exact ih
    · rw [if_neg c] at ih ⊢
      exact ih
theorem miDigits_f (s : ByteArray) (hs : s.size ≤ 1000) (hd : (s.data.toList.all fun c => decide (c.toNat < 128)) = true) : Ev (fun k => spec_miDigits.f k s) (cntD s s.size : Int) := by
  unfold spec_miDigits.f
  exact Ev.pos ⟨hd, by omega⟩ (miDigits_l0 s hs s.size 0 (by omega))
theorem fresh_t {s : ByteArray} {i : Nat} : fresh s i = true ↔ ∀ k, k < i → bt s (k : Int) ≠ bt s (i : Int) := by
  unfold fresh
  rw [List.all_eq_true]
  constructor
  · intro h k hk e
    have := h k (List.mem_range.2 hk)
    rw [e] at this
    simp at this
  · intro h k hk
    simpa using h k (List.mem_range.1 hk)
/-- All digits are the same just where there is one different digit. -/
theorem cntD_one {s : ByteArray} {n : Nat} (hn : 0 < n) : cntD s n = 1 ↔ ∀ i, i < n → bt s (i : Int) = bt s (0 : Int) := by
  obtain ⟨m, rfl⟩ : ∃ m, n = m + 1 := ⟨n - 1, by omega⟩
  clear hn
  have h0 : fresh s 0 = true := rfl
  induction m with
  | zero => exact ⟨fun _ i hi => by obtain rfl : i = 0 := by omega
                                    rfl, fun _ => by rw [cntD_succ, if_pos h0]; rfl⟩
  | succ m ih =>
    rw [cntD_succ]
    have hge : 1 ≤ cntD s (m + 1) := by
      clear ih
      induction m with
      | zero => rw [cntD_succ, if_pos h0]; omega
      | succ m ih => rw [cntD_succ]; omega
    constructor
    · intro h
      have hf : ¬ fresh s (m + 1) = true := fun x => by rw [if_pos x] at h; omega
      rw [if_neg hf] at h
      have ha := ih.1 (by omega)
      intro i hi
      by_cases e : i = m + 1
      · subst e
        rw [fresh_t] at hf
        apply Classical.byContradiction
        intro x
        exact hf (fun k hk y => x (by rw [← y]; exact ha k hk))
      · exact ha i (by omega)
    · intro h
      have hf : ¬ fresh s (m + 1) = true := fun x => (fresh_t.1 x) 0 (by omega) (h (m + 1) (by omega)).symm
      rw [if_neg hf]
      exact ih.2 (fun i hi => h i (by omega))
theorem cntD_all {s : ByteArray} {n : Nat} : cntD s n = n ↔ ∀ i, i < n → fresh s i = true := by
  unfold cntD
  have h := List.length_filter_eq_length_iff (p := fresh s) (l := List.range n)
  rw [List.length_range] at h
  rw [h]
  exact ⟨fun x i hi => x i (List.mem_range.2 hi), fun x i hi => x i (List.mem_range.1 hi)⟩
/-! ## diffV -/
/-! how many different bytes: in order and taken together, or one by one -/
theorem bytesOf_L (s : ByteArray) : bytesOf s = L s := rfl
theorem sortedB_facts (s : ByteArray) : (sortedB s).size = s.size ∧ (∀ i j, i < j → j < s.size → (sortedB s)[i]! ≤ (sortedB s)[j]!) ∧ (sortedB s).toList.Perm (L s) := by
  have hz : (bytesOf s).toArray.size = s.size := by rw [List.size_toArray, bytesOf_L, L_length]
  have h := Go.Sort.insertionSort_holds (lt := Go.Sort.ltInt) Go.Sort.swo_ltInt (bytesOf s).toArray 0 (bytesOf s).toArray.size (Nat.zero_le _) (Nat.le_refl _)
  obtain ⟨⟨h1, _, h3⟩, h4⟩ := h
  refine ⟨by unfold sortedB; omega, fun i j hij hj => ?_, ?_⟩
  · have := h4 i j (Nat.zero_le _) hij (by omega)
    have h5 : decide ((sortedB s)[j]! < (sortedB s)[i]!) = false := this
    rw [decide_eq_false_iff_not] at h5
    omega
  · have e1 : (sortedB s).extract 0 (bytesOf s).toArray.size = sortedB s := by
      apply Array.ext'
      rw [Array.toList_extract]
      show ((sortedB s).toList.take _).drop 0 = _
      rw [List.drop_zero, List.take_of_length_le]
      rw [Array.length_toList]; unfold sortedB; omega
    have e2 : (bytesOf s).toArray.extract 0 (bytesOf s).toArray.size = (bytesOf s).toArray := by
      apply Array.ext'
      rw [Array.toList_extract]
      show ((bytesOf s).toArray.toList.take _).drop 0 = _
      rw [List.drop_zero, List.take_of_length_le]
      rw [Array.length_toList]; exact Nat.le_refl _
    have h3' : ((sortedB s).extract 0 (bytesOf s).toArray.size).toList.Perm ((bytesOf s).toArray.extract 0 (bytesOf s).toArray.size).toList := h3
    rw [e1, e2] at h3'
    exact h3'
theorem getE (d : Array Int) (j : Nat) (h : j < d.size) : d[j]! ∈ d.toList := by
  rw [getElem!_pos d j h]
  exact Array.getElem_mem_toList h
theorem mem_least {P : Nat → Prop} {f : Nat → Int} {x : Int} (hstep : ∀ j, ¬ P j → ∃ i, i < j ∧ f i = f j) : ∀ j, f j = x → ∃ i, i ≤ j ∧ P i ∧ f i = x := by
  intro j
  induction j using Nat.strongRecOn with
  | ind j ih =>
    intro hj
    by_cases h : P j
    · exact ⟨j, Nat.le_refl _, h, hj⟩
    · obtain ⟨i, hi, e⟩ := hstep j h
      obtain ⟨q, hq, h1, h2⟩ := ih i hi (e.trans hj)
      exact ⟨q, by omega, h1, h2⟩
theorem diffV_cnt (s : ByteArray) : diffV s = cntD s s.size := by
  obtain ⟨hz, hs, hp⟩ := sortedB_facts s
  unfold diffV cntD
  rw [hz]
  rw [show ((List.range s.size).filter (fresh s)).length = (((List.range s.size).filter (fresh s)).map (fun i : Nat => bt s (i : Int))).length by rw [List.length_map]]
  apply List.Perm.length_eq
  have memA : ∀ x, x ∈ Go.Lib.compactUpTo (sortedB s) s.size ↔ x ∈ L s := by
    intro x
    unfold Go.Lib.compactUpTo
    rw [List.mem_map, ← hp.mem_iff]
    constructor
    · rintro ⟨j, hj, rfl⟩
      exact getE _ j (by have := List.mem_range.1 (List.mem_filter.1 hj).1; omega)
    · intro hx
      obtain ⟨j, hj, e⟩ := List.getElem_of_mem hx
      rw [Array.length_toList] at hj
      have e2 : (sortedB s)[j]! = x := by rw [getElem!_pos _ j hj, ← Array.getElem_toList]; exact e
      obtain ⟨i, hi, h1, h2⟩ := mem_least (P := fun i => Go.Lib.keeps (sortedB s) i = true) (f := fun i => (sortedB s)[i]!) (x := x) (fun q hq => by
        unfold Go.Lib.keeps at hq
        rw [decide_eq_true_eq, not_or, Classical.not_not] at hq
        exact ⟨q - 1, by omega, hq.2.symm⟩) j e2
      exact ⟨i, List.mem_filter.2 ⟨List.mem_range.2 (by omega), h1⟩, h2⟩
  have memB : ∀ x, x ∈ ((List.range s.size).filter (fresh s)).map (fun i : Nat => bt s (i : Int)) ↔ x ∈ L s := by
    intro x
    rw [List.mem_map]
    constructor
    · rintro ⟨j, hj, rfl⟩
      exact List.mem_of_getElem? (L_get s j (List.mem_range.1 (List.mem_filter.1 hj).1))
    · intro hx
      obtain ⟨j, hj, e⟩ := List.getElem_of_mem hx
      rw [L_length] at hj
      have e2 : bt s (j : Int) = x := by
        have := L_get s j hj
        rw [List.getElem?_eq_getElem (by rw [L_length]; exact hj), e] at this
        exact (Option.some.inj this).symm
      obtain ⟨i, hi, h1, h2⟩ := mem_least (P := fun i => fresh s i = true) (f := fun i => bt s (i : Int)) (x := x) (fun q hq => by
        rw [fresh_t] at hq
        apply Classical.byContradiction
        intro hn
        exact hq (fun k hk e => hn ⟨k, hk, e⟩)) j e2
      exact ⟨i, List.mem_filter.2 ⟨List.mem_range.2 (by omega), h1⟩, h2⟩
  have ndA : (Go.Lib.compactUpTo (sortedB s) s.size).Nodup := by
    unfold Go.Lib.compactUpTo List.Nodup
    rw [List.pairwise_map]
    refine List.Pairwise.imp_of_mem ?_ (List.Pairwise.filter _ List.pairwise_lt_range)
    intro i j hi hj hij e
    have hj' := List.mem_filter.1 hj
    have hjn := List.mem_range.1 hj'.1
    have hk := hj'.2
    unfold Go.Lib.keeps at hk
    rw [decide_eq_true_eq] at hk
    rcases hk with hk | hk
    · omega
    · have h1 := hs (j - 1) j (by omega) hjn
      by_cases e2 : i = j - 1
      · subst e2; exact hk e.symm
      · have h2 := hs i (j - 1) (by omega) (by omega)
        omega
  have ndB : (((List.range s.size).filter (fresh s)).map (fun i : Nat => bt s (i : Int))).Nodup := by
    unfold List.Nodup
    rw [List.pairwise_map]
    refine List.Pairwise.imp_of_mem ?_ (List.Pairwise.filter _ List.pairwise_lt_range)
    intro i j hi hj hij e
    exact (fresh_t.1 (List.mem_filter.1 hj).2) i hij e
  exact (List.perm_ext_iff_of_nodup ndA ndB).2 (fun x => (memA x).trans (memB x).symm)
theorem differs_f (s : ByteArray) (h : s.size ≤ 12) : impl_differs.f s = some (cntD s s.size : Int) := by
  unfold impl_differs.f
  rw [if_pos ⟨h, (sortedB_facts s).1⟩, diffV_cnt]
/-! ## l1In -/
theorem l1In_f (a b c : Int) : spec_l1In.f a b c = some (decide (b ≤ a) && decide (a ≤ c)) := by
  unfold spec_l1In.f; by_cases h : b ≤ a <;> simp [h]
/-! ## miGood -/
theorem miGood_l0 (s : ByteArray) (hs : s.size ≤ 140737488351232) : ∀ (l : List Int) (n : Nat), (L s).drop n = l →
    Ev (fun k => spec_miGood.l0 k s (n : Int)) (l.all isD) := by
  intro l
  induction l with
  | nil =>
    intro n h
    have h1 := sdrop_nil h
    exact Ev.step (spec_miGood.l0.eq_2 s (n : Int)) (Ev.neg (by omega) (Ev.now _))
  | cons c t ih =>
    intro n h
    obtain ⟨h1, h2, h3⟩ := sdrop_cons h
    refine Ev.step (spec_miGood.l0.eq_2 s (n : Int)) (Ev.pos (by omega) (Ev.pos (by omega) ?_))
    rw [h2, wsucc h1 (by omega)]
    by_cases hc : isD c = true
    · have hc' := isD_t.1 hc
      refine Ev.neg (by omega) (Ev.neg (by omega) (Ev.eq ?_ (ih (n + 1) h3)))
      simp [hc]
    · have hc' := isD_f.1 (by simpa using hc)
      by_cases h48 : c < 48
      · exact Ev.pos h48 (Ev.eq (by simp [hc]) (Ev.now _))
      · exact Ev.neg h48 (Ev.pos (by omega) (Ev.eq (by simp [hc]) (Ev.now _)))
theorem miGood_f (s : ByteArray) (hs : s.size ≤ 140737488351232) :
    Ev (fun k => spec_miGood.f k s) ((L s).all isD && (decide ((1 : Int) ≤ s.size) && decide ((s.size : Int) ≤ 9))) := by
  refine Ev.sm (l1In_f _ _ _) ?_
  by_cases h : (decide ((1 : Int) ≤ s.size) && decide ((s.size : Int) ≤ 9)) = true
  · exact Ev.pos h (Ev.eq (by rw [h, Bool.and_true]) (miGood_l0 s hs (L s) 0 rfl))
  · exact Ev.neg h (Ev.eq (by rw [Bool.not_eq_true] at h; rw [h, Bool.and_false]) (Ev.now _))
/-! ## within -/
theorem within_f (a b c : Int) : impl_within.f a b c = some (decide (b ≤ a) && decide (a ≤ c)) := by
  unfold impl_within.f; by_cases h : b ≤ a <;> simp [h]
/-! ## areDigits -/
theorem areDigits_l0 (s : ByteArray) (lo hi : Int) (hs : s.size ≤ 140737488351232) : ∀ (l : List Int) (n : Nat), (L s).drop n = l →
    Ev (fun k => impl_areDigits.l0 k s lo hi (s.size : Int) (n : Int)) (l.all isD && (decide (lo ≤ s.size) && decide ((s.size : Int) ≤ hi))) := by
  intro l
  induction l with
  | nil =>
    intro n h
    have h1 := sdrop_nil h
    refine Ev.step (impl_areDigits.l0.eq_2 s lo hi (s.size : Int) (n : Int)) ?_
    refine Ev.neg (by omega) (Ev.sm (within_f _ _ _) (Ev.eq ?_ (Ev.now _)))
    simp
  | cons c t ih =>
    intro n h
    obtain ⟨h1, h2, h3⟩ := sdrop_cons h
    refine Ev.step (impl_areDigits.l0.eq_2 s lo hi (s.size : Int) (n : Int)) (Ev.pos (by omega) (Ev.pos (by omega) (Ev.pos (by omega) ?_)))
    rw [h2, wsucc h1 (by omega)]
    by_cases hc : isD c = true
    · have hc' := isD_t.1 hc
      refine Ev.neg (by omega) (Ev.neg (by omega) (Ev.eq ?_ (ih (n + 1) h3)))
      simp [hc]
    · have hc' := isD_f.1 (by simpa using hc)
      by_cases h48 : c < 48
      · exact Ev.pos h48 (Ev.eq (by simp [hc]) (Ev.now _))
      · exact Ev.neg h48 (Ev.pos (by omega) (Ev.eq (by simp [hc]) (Ev.now _)))
theorem areDigits_f (s : ByteArray) (lo hi : Int) (hs : s.size ≤ 140737488351232) :
    Ev (fun k => impl_areDigits.f k s lo hi) ((L s).all isD && (decide (lo ≤ s.size) && decide ((s.size : Int) ≤ hi))) :=
  areDigits_l0 s lo hi hs (L s) 0 rfl
/-! ## reading -/
/-- Is a text a reading. -/
def good (s : ByteArray) : Bool := (L s).all isD && (decide ((1 : Int) ≤ s.size) && decide ((s.size : Int) ≤ 9))
theorem good_t {s : ByteArray} (h : good s = true) : (L s).all isD = true ∧ 1 ≤ s.size ∧ s.size ≤ 9 := by
  unfold good at h
  rw [Bool.and_eq_true, Bool.and_eq_true, decide_eq_true_eq, decide_eq_true_eq] at h
  exact ⟨h.1, by omega, by omega⟩
/-! ## good128 -/
theorem good_128 {s : ByteArray} (h : (L s).all isD = true) : (s.data.toList.all fun c => decide (c.toNat < 128)) = true := by
  rw [List.all_eq_true]
  intro c hc
  have h1 : (c.toNat : Int) ∈ L s := List.mem_map_of_mem hc
  have h2 := isD_t.1 (List.all_eq_true.1 h _ h1)
  rw [decide_eq_true_eq]; omega
/-! ## FnExactDifferentDigits -/
theorem FnExactDifferentDigits : laws_FnExactDifferentDigits.Pure := by
  intro s hs
  refine Ev.rounds (g := fun k => laws_FnExactDifferentDigits.f k s) ?_
  unfold laws_FnExactDifferentDigits.f
  by_cases b1 : (s.size : Int) > 1048576
  · exact Ev.pos b1 (Ev.now _)
  · refine Ev.neg b1 ?_
    have ga : Ev (fun k => spec_miGood.f k s) (good s) := miGood_f s hs
    have ia : Ev (fun k => impl_IsReading.f k s) (good s) := Ev.bind (areDigits_f s 1 9 hs) (Ev.now _)
    by_cases c1 : good s = true
    · obtain ⟨hd, h1, h9⟩ := good_t c1
      exact Ev.bind (Ev.bind ga (Ev.pos c1 (Ev.bind (miDigits_f s (by omega) (good_128 hd)) (Ev.now _)))) (Ev.bind (Ev.bind ia (Ev.pos c1 (Ev.sm (differs_f s (by omega)) (Ev.now _)))) (Ev.pos rfl (Ev.neg (by simp) (Ev.now _))))
    · exact Ev.bind (a := ((0 : Int), false)) (Ev.bind ga (Ev.neg c1 (Ev.now _))) (Ev.bind (a := ((0 : Int), false)) (Ev.bind ia (Ev.neg c1 (Ev.now _))) (Ev.pos rfl (Ev.neg (by simp) (Ev.now _))))

end Go.Proofs.Ytkbbmkbkpkmdkab.Pure
