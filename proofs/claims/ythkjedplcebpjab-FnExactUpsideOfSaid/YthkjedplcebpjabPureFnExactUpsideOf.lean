/- The plain law of FnExactUpsideOf: at all arguments the printed function of the law answers true after some number of rounds. Conditions: none beyond the bounds that the printed statement itself bears. -/
import Derived.Test.YthkjedplcebpjabQFnExactUpsideOfx1
namespace Go.Proofs.Ythkjedplcebpjab.Pure
open Go.RowKit Go.Proofs.Ythkjedplcebpjab.QFnExactUpsideOf Go.Proofs.YthkjedplcebpjabW.PrintWords Go.Proofs.YthkjedplcebpjabW.PrintLast Go.Proofs.Ythkjedplcebpjab.Ext
set_option linter.unusedVariables false


/-! ## opena -/
open Go.Proofs.Ythkjedplcebpjab.QA1
/-! ## base -/
/-! numbers in 64 bits -/
theorem w64 {x : Int} (h1 : -9223372036854775808 ≤ x) (h2 : x ≤ 9223372036854775807) : wrap64 x = x := by unfold wrap64; omega
theorem w64n {x : Nat} (h2 : x ≤ 9223372036854775807) : wrap64 (x : Int) = (x : Int) := w64 (by omega) (by omega)
theorem wf64 {x : Int} (h : (Lit.int .i64 x).wf = true) : -9223372036854775808 ≤ x ∧ x ≤ 9223372036854775807 := by
  have hmin : IntKind.i64.min = -9223372036854775808 := rfl
  have hmax : IntKind.i64.max = 9223372036854775807 := rfl
  simp only [Lit.wf, Bool.and_eq_true, decide_eq_true_eq, hmin, hmax] at h
  exact h
theorem tmodN (a b : Nat) : Int.tmod (a : Int) (b : Int) = ((a % b : Nat) : Int) := rfl
theorem tdivN (a b : Nat) : Int.tdiv (a : Int) (b : Int) = ((a / b : Nat) : Int) := rfl
theorem tmod_nn {a b : Int} (h : 0 ≤ a) : Int.tmod a b = a % b := Int.tmod_eq_emod_of_nonneg h
theorem tdiv_nn {a b : Int} (h : 0 ≤ a) : Int.tdiv a b = a / b := Int.tdiv_eq_ediv_of_nonneg h
/-! from some number of rounds on -/
theorem Ev.pos {α : Type} {c : Prop} [Decidable c] {f g : Nat → Option α} {r : α} (h : c) (e : Ev f r) : Ev (fun k => if c then f k else g k) r := by simpa only [if_pos h] using e
theorem Ev.neg {α : Type} {c : Prop} [Decidable c] {f g : Nat → Option α} {r : α} (h : ¬ c) (e : Ev g r) : Ev (fun k => if c then f k else g k) r := by simpa only [if_neg h] using e
theorem Ev.sm {α β : Type} {f : Nat → α → Option β} {a : α} {o : Option α} {r : β} (h : o = some a) (e : Ev (fun n => f n a) r) : Ev (fun n => o.bind (f n)) r := by subst h; simpa only [Option.bind_some] using e
theorem Ev.eq {α : Type} {f : Nat → Option α} {r r' : α} (h : r' = r) (e : Ev f r) : Ev f r' := h ▸ e
theorem Ev.of_some {α : Type} {o : Option α} {r : α} (h : o = some r) : Ev (fun _ => o) r := ⟨0, fun _ _ => h⟩
theorem Ev.uniq {α : Type} {g : Nat → Option α} {r q : α} (h : Ev g r) (h' : Ev g q) : r = q := by
  obtain ⟨K, h⟩ := h
  obtain ⟨K', h'⟩ := h'
  have := (h (max K K') (by omega)).symm.trans (h' (max K K') (by omega))
  exact Option.some.inj this
/-! a string as a list of numbers -/
def L (s : ByteArray) : List Int := s.data.toList.map (fun c => (c.toNat : Int))
theorem L_length (s : ByteArray) : (L s).length = s.size := by simp [L]
theorem bt_lo (s : ByteArray) (i : Int) : 0 ≤ bt s i := by unfold bt; split <;> omega
theorem bt_hi (s : ByteArray) (i : Int) : bt s i ≤ 255 := by
  unfold bt; split
  · have := UInt8.toNat_lt (s[i.toNat]); omega
  · omega
theorem bt_L (s : ByteArray) (n : Nat) : bt s (n : Int) = (L s).getD n 0 := by
  unfold bt L
  by_cases h : n < s.size
  · simp [h, List.getD_eq_getElem?_getD]; rfl
  · simp [h, List.getD_eq_getElem?_getD]
theorem L_get (s : ByteArray) (n : Nat) (h : n < s.size) : (L s)[n]? = some (bt s n) := by
  rw [bt_L, List.getD_eq_getElem?_getD]
  have : n < (L s).length := by rw [L_length]; exact h
  simp [this]
theorem L_mem {s : ByteArray} {c : Int} (h : c ∈ L s) : 0 ≤ c ∧ c ≤ 255 := by
  unfold L at h
  obtain ⟨u, _, rfl⟩ := List.mem_map.1 h
  have := UInt8.toNat_lt u
  omega
theorem map_toNat_inj : ∀ (l m : List UInt8), l.map (fun c => (c.toNat : Int)) = m.map (fun c => (c.toNat : Int)) → l = m
  | [], [], _ => rfl
  | [], _ :: _, h => by simp at h
  | _ :: _, [], h => by simp at h
  | a :: l, b :: m, h => by
    simp only [List.map_cons, List.cons.injEq] at h
    have h1 : a = b := by apply UInt8.toNat_inj.1; omega
    rw [h1, map_toNat_inj l m h.2]
theorem L_inj {s t : ByteArray} (h : L s = L t) : s = t := by
  have := map_toNat_inj _ _ h
  cases s; cases t
  congr 1
  exact Array.toList_inj.1 this
theorem toList_L {s t : ByteArray} : s.data.toList = t.data.toList ↔ L s = L t := by
  constructor
  · intro h; unfold L; rw [h]
  · intro h; exact map_toNat_inj _ _ h
theorem L_append (s t : ByteArray) : L (s ++ t) = L s ++ L t := by
  unfold L
  rw [ByteArray.data_append]
  simp
/-- The rest of a list from a place on. -/
theorem drop_cons {α : Type} {l : List α} {n : Nat} {c : α} {t : List α} (h : l.drop n = c :: t) : n < l.length ∧ l[n]? = some c ∧ l.drop (n + 1) = t := by
  have h1 : n < l.length := by
    by_cases h1 : n < l.length
    · exact h1
    · rw [List.drop_eq_nil_of_le (by omega)] at h; cases h
  rw [List.drop_eq_getElem_cons h1] at h
  simp only [List.cons.injEq] at h
  exact ⟨h1, by rw [List.getElem?_eq_getElem h1, h.1], h.2⟩
theorem drop_nil {α : Type} {l : List α} {n : Nat} (h : l.drop n = []) : l.length ≤ n := by simpa using h
theorem sdrop_cons {s : ByteArray} {n : Nat} {c : Int} {t : List Int} (h : (L s).drop n = c :: t) : n < s.size ∧ bt s n = c ∧ (L s).drop (n + 1) = t := by
  obtain ⟨h1, h2, h3⟩ := drop_cons h
  rw [L_length] at h1
  rw [L_get s n h1] at h2
  exact ⟨h1, Option.some.inj h2, h3⟩
theorem sdrop_nil {s : ByteArray} {n : Nat} (h : (L s).drop n = []) : s.size ≤ n := by have := drop_nil h; rwa [L_length] at this
theorem wsucc {n m : Nat} (h : n < m) (hm : m ≤ 140737488355328) : wrap64 ((n : Int) + 1) = ((n + 1 : Nat) : Int) := by rw [w64 (by omega) (by omega)]; rfl
/-! digits -/
def isD (c : Int) : Bool := decide (48 ≤ c) && decide (c ≤ 57)
theorem isD_t {c : Int} : isD c = true ↔ 48 ≤ c ∧ c ≤ 57 := by simp [isD]
theorem isD_f {c : Int} : isD c = false ↔ c < 48 ∨ 57 < c := by
  rw [← Bool.not_eq_true, isD_t]; omega
theorem dig_mod {c : Int} (h : isD c = true) : (c - 48) % 256 = c - 48 := by rw [isD_t] at h; omega
/-! ## str -/
theorem tl_eq {s t : ByteArray} : s.toList = t.toList ↔ s = t := by
  rw [ByteArray.toList_eq, ByteArray.toList_eq, toList_L]
  exact ⟨L_inj, fun h => by rw [h]⟩
theorem L_extract (s : ByteArray) (a b : Nat) : L (s.extract a b) = ((L s).take b).drop a := by
  unfold L
  rw [ByteArray.data_extract]
  simp [List.map_drop, List.map_take, List.drop_take]
theorem L_nil : L (⟨#[]⟩ : ByteArray) = [] := rfl
theorem size_L (s : ByteArray) : s.size = (L s).length := (L_length s).symm
theorem size_ext (s : ByteArray) (a b : Nat) : (s.extract a b).size = min b s.size - a := by rw [size_L, L_extract, List.length_drop, List.length_take, L_length]
theorem size_app (s t : ByteArray) : (s ++ t).size = s.size + t.size := by rw [size_L, L_append, List.length_append, L_length, L_length]
/-! ## turned -/
theorem L_bytesOf (s : ByteArray) : bytesOf s = L s := rfl
theorem ofNat_toNat {c : Int} (h : 0 ≤ c ∧ c ≤ 255) : (((UInt8.ofNat c.toNat).toNat : Nat) : Int) = c := by
  rw [UInt8.toNat_ofNat', Nat.mod_eq_of_lt (by omega)]; omega
theorem L_strOfNums (l : List Int) (h : ∀ c ∈ l, 0 ≤ c ∧ c ≤ 255) : L (strOfNums l) = l := by
  unfold L strOfNums
  rw [List.map_map]
  conv => rhs; rw [← List.map_id l]
  exact List.map_congr_left (fun c hc => ofNat_toNat (h c hc))
theorem L_revB (s : ByteArray) : L (revB s) = (L s).reverse := by
  unfold revB
  rw [L_strOfNums, L_bytesOf]
  intro c hc
  rw [List.mem_reverse, L_bytesOf] at hc
  exact L_mem hc
theorem size_revB (s : ByteArray) : (revB s).size = s.size := by rw [size_L, L_revB, List.length_reverse, L_length]
theorem turned_f (s : ByteArray) (h : s.size ≤ 1000) : impl_turned.f s = some (revB s) := if_pos h
/-! ## miUps -/
theorem upI_get {l : List Int} {n : Nat} (hl : n < l.length) : ((l.take (n + 1)).reverse.map upI) = upI l[n] :: (l.take n).reverse.map upI := by
  rw [List.take_succ_eq_append_getElem hl, List.reverse_append]; rfl
theorem miUps_l0 (s : ByteArray) (hs : s.size ≤ 1000) : ∀ (n : Nat) (acc t : ByteArray), n ≤ s.size → acc.size ≤ 1000000 - n → L t = L acc ++ ((L s).take n).reverse.map upI →
    Ev (fun k => spec_miUpside.l0 k s acc ((n : Int) - 1)) (if (((L s).take n).reverse.map upI).any (fun y => (0 : Int) == y) = true then (⟨#[]⟩, false) else (t, true))
  | 0, acc, t, _, _, h => by
    refine Ev.step (fun _ => spec_miUpside.l0.eq_2 ..) (Ev.neg (by omega) ?_)
    rw [List.take_zero, List.reverse_nil, List.map_nil] at h ⊢
    rw [List.append_nil] at h
    rw [L_inj h]
    exact Ev.now _
  | n + 1, acc, t, hn, ha, h => by
    have hl : n < (L s).length := by rw [L_length]; omega
    have e1 : ((n + 1 : Nat) : Int) - 1 = (n : Int) := by omega
    have hc : bt s (n : Int) = (L s)[n] := by rw [bt_L, List.getD_eq_getElem?_getD, List.getElem?_eq_getElem hl]; rfl
    rw [upI_get hl] at h ⊢
    rw [e1, List.any_cons]
    generalize hcc : (L s)[n] = c at h hc ⊢
    refine Ev.step (fun _ => spec_miUpside.l0.eq_2 ..) (Ev.pos (by omega) (Ev.pos (by omega) (Ev.pos (by omega) ?_)))
    rw [hc]
    have app : ∀ (u : ByteArray) (v : Int), L u = [v] → u.size = 1 → upI c = v → v ≠ 0 → Ev (fun k => spec_miUpside.l0 k s (acc ++ u) (wrap64 ((n : Int) - 1))) (if ((0 : Int) == upI c || (((L s).take n).reverse.map upI).any (fun y => (0 : Int) == y)) = true then (⟨#[]⟩, false) else (t, true)) := by
      intro u v hu hz hv h0
      rw [hv] at h ⊢
      rw [beq_eq_false_iff_ne.2 (Ne.symm h0), Bool.false_or, w64 (x := (n : Int) - 1) (by omega) (by omega)]
      refine miUps_l0 s hs n _ t (by omega) (by rw [size_app, hz]; omega) ?_
      rw [h, L_append, hu, List.append_assoc]; rfl
    have same : (c = 48 ∨ c = 49 ∨ c = 56) → Ev (fun k => spec_miUpside.j1 k s acc (n : Int) c true) (if ((0 : Int) == upI c || (((L s).take n).reverse.map upI).any (fun y => (0 : Int) == y)) = true then (⟨#[]⟩, false) else (t, true)) := by
      intro hh
      refine Ev.step (fun _ => spec_miUpside.j1.eq_2 ..) (Ev.pos rfl ?_)
      rw [wsucc (m := s.size) (show n < s.size by omega) (by omega), Int.toNat_natCast, Int.toNat_natCast]
      refine Ev.pos (by omega) (Ev.pos (by omega) (Ev.pos (by omega) (Ev.pos (by rw [size_ext]; omega) (app _ c ?_ (by rw [size_ext]; omega) (by unfold upI; split <;> first | rfl | (split <;> first | rfl | (split <;> first | rfl | omega))) (by omega)))))
      rw [L_extract, List.take_succ_eq_append_getElem hl, hcc, List.drop_append_of_le_length (by rw [List.length_take]; omega), List.drop_of_length_le (by rw [List.length_take]; omega), List.nil_append]
    by_cases c1 : c = 48
    · refine Ev.pos c1 ?_
      rw [show (c == 48) = true by simpa using c1]
      exact same (.inl c1)
    · refine Ev.neg c1 ?_
      by_cases c2 : c = 49
      · refine Ev.pos c2 ?_
        rw [show (c == 49) = true by simpa using c2]
        exact same (.inr (.inl c2))
      · refine Ev.neg c2 ?_
        by_cases c3 : c = 56
        · rw [show (c == 56) = true by simpa using c3]
          exact same (.inr (.inr c3))
        · rw [show (c == 56) = false by simpa using c3]
          refine Ev.step (fun _ => spec_miUpside.j1.eq_2 ..) (Ev.neg (by decide) ?_)
          by_cases c4 : c = 54
          · exact Ev.pos c4 (Ev.pos (by omega) (app _ 57 rfl rfl (by rw [c4]; rfl) (by decide)))
          · refine Ev.neg c4 ?_
            by_cases c5 : c = 57
            · exact Ev.pos c5 (Ev.pos (by omega) (app _ 54 rfl rfl (by rw [c5]; rfl) (by decide)))
            · refine Ev.neg c5 ?_
              have h0 : upI c = 0 := by unfold upI; rw [if_neg c1, if_neg c2, if_neg c3, if_neg c4, if_neg c5]
              rw [h0]
              exact Ev.eq (by simp) (Ev.now _)
theorem upI_mem (c : Int) (h : 0 ≤ c ∧ c ≤ 255) : 0 ≤ upI c ∧ upI c ≤ 255 := by unfold upI; repeat' split <;> omega
theorem upsL_eq (s : ByteArray) : upsL s = (L s).reverse.map upI := by unfold upsL; rw [L_bytesOf, L_revB]
theorem miUps_f (s : ByteArray) (hs : s.size ≤ 1000) : Ev (fun k => spec_miUpside.f k s) (upsAns s) := by
  have h := miUps_l0 s hs s.size ⟨#[]⟩ (strOfNums (upsL s)) (Nat.le_refl _) (Nat.zero_le _) (by
    rw [L_strOfNums, upsL_eq, L_nil, List.nil_append, List.take_of_length_le (by rw [L_length]; omega)]
    intro c hc
    rw [upsL_eq] at hc
    obtain ⟨x, hx, rfl⟩ := List.mem_map.1 hc
    exact upI_mem x (L_mem (List.mem_reverse.1 hx)))
  rw [List.take_of_length_le (by rw [L_length]; omega), ← upsL_eq] at h
  show Ev (fun k => spec_miUpside.l0 k s ⟨#[]⟩ (wrap64 ((s.size : Int) - 1))) _
  rw [w64 (by omega) (by omega)]
  exact h
/-! ## l1In -/
theorem l1In_f (a b c : Int) : spec_l1In.f a b c = some (decide (b ≤ a) && decide (a ≤ c)) := by
  unfold spec_l1In.f; by_cases h : b ≤ a <;> simp [h]
/-! ## miGood -/
theorem miGood_l0 (s : ByteArray) (hs : s.size ≤ 140737488351232) : ∀ (l : List Int) (n : Nat), (L s).drop n = l →
    Ev (fun k => spec_miGood.l0 k s (n : Int)) (l.all isD) := by
  intro l
  induction l with
  | nil =>
    intro n h
    have h1 := sdrop_nil h
    exact Ev.step (spec_miGood.l0.eq_2 s (n : Int)) (Ev.neg (by omega) (Ev.now _))
  | cons c t ih =>
    intro n h
    obtain ⟨h1, h2, h3⟩ := sdrop_cons h
    refine Ev.step (spec_miGood.l0.eq_2 s (n : Int)) (Ev.pos (by omega) (Ev.pos (by omega) ?_))
    rw [h2, wsucc h1 (by omega)]
    by_cases hc : isD c = true
    · have hc' := isD_t.1 hc
      refine Ev.neg (by omega) (Ev.neg (by omega) (Ev.eq ?_ (ih (n + 1) h3)))
      simp [hc]
    · have hc' := isD_f.1 (by simpa using hc)
      by_cases h48 : c < 48
      · exact Ev.pos h48 (Ev.eq (by simp [hc]) (Ev.now _))
      · exact Ev.neg h48 (Ev.pos (by omega) (Ev.eq (by simp [hc]) (Ev.now _)))
theorem miGood_f (s : ByteArray) (hs : s.size ≤ 140737488351232) :
    Ev (fun k => spec_miGood.f k s) ((L s).all isD && (decide ((1 : Int) ≤ s.size) && decide ((s.size : Int) ≤ 9))) := by
  refine Ev.sm (l1In_f _ _ _) ?_
  by_cases h : (decide ((1 : Int) ≤ s.size) && decide ((s.size : Int) ≤ 9)) = true
  · exact Ev.pos h (Ev.eq (by rw [h, Bool.and_true]) (miGood_l0 s hs (L s) 0 rfl))
  · exact Ev.neg h (Ev.eq (by rw [Bool.not_eq_true] at h; rw [h, Bool.and_false]) (Ev.now _))
/-! ## within -/
theorem within_f (a b c : Int) : impl_within.f a b c = some (decide (b ≤ a) && decide (a ≤ c)) := by
  unfold impl_within.f; by_cases h : b ≤ a <;> simp [h]
/-! ## areDigits -/
theorem areDigits_l0 (s : ByteArray) (lo hi : Int) (hs : s.size ≤ 140737488351232) : ∀ (l : List Int) (n : Nat), (L s).drop n = l →
    Ev (fun k => impl_areDigits.l0 k s lo hi (s.size : Int) (n : Int)) (l.all isD && (decide (lo ≤ s.size) && decide ((s.size : Int) ≤ hi))) := by
  intro l
  induction l with
  | nil =>
    intro n h
    have h1 := sdrop_nil h
    refine Ev.step (impl_areDigits.l0.eq_2 s lo hi (s.size : Int) (n : Int)) ?_
    refine Ev.neg (by omega) (Ev.sm (within_f _ _ _) (Ev.eq ?_ (Ev.now _)))
    simp
  | cons c t ih =>
    intro n h
    obtain ⟨h1, h2, h3⟩ := sdrop_cons h
    refine Ev.step (impl_areDigits.l0.eq_2 s lo hi (s.size : Int) (n : Int)) (Ev.pos (by omega) (Ev.pos (by omega) (Ev.pos (by omega) ?_)))
    rw [h2, wsucc h1 (by omega)]
    by_cases hc : isD c = true
    · have hc' := isD_t.1 hc
      refine Ev.neg (by omega) (Ev.neg (by omega) (Ev.eq ?_ (ih (n + 1) h3)))
      simp [hc]
    · have hc' := isD_f.1 (by simpa using hc)
      by_cases h48 : c < 48
      · exact Ev.pos h48 (Ev.eq (by simp [hc]) (Ev.now _))
      · exact Ev.neg h48 (Ev.pos (by omega) (Ev.eq (by simp [hc]) (Ev.now _)))
theorem areDigits_f (s : ByteArray) (lo hi : Int) (hs : s.size ≤ 140737488351232) :
    Ev (fun k => impl_areDigits.f k s lo hi) ((L s).all isD && (decide (lo ≤ s.size) && decide ((s.size : Int) ≤ hi))) :=
  areDigits_l0 s lo hi hs (L s) 0 rfl
/-! ## reading -/
/-- Is a text a reading. -/
def good (s : ByteArray) : Bool := (L s).all isD && (decide ((1 : Int) ≤ s.size) && decide ((s.size : Int) ≤ 9))
theorem good_t {s : ByteArray} (h : good s = true) : (L s).all isD = true ∧ 1 ≤ s.size ∧ s.size ≤ 9 := by
  unfold good at h
  rw [Bool.and_eq_true, Bool.and_eq_true, decide_eq_true_eq, decide_eq_true_eq] at h
  exact ⟨h.1, by omega, by omega⟩
/-! ## FnExactUpsideOf -/
theorem FnExactUpsideOf : laws_FnExactUpsideOf.Pure := by
  intro a ha
  refine Ev.rounds (g := fun k => laws_FnExactUpsideOf.f k a) ?_
  unfold laws_FnExactUpsideOf.f
  by_cases b1 : (a.size : Int) > 1048576
  · exact Ev.pos b1 (Ev.now _)
  · refine Ev.neg b1 ?_
    have ga : Ev (fun k => spec_miGood.f k a) (good a) := miGood_f a ha
    have ia : Ev (fun k => impl_IsReading.f k a) (good a) := Ev.bind (areDigits_f a 1 9 ha) (Ev.now _)
    by_cases c1 : good a = true
    · have h1 := good_t c1
      exact Ev.bind (a := upsAns a) (Ev.bind ga (Ev.pos c1 (Ev.bind (miUps_f a (by omega)) (Ev.now _)))) (Ev.bind (a := upsAns a) (Ev.bind ia (Ev.pos c1 (Ev.pos ⟨by omega, by rw [size_revB]; omega⟩ (Ev.now _)))) (Ev.pos rfl (Ev.neg (by simp) (Ev.now _))))
    · exact Ev.bind (a := (⟨#[]⟩, false)) (Ev.bind ga (Ev.neg c1 (Ev.now _))) (Ev.bind (a := (⟨#[]⟩, false)) (Ev.bind ia (Ev.neg c1 (Ev.now _))) (Ev.pos rfl (Ev.neg (by simp) (Ev.now _))))

end Go.Proofs.Ythkjedplcebpjab.Pure
