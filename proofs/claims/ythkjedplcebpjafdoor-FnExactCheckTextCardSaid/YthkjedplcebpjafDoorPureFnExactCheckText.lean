/- The plain law of FnExactCheckText: at all arguments the printed function of the law answers true after some number of rounds. Conditions: none beyond the bounds that the printed statement itself bears. -/
import Derived.Test.YthkjedplcebpjafDoorQFnExactCheckTextx3
namespace Go.Proofs.YthkjedplcebpjafDoor.Pure
open Go.RowKit Go.Proofs.YthkjedplcebpjafDoor.QFnExactCheckText Go.Proofs.YthkjedplcebpjafDoorW.PrintWords Go.Proofs.YthkjedplcebpjafDoorW.PrintLast Go.Proofs.YthkjedplcebpjafDoorW.PrintMore Go.Proofs.YthkjedplcebpjafDoor.Ext
set_option linter.unusedVariables false

def laws_FnExactCheckText.Pure : Prop := ∀ (l0_0 : List Int) (a0_1 : Int), l0_0.length ≤ 9223372036854775807 → (∀ x ∈ l0_0, (Lit.int .i64 x).wf = true) → (Lit.int .i64 a0_1).wf = true → ∃ k, laws_FnExactCheckText.f k l0_0 a0_1 = some true
/-! ## base -/
/-! numbers in 64 bits -/
theorem w64 {x : Int} (h1 : -9223372036854775808 ≤ x) (h2 : x ≤ 9223372036854775807) : wrap64 x = x := by unfold wrap64; omega
theorem w64n {x : Nat} (h2 : x ≤ 9223372036854775807) : wrap64 (x : Int) = (x : Int) := w64 (by omega) (by omega)
theorem wf64 {x : Int} (h : (Lit.int .i64 x).wf = true) : -9223372036854775808 ≤ x ∧ x ≤ 9223372036854775807 := by
  have hmin : IntKind.i64.min = -9223372036854775808 := rfl
  have hmax : IntKind.i64.max = 9223372036854775807 := rfl
  simp only [Lit.wf, Bool.and_eq_true, decide_eq_true_eq, hmin, hmax] at h
  exact h
theorem tmodN (a b : Nat) : Int.tmod (a : Int) (b : Int) = ((a % b : Nat) : Int) := rfl
theorem tdivN (a b : Nat) : Int.tdiv (a : Int) (b : Int) = ((a / b : Nat) : Int) := rfl
theorem tmod_nn {a b : Int} (h : 0 ≤ a) : Int.tmod a b = a % b := Int.tmod_eq_emod_of_nonneg h
theorem tdiv_nn {a b : Int} (h : 0 ≤ a) : Int.tdiv a b = a / b := Int.tdiv_eq_ediv_of_nonneg h
/-! from some number of rounds on -/
theorem Ev.pos {α : Type} {c : Prop} [Decidable c] {f g : Nat → Option α} {r : α} (h : c) (e : Ev f r) : Ev (fun k => if c then f k else g k) r := by simpa only [if_pos h] using e
theorem Ev.neg {α : Type} {c : Prop} [Decidable c] {f g : Nat → Option α} {r : α} (h : ¬ c) (e : Ev g r) : Ev (fun k => if c then f k else g k) r := by simpa only [if_neg h] using e
theorem Ev.sm {α β : Type} {f : Nat → α → Option β} {a : α} {o : Option α} {r : β} (h : o = some a) (e : Ev (fun n => f n a) r) : Ev (fun n => o.bind (f n)) r := by subst h; simpa only [Option.bind_some] using e
theorem Ev.eq {α : Type} {f : Nat → Option α} {r r' : α} (h : r' = r) (e : Ev f r) : Ev f r' := h ▸ e
theorem Ev.of_some {α : Type} {o : Option α} {r : α} (h : o = some r) : Ev (fun _ => o) r := ⟨0, fun _ _ => h⟩
theorem Ev.uniq {α : Type} {g : Nat → Option α} {r q : α} (h : Ev g r) (h' : Ev g q) : r = q := by
  obtain ⟨K, h⟩ := h
  obtain ⟨K', h'⟩ := h'
  have := (h (max K K') (by omega)).symm.trans (h' (max K K') (by omega))
  exact Option.some.inj this
/-! a string as a list of numbers -/
def L (s : ByteArray) : List Int := s.data.toList.map (fun c => (c.toNat : Int))
theorem L_length (s : ByteArray) : (L s).length = s.size := by simp [L]
theorem bt_lo (s : ByteArray) (i : Int) : 0 ≤ bt s i := by unfold bt; split <;> omega
theorem bt_hi (s : ByteArray) (i : Int) : bt s i ≤ 255 := by
  unfold bt; split
  · have := UInt8.toNat_lt (s[i.toNat]); omega
  · omega
theorem bt_L (s : ByteArray) (n : Nat) : bt s (n : Int) = (L s).getD n 0 := by
  unfold bt L
  by_cases h : n < s.size
  · simp [h, List.getD_eq_getElem?_getD]; rfl
  · simp [h, List.getD_eq_getElem?_getD]
theorem L_get (s : ByteArray) (n : Nat) (h : n < s.size) : (L s)[n]? = some (bt s n) := by
  rw [bt_L, List.getD_eq_getElem?_getD]
  have : n < (L s).length := by rw [L_length]; exact h
  simp [this]
theorem L_mem {s : ByteArray} {c : Int} (h : c ∈ L s) : 0 ≤ c ∧ c ≤ 255 := by
  unfold L at h
  obtain ⟨u, _, rfl⟩ := List.mem_map.1 h
  have := UInt8.toNat_lt u
  omega
theorem map_toNat_inj : ∀ (l m : List UInt8), l.map (fun c => (c.toNat : Int)) = m.map (fun c => (c.toNat : Int)) → l = m
  | [], [], _ => rfl
  | [], _ :: _, h => by simp at h
  | _ :: _, [], h => by simp at h
  | a :: l, b :: m, h => by
    simp only [List.map_cons, List.cons.injEq] at h
    have h1 : a = b := by apply UInt8.toNat_inj.1; omega
    rw [h1, map_toNat_inj l m h.2]
theorem L_inj {s t : ByteArray} (h : L s = L t) : s = t := by
  have := map_toNat_inj _ _ h
  cases s; cases t
  congr 1
  exact Array.toList_inj.1 this
theorem toList_L {s t : ByteArray} : s.data.toList = t.data.toList ↔ L s = L t := by
  constructor
  · intro h; unfold L; rw [h]
  · intro h; exact map_toNat_inj _ _ h
theorem L_append (s t : ByteArray) : L (s ++ t) = L s ++ L t := by
  unfold L
  rw [ByteArray.data_append]
  simp
/-- The rest of a list from a place on. -/
theorem drop_cons {α : Type} {l : List α} {n : Nat} {c : α} {t : List α} (h : l.drop n = c :: t) : n < l.length ∧ l[n]? = some c ∧ l.drop (n + 1) = t := by
  have h1 : n < l.length := by
    by_cases h1 : n < l.length
    · exact h1
    · rw [List.drop_eq_nil_of_le (by omega)] at h; cases h
  rw [List.drop_eq_getElem_cons h1] at h
  simp only [List.cons.injEq] at h
  exact ⟨h1, by rw [List.getElem?_eq_getElem h1, h.1], h.2⟩
theorem drop_nil {α : Type} {l : List α} {n : Nat} (h : l.drop n = []) : l.length ≤ n := by simpa using h
theorem sdrop_cons {s : ByteArray} {n : Nat} {c : Int} {t : List Int} (h : (L s).drop n = c :: t) : n < s.size ∧ bt s n = c ∧ (L s).drop (n + 1) = t := by
  obtain ⟨h1, h2, h3⟩ := drop_cons h
  rw [L_length] at h1
  rw [L_get s n h1] at h2
  exact ⟨h1, Option.some.inj h2, h3⟩
theorem sdrop_nil {s : ByteArray} {n : Nat} (h : (L s).drop n = []) : s.size ≤ n := by have := drop_nil h; rwa [L_length] at this
theorem wsucc {n m : Nat} (h : n < m) (hm : m ≤ 140737488355328) : wrap64 ((n : Int) + 1) = ((n + 1 : Nat) : Int) := by rw [w64 (by omega) (by omega)]; rfl
/-! digits -/
def isD (c : Int) : Bool := decide (48 ≤ c) && decide (c ≤ 57)
theorem isD_t {c : Int} : isD c = true ↔ 48 ≤ c ∧ c ≤ 57 := by simp [isD]
theorem isD_f {c : Int} : isD c = false ↔ c < 48 ∨ 57 < c := by
  rw [← Bool.not_eq_true, isD_t]; omega
theorem dig_mod {c : Int} (h : isD c = true) : (c - 48) % 256 = c - 48 := by rw [isD_t] at h; omega
/-! ## tab -/
/-! a list told by a function of its places -/
def tab (n : Nat) (f : Nat → Int) : List Int := (List.range n).map f
theorem tab_length (n : Nat) (f : Nat → Int) : (tab n f).length = n := by simp [tab]
theorem tab_get {n : Nat} {f : Nat → Int} {i : Nat} (h : i < n) : (tab n f)[i]? = some (f i) := by simp [tab, h]
theorem rd_tab {n : Nat} {f : Nat → Int} {i : Nat} (h : i < n) : rd (tab n f) (i : Int) = f i := by
  unfold rd; rw [Int.toNat_natCast, List.getD_eq_getElem?_getD, tab_get h]; rfl
theorem tab_congr {n : Nat} {f g : Nat → Int} (h : ∀ j, j < n → f j = g j) : tab n f = tab n g := by
  unfold tab; exact List.map_congr_left (fun j hj => h j (List.mem_range.1 hj))
theorem set_tab {n : Nat} {f : Nat → Int} (i : Nat) (v : Int) : (tab n f).set i v = tab n (fun j => if j = i then v else f j) := by
  apply List.ext_getElem?
  intro j
  rw [List.getElem?_set]
  by_cases hj : j < n
  · rw [tab_get (f := fun j => if j = i then v else f j) hj]
    by_cases e : i = j
    · subst e; rw [if_pos rfl, if_pos (by rw [tab_length]; exact hj), if_pos rfl]
    · rw [if_neg e, tab_get hj, if_neg (fun h => e h.symm)]
  · have h1 : (tab n f)[j]? = none := List.getElem?_eq_none (by rw [tab_length]; omega)
    have h2 : (tab n (fun j => if j = i then v else f j))[j]? = none := List.getElem?_eq_none (by rw [tab_length]; omega)
    rw [h1, h2]
    by_cases e : i = j
    · subst e; rw [if_pos rfl, if_neg (by rw [tab_length]; exact hj)]
    · rw [if_neg e]
theorem rep_tab (n : Nat) : List.replicate n (0 : Int) = tab n (fun _ => 0) := by
  apply List.ext_getElem?
  intro j
  by_cases hj : j < n
  · rw [tab_get hj]; simp [hj]
  · rw [List.getElem?_eq_none (by simp; omega), List.getElem?_eq_none (by rw [tab_length]; omega)]
theorem tab_one (v : Int) : [v] = tab 1 (fun _ => v) := rfl
/-! ## l1In -/
theorem l1In_f (a b c : Int) : spec_l1In.f a b c = some (decide (b ≤ a) && decide (a ≤ c)) := by
  unfold spec_l1In.f; by_cases h : b ≤ a <;> simp [h]
/-! ## check -/
theorem rd_nat (l : List Int) (n : Nat) : rd l (n : Int) = l.getD n 0 := by unfold rd; rw [Int.toNat_natCast]
theorem tab_self (l : List Int) : tab l.length (fun j => rd l (j : Int)) = l := by
  apply List.ext_getElem?
  intro j
  by_cases hj : j < l.length
  · rw [tab_get hj, List.getElem?_eq_getElem hj, rd_nat, List.getD_eq_getElem?_getD, List.getElem?_eq_getElem hj]; rfl
  · rw [List.getElem?_eq_none (by rw [tab_length]; omega), List.getElem?_eq_none (by omega)]
theorem toIntS_l0 (l : List Int) (hl : l.length ≤ 1048576) : ∀ d n : Nat, n + d = l.length →
    Ev (fun k => laws_toIntS.l0 k l (tab l.length (fun j => if j < n then rd l (j : Int) else 0)) (n : Int)) l
  | 0, n, h => by
    refine Ev.step (fun _ => laws_toIntS.l0.eq_2 ..) (Ev.neg (by omega) (Ev.eq ?_ (Ev.now _)))
    rw [tab_congr (g := fun j => rd l (j : Int)) (fun j hj => if_pos (by omega)), tab_self]
  | d + 1, n, h => by
    refine Ev.step (fun _ => laws_toIntS.l0.eq_2 ..) (Ev.pos (by omega) (Ev.pos (by omega) ?_))
    rw [tab_length, Int.toNat_natCast, set_tab, wsucc (m := l.length) (by omega) (by omega)]
    refine Ev.pos (by omega) ?_
    rw [tab_congr (g := fun j => if j < n + 1 then rd l (j : Int) else 0)]
    · exact toIntS_l0 l hl d (n + 1) (by omega)
    · intro j _
      by_cases e : j = n
      · subst e; rw [if_pos rfl, if_pos (by omega)]
      · rw [if_neg e]
        by_cases e2 : j < n
        · rw [if_pos e2, if_pos (by omega)]
        · rw [if_neg e2, if_neg (by omega)]
theorem toIntS_f (l : List Int) (hl : l.length ≤ 1048576) : Ev (fun k => laws_toIntS.f k l) l := by
  have h := toIntS_l0 l hl l.length 0 (by omega)
  rw [tab_congr (g := fun _ => 0) (fun j _ => if_neg (by omega)), ← rep_tab] at h
  refine Ev.pos (by omega) (Ev.pos (by rw [Int.toNat_natCast]; omega) ?_)
  rw [Int.toNat_natCast]
  exact h
theorem toCheck_f (l : List Int) (m : Int) (hl : l.length ≤ 1048576) : Ev (fun k => laws_toCheck.f k l m) (l, m) := Ev.bind (toIntS_f l hl) (Ev.now _)
theorem eqIntS_l0 (l : List Int) (hl : l.length ≤ 1048576) : ∀ d n : Nat, n + d = l.length → Ev (fun k => laws_eqIntS.l0 k l l (n : Int)) true
  | 0, n, h => Ev.step (fun _ => laws_eqIntS.l0.eq_2 ..) (Ev.neg (by omega) (Ev.now _))
  | d + 1, n, h => by
    refine Ev.step (fun _ => laws_eqIntS.l0.eq_2 ..) (Ev.pos (by omega) (Ev.pos (by omega) (Ev.pos (by omega) (Ev.pos rfl ?_))))
    rw [wsucc (m := l.length) (by omega) (by omega)]
    exact eqIntS_l0 l hl d (n + 1) (by omega)
theorem eqIntS_f (l : List Int) (hl : l.length ≤ 1048576) : Ev (fun k => laws_eqIntS.f k l l) true := Ev.pos rfl (eqIntS_l0 l hl l.length 0 (by omega))
theorem eqCheck_f (l : List Int) (m : Int) (hl : l.length ≤ 1048576) : Ev (fun k => laws_eqCheck.f k l m l m) true := Ev.bind (eqIntS_f l hl) (Ev.pos rfl (Ev.pos rfl (Ev.now _)))
theorem szCheck_f (l : List Int) (m : Int) (hl : l.length ≤ 9223372036854775807) : laws_szCheck.f l m 1048576 = some (if 1048576 - (l.length : Int) < 0 then -1 else 1048576 - (l.length : Int)) := by
  unfold laws_szCheck.f laws_szIntS.f
  rw [w64 (by omega) (by omega)]
  by_cases h : 1048576 - (l.length : Int) < 0
  · rw [if_pos h, if_pos h]; rfl
  · rw [if_neg h, if_neg h, Option.bind_some, if_neg h]
/-! ## slGood -/
/-- Is it a check. -/
def chk (l : List Int) (m : Int) : Bool := ((decide ((2 : Int) ≤ l.length) && decide ((l.length : Int) ≤ 12)) && (decide (2 ≤ m) && decide (m ≤ 11))) && l.all (fun x => decide (0 ≤ x) && decide (x ≤ m - 1))
theorem IsCheck_f (l : List Int) (m : Int) : impl_IsCheck.f l m = some (chk l m) := rfl
theorem chk_t {l : List Int} {m : Int} (h : chk l m = true) : 2 ≤ l.length ∧ l.length ≤ 12 ∧ 2 ≤ m ∧ m ≤ 11 ∧ ∀ x ∈ l, 0 ≤ x ∧ x ≤ m - 1 := by
  unfold chk at h
  simp only [Bool.and_eq_true, decide_eq_true_eq, List.all_eq_true] at h
  obtain ⟨⟨⟨h1, h2⟩, h3, h4⟩, h5⟩ := h
  exact ⟨by omega, by omega, h3, h4, h5⟩
theorem l1All_l0 (l : List Int) (lo hi : Int) (hl : l.length ≤ 1048576) : ∀ (t : List Int) (n : Nat), l.drop n = t →
    Ev (fun k => spec_l1All.l0 k lo hi l (l.length : Int) (n : Int)) (t.all (fun x => decide (lo ≤ x) && decide (x ≤ hi)))
  | [], n, h => Ev.step (fun _ => spec_l1All.l0.eq_2 ..) (Ev.neg (by have := drop_nil h; omega) (Ev.now _))
  | c :: t, n, h => by
    obtain ⟨h1, h2, h3⟩ := drop_cons h
    have hr : rd l (n : Int) = c := by rw [rd_nat, List.getD_eq_getElem?_getD, h2]; rfl
    refine Ev.step (fun _ => spec_l1All.l0.eq_2 ..) (Ev.pos (by omega) (Ev.pos (by omega) (Ev.pos (by omega) (Ev.sm (l1In_f _ _ _) ?_))))
    rw [hr, wsucc h1 (by omega), List.all_cons]
    cases hq : (decide (lo ≤ c) && decide (c ≤ hi)) with
    | true => exact Ev.pos rfl (l1All_l0 l lo hi hl t (n + 1) h3)
    | false => exact Ev.neg (by decide) (Ev.now _)
theorem slGood_f (l : List Int) (m : Int) (hl : l.length ≤ 1048576) : Ev (fun k => spec_slGood.f k l m) (chk l m) := by
  unfold chk
  refine Ev.sm (l1In_f _ _ _) ?_
  cases h1 : (decide ((2 : Int) ≤ l.length) && decide ((l.length : Int) ≤ 12)) with
  | false => exact Ev.neg (by decide) (Ev.now _)
  | true =>
    refine Ev.pos rfl (Ev.sm (l1In_f _ _ _) ?_)
    cases h2 : (decide ((2 : Int) ≤ m) && decide (m ≤ 11)) with
    | false => exact Ev.neg (by decide) (Ev.now _)
    | true =>
      simp only [Bool.and_eq_true, decide_eq_true_eq] at h2
      refine Ev.pos rfl ?_
      rw [w64 (x := m - 1) (by omega) (by omega)]
      exact Ev.bind (l1All_l0 l 0 (m - 1) hl l 0 rfl) (Ev.now _)
/-! ## num -/
/-- Ten to a power. -/
def p10 (n : Nat) : Int := 10 ^ n
theorem p10_succ (n : Nat) : p10 (n + 1) = 10 * p10 n := by unfold p10; rw [Int.pow_succ, Int.mul_comm]
theorem p10_pos (n : Nat) : 1 ≤ p10 n := by
  induction n with
  | zero => decide
  | succ n ih => rw [p10_succ]; omega
theorem p10_mono {n m : Nat} (h : n ≤ m) : p10 n ≤ p10 m := by
  obtain ⟨d, rfl⟩ : ∃ d, m = n + d := ⟨m - n, by omega⟩
  clear h
  induction d with
  | zero => exact Int.le_refl _
  | succ d ih => rw [← Nat.add_assoc, p10_succ]; have := p10_pos (n + d); omega
theorem p10_9 {n : Nat} (h : n ≤ 9) : p10 n ≤ 1000000000 := p10_mono h
/-- The number that digits tell, behind what stands before them. -/
def numF (a : Int) (l : List Int) : Int := l.foldl (fun n c => 10 * n + (c - 48)) a
theorem numF_cons (a c : Int) (l : List Int) : numF a (c :: l) = numF (10 * a + (c - 48)) l := rfl
theorem numF_bd : ∀ (l : List Int) (a : Int), l.all isD = true → 0 ≤ a → a * p10 l.length ≤ numF a l ∧ numF a l < (a + 1) * p10 l.length
  | [], a, _, h => by simp [numF, p10]; omega
  | c :: l, a, hl, h => by
    rw [List.all_cons, Bool.and_eq_true] at hl
    have hc := isD_t.1 hl.1
    have ih := numF_bd l (10 * a + (c - 48)) hl.2 (by omega)
    have hp := p10_pos l.length
    rw [numF_cons, List.length_cons, p10_succ]
    have e1 : a * (10 * p10 l.length) ≤ (10 * a + (c - 48)) * p10 l.length := by
      rw [← Int.mul_assoc]; exact Int.mul_le_mul_of_nonneg_right (by omega) (by omega)
    have e2 : (10 * a + (c - 48) + 1) * p10 l.length ≤ (a + 1) * (10 * p10 l.length) := by
      rw [← Int.mul_assoc]; exact Int.mul_le_mul_of_nonneg_right (by omega) (by omega)
    omega
/-- A number with room for so many digits behind it. -/
theorem num_step {a c : Int} {n : Nat} (ha : 0 ≤ a) (hc : 48 ≤ c ∧ c ≤ 57) (h : (a + 1) * p10 (n + 1) ≤ 1000000000000000000) : 0 ≤ 10 * a + (c - 48) ∧ (10 * a + (c - 48) + 1) * p10 n ≤ 1000000000000000000 ∧ 10 * a + (c - 48) ≤ 1000000000000000000 := by
  have hp := p10_pos n
  rw [p10_succ, ← Int.mul_assoc] at h
  have e2 : (10 * a + (c - 48) + 1) * p10 n ≤ (a + 1) * 10 * p10 n := Int.mul_le_mul_of_nonneg_right (by omega) (by omega)
  have e3 : (10 * a + (c - 48) + 1) * 1 ≤ (10 * a + (c - 48) + 1) * p10 n := Int.mul_le_mul_of_nonneg_left hp (by omega)
  omega
/-! ## str -/
theorem tl_eq {s t : ByteArray} : s.toList = t.toList ↔ s = t := by
  rw [ByteArray.toList_eq, ByteArray.toList_eq, toList_L]
  exact ⟨L_inj, fun h => by rw [h]⟩
theorem L_extract (s : ByteArray) (a b : Nat) : L (s.extract a b) = ((L s).take b).drop a := by
  unfold L
  rw [ByteArray.data_extract]
  simp [List.map_drop, List.map_take, List.drop_take]
theorem L_nil : L (⟨#[]⟩ : ByteArray) = [] := rfl
theorem size_L (s : ByteArray) : s.size = (L s).length := (L_length s).symm
theorem size_ext (s : ByteArray) (a b : Nat) : (s.extract a b).size = min b s.size - a := by rw [size_L, L_extract, List.length_drop, List.length_take, L_length]
theorem size_app (s t : ByteArray) : (s ++ t).size = s.size + t.size := by rw [size_L, L_append, List.length_append, L_length, L_length]
/-! ## dec -/
/-- The decimal digits of a number, as bytes told as numbers. -/
def Dg (n : Nat) : List Int := (Go.Lib.decDigits n).map (fun c => (c.toNat : Int))
theorem u8n {n : Nat} (h : n < 256) : (((UInt8.ofNat n).toNat : Nat) : Int) = (n : Int) := by
  rw [UInt8.toNat_ofNat', Nat.mod_eq_of_lt (by omega)]
theorem Dg_small {n : Nat} (h : n < 10) : Dg n = [48 + (n : Int)] := by
  unfold Dg
  rw [Go.Lib.decDigits, dif_pos h, List.map_cons, List.map_nil, u8n (by omega)]
  rfl
theorem Dg_big {n : Nat} (h : 10 ≤ n) : Dg n = Dg (n / 10) ++ [48 + ((n % 10 : Nat) : Int)] := by
  unfold Dg
  conv => lhs; rw [Go.Lib.decDigits, dif_neg (by omega)]
  rw [List.map_append, List.map_cons, List.map_nil, u8n (by omega)]
  rfl
theorem L_itoa (n : Nat) : L (⟨(Go.Lib.itoa (n : Int)).toArray⟩ : ByteArray) = Dg n := by
  unfold L Dg Go.Lib.itoa
  rw [if_neg (by omega), Int.toNat_natCast]
theorem L_dec (n : Nat) : L (⟨(Go.Lib.decDigits n).toArray⟩ : ByteArray) = Dg n := rfl
theorem Dg_dig : ∀ b n : Nat, n ≤ b → (Dg n).all isD = true
  | 0, n, h => by
    rw [Dg_small (by omega)]
    simp [isD]; omega
  | b + 1, n, h => by
    by_cases hn : n < 10
    · rw [Dg_small hn]
      simp [isD]; omega
    · rw [Dg_big (by omega), List.all_append, Dg_dig b (n / 10) (by omega)]
      simp [isD]; omega
theorem Dg_isD (n : Nat) : (Dg n).all isD = true := Dg_dig n n (Nat.le_refl _)
theorem Dg_pos : ∀ n : Nat, 1 ≤ (Dg n).length := by
  intro n
  by_cases hn : n < 10
  · rw [Dg_small hn]; simp
  · rw [Dg_big (by omega)]; simp
theorem numF_app (a : Int) (l m : List Int) : numF a (l ++ m) = numF (numF a l) m := by unfold numF; rw [List.foldl_append]
theorem Dg_num : ∀ b n : Nat, n ≤ b → numF 0 (Dg n) = n
  | 0, n, h => by
    rw [Dg_small (by omega)]
    simp [numF]; omega
  | b + 1, n, h => by
    by_cases hn : n < 10
    · rw [Dg_small hn]
      simp [numF]; omega
    · rw [Dg_big (by omega), numF_app, Dg_num b (n / 10) (by omega)]
      simp [numF]; omega
theorem num_Dg (n : Nat) : numF 0 (Dg n) = n := Dg_num n n (Nat.le_refl _)
/-- The last k digits of a number, zeros in front. -/
def TD : Nat → Nat → List Int
  | 0, _ => []
  | k + 1, n => TD k (n / 10) ++ [48 + ((n % 10 : Nat) : Int)]
theorem TD_len : ∀ k n, (TD k n).length = k
  | 0, _ => rfl
  | k + 1, n => by rw [TD, List.length_append, TD_len k]; rfl
theorem TD_dig : ∀ k n, (TD k n).all isD = true
  | 0, _ => rfl
  | k + 1, n => by
    rw [TD, List.all_append, TD_dig k]
    simp [isD]; omega
theorem TD_num : ∀ k n : Nat, n < 10 ^ k → numF 0 (TD k n) = n
  | 0, n, h => by
    simp at h
    subst h
    rfl
  | k + 1, n, h => by
    rw [Nat.pow_succ] at h
    rw [TD, numF_app, TD_num k (n / 10) (by omega)]
    simp [numF]; omega
theorem TD_Dg : ∀ k n : Nat, n < 10 ^ (k + 1) → (Dg n).length ≤ k + 1 ∧ TD (k + 1) n = List.replicate (k + 1 - (Dg n).length) 48 ++ Dg n
  | 0, n, h => by
    have hn : n < 10 := by simpa using h
    rw [Dg_small hn]
    refine ⟨by simp, ?_⟩
    rw [TD, TD, Nat.mod_eq_of_lt hn]
    simp
  | k + 1, n, h => by
    rw [Nat.pow_succ] at h
    obtain ⟨h1, h2⟩ := TD_Dg k (n / 10) (by omega)
    rw [TD, h2]
    by_cases hn : n < 10
    · have h0 : n / 10 = 0 := by omega
      rw [h0, Dg_small hn, Dg_small (by omega), Nat.mod_eq_of_lt hn]
      refine ⟨by simp, ?_⟩
      simp only [List.length_singleton, Nat.add_sub_cancel]
      rw [List.replicate_succ']
      simp
    · rw [Dg_big (n := n) (by omega), List.length_append, List.length_singleton]
      refine ⟨by omega, ?_⟩
      rw [show k + 1 + 1 - ((Dg (n / 10)).length + 1) = k + 1 - (Dg (n / 10)).length by omega, List.append_assoc]
/-- Ten to a power in both kinds of numbers. -/
theorem p10_nat (k : Nat) : p10 k = ((10 ^ k : Nat) : Int) := by unfold p10; exact (Int.natCast_pow 10 k).symm
/-! ## strnum -/
theorem ofNat_toNat {c : Int} (h : 0 ≤ c ∧ c ≤ 255) : (((UInt8.ofNat c.toNat).toNat : Nat) : Int) = c := by
  rw [UInt8.toNat_ofNat', Nat.mod_eq_of_lt (by omega)]; omega
theorem L_strOfNums (l : List Int) (h : ∀ c ∈ l, 0 ≤ c ∧ c ≤ 255) : L (strOfNums l) = l := by
  unfold L strOfNums
  rw [List.map_map]
  conv => rhs; rw [← List.map_id l]
  exact List.map_congr_left (fun c hc => ofNat_toNat (h c hc))
/-! ## l1Num -/
/-- A number's decimal text. -/
def decS (n : Nat) : ByteArray := ⟨(Go.Lib.decDigits n).toArray⟩
theorem L_decS (n : Nat) : L (decS n) = Dg n := rfl
theorem Dg_le19 (n : Nat) (h : n ≤ 9223372036854775807) : (Dg n).length ≤ 19 := (TD_Dg 18 n (by omega)).1
theorem size_decS (n : Nat) : (decS n).size = (Dg n).length := by rw [size_L, L_decS]
theorem one_dig {n : Nat} (h : n < 10) : strOfNums [wrap64 (48 + (n : Int)) % 256] = decS n := by
  apply L_inj
  rw [L_decS, Dg_small h, w64 (by omega) (by omega), Int.emod_eq_of_lt (by omega) (by omega), L_strOfNums]
  intro c hc
  rw [List.mem_singleton] at hc
  omega
theorem l1Num_b : ∀ b n : Nat, n ≤ b → n ≤ 9223372036854775807 → Ev (fun k => spec_l1Num.f k (n : Int)) (decS n)
  | 0, n, h, hb => by
    refine Ev.step (fun _ => spec_l1Num.f.eq_2 ..) (Ev.pos (by omega) (Ev.eq ?_ (Ev.now _)))
    exact (one_dig (by omega)).symm
  | b + 1, n, h, hb => by
    refine Ev.step (fun _ => spec_l1Num.f.eq_2 ..) ?_
    by_cases hn : n < 10
    · exact Ev.pos (by omega) (Ev.eq (one_dig hn).symm (Ev.now _))
    · refine Ev.neg (by omega) ?_
      rw [show Int.tdiv (n : Int) 10 = ((n / 10 : Nat) : Int) from rfl, w64n (x := n / 10) (by omega), show Int.tmod (n : Int) 10 = ((n % 10 : Nat) : Int) from rfl]
      refine Ev.bind (l1Num_b b (n / 10) (by omega) (by omega)) (Ev.sm rfl ?_)
      rw [one_dig (n := n % 10) (by omega)]
      have h1 : (decS (n / 10)).size ≤ 19 := by rw [size_decS]; exact Dg_le19 _ (by omega)
      have h2 : (decS (n % 10)).size ≤ 19 := by rw [size_decS]; exact Dg_le19 _ (by omega)
      refine Ev.pos (by omega) (Ev.eq ?_ (Ev.now _))
      apply L_inj
      rw [L_append, L_decS, L_decS, L_decS, Dg_big (n := n) (by omega), Dg_small (n := n % 10) (by omega)]
theorem l1Num_f (n : Nat) (h : n ≤ 9223372036854775807) : Ev (fun k => spec_l1Num.f k (n : Int)) (decS n) := l1Num_b n n (Nat.le_refl _) h
/-! ## FnExactCheckText -/
/-- The weights' digits with commas between them. -/
def jl : List Int → List Int
  | [] => []
  | w :: r => Dg w.toNat ++ (r.map (fun x => 44 :: Dg x.toNat)).flatten
theorem jl_snoc (l : List Int) (x : Int) : jl (l ++ [x]) = if l = [] then Dg x.toNat else jl l ++ 44 :: Dg x.toNat := by
  cases l with
  | nil => simp [jl]
  | cons w r => simp [jl]
theorem take_snoc {l : List Int} {n : Nat} {w : Int} (h : l[n]? = some w) : l.take (n + 1) = l.take n ++ [w] := by
  rw [List.take_add_one, h]; rfl
theorem Itoa0_f (n : Nat) (h : n < 100) : strconv_Itoa.f (n : Int) = some (decS n) := by
  unfold strconv_Itoa.f
  rw [if_pos (by omega), Int.toNat_natCast]; rfl
theorem L_join : ∀ l : List Int, L (⟨(Go.Lib.join ((l.map (fun w => decS w.toNat)).map (·.data.toList)) [44]).toArray⟩ : ByteArray) = jl l := by
  intro l
  cases l with
  | nil => rfl
  | cons w r =>
    unfold L
    show (Go.Lib.join _ [44]).map _ = _
    rw [List.map_cons, List.map_cons, Go.Lib.join_cons, jl, List.map_append]
    congr 1
    unfold Go.Lib.joinTail
    induction r with
    | nil => rfl
    | cons x r ih =>
      simp only [List.map_cons, List.flatten_cons, List.map_append] at ih ⊢
      rw [ih]
      rfl
theorem jl_len : ∀ n (l : List Int), l.length = n → (∀ x ∈ l, 0 ≤ x ∧ x ≤ 11) → (jl l).length ≤ 20 * n := by
  intro n
  induction n with
  | zero =>
    intro l h _
    obtain rfl : l = [] := List.length_eq_zero_iff.1 h
    simp [jl]
  | succ n ih =>
    intro l h hw
    obtain ⟨l', x, rfl⟩ : ∃ l' x, l = l' ++ [x] := ⟨l.dropLast, l.getLast (by intro e; simp [e] at h), (List.dropLast_concat_getLast _).symm⟩
    have h1 := ih l' (by simpa using h) (fun y hy => hw y (by simp [hy]))
    have h2 := hw x (by simp)
    have h3 := Dg_le19 x.toNat (by omega)
    rw [jl_snoc]
    split
    · omega
    · rw [List.length_append, List.length_cons]; omega
theorem slText_l0 (l : List Int) (m : Nat) (hl : l.length ≤ 12) (hw : ∀ x ∈ l, 0 ≤ x ∧ x ≤ 11) (hm : m ≤ 11) (r : ByteArray) (hr : L r = jl l ++ 109 :: Dg m) (l0 : List Int) : ∀ (t : List Int) (n : Nat) (acc : ByteArray), l.drop n = t → L acc = jl (l.take n) →
    Ev (fun k => spec_slText.l0 k acc l (l.length : Int) (n : Int) l0 (m : Int)) r
  | [], n, acc, h, ha => by
    have hn := drop_nil h
    rw [List.take_of_length_le hn] at ha
    have hz : acc.size ≤ 240 := by rw [size_L, ha]; have := jl_len l.length l rfl hw; omega
    have hd : (decS m).size ≤ 19 := by rw [size_decS]; exact Dg_le19 _ (by omega)
    refine Ev.step (fun _ => spec_slText.l0.eq_2 ..) (Ev.neg (by omega) (Ev.pos (by omega) (Ev.bind (l1Num_f m (by omega)) (Ev.pos ?_ (Ev.eq ?_ (Ev.now _))))))
    · rw [size_app]; show acc.size + 1 + _ ≤ _; omega
    · apply L_inj
      rw [hr, L_append, L_append, ha, L_decS, List.append_assoc]; rfl
  | w :: t, n, acc, h, ha => by
    obtain ⟨h1, h2, h3⟩ := drop_cons h
    have hr' : rd l (n : Int) = w := by rw [rd_nat, List.getD_eq_getElem?_getD, h2]; rfl
    have hww := hw w (List.mem_of_getElem? h2)
    obtain ⟨u, rfl⟩ : ∃ u : Nat, w = u := ⟨w.toNat, by omega⟩
    have hz : acc.size ≤ 240 := by rw [size_L, ha]; have := jl_len n (l.take n) (by rw [List.length_take]; omega) (fun x hx => hw x (List.mem_of_mem_take hx)); omega
    have hd : (decS u).size ≤ 19 := by rw [size_decS]; exact Dg_le19 _ (by omega)
    refine Ev.step (fun _ => spec_slText.l0.eq_2 ..) (Ev.pos (by omega) (Ev.pos (by omega) (Ev.pos (by omega) ?_)))
    rw [hr', wsucc (m := l.length) h1 (by omega)]
    by_cases hn : n = 0
    · subst hn
      refine Ev.neg (by omega) (Ev.bind (l1Num_f u (by omega)) (Ev.pos (by omega) (slText_l0 l m hl hw hm r hr l0 t _ _ h3 ?_)))
      rw [take_snoc h2, jl_snoc, if_pos (by simp), L_append, ha, L_decS]; simp [jl]
    · refine Ev.pos (by omega) (Ev.pos (by omega) (Ev.bind (l1Num_f u (by omega)) (Ev.pos ?_ (slText_l0 l m hl hw hm r hr l0 t _ _ h3 ?_))))
      · rw [size_app]; show acc.size + 1 + _ ≤ _; omega
      · rw [take_snoc h2, jl_snoc, if_neg (by intro e; have e2 := congrArg List.length e; rw [List.length_take, List.length_nil] at e2; omega), L_append, L_append, ha, L_decS, List.append_assoc]; rfl
theorem listed_l0 (l : List Int) (hl : l.length ≤ 12) (hl1 : 1 ≤ l.length) (hw : ∀ x ∈ l, 0 ≤ x ∧ x ≤ 11) : ∀ (t : List Int) (n : Nat), l.drop n = t →
    Ev (fun k => impl_listed.l0 k ((l.take n).map (fun w => decS w.toNat)) l (l.length : Int) (n : Int)) ⟨(Go.Lib.join ((l.map (fun w => decS w.toNat)).map (·.data.toList)) [44]).toArray⟩
  | [], n, h => by
    have hn := drop_nil h
    rw [List.take_of_length_le hn]
    refine Ev.step (fun _ => impl_listed.l0.eq_2 ..) (Ev.neg (by omega) (Ev.sm ?_ (Ev.now _)))
    have hj := congrArg List.length (L_join l)
    rw [L_length] at hj
    have := jl_len l.length l rfl hw
    unfold strings_Join.f
    refine if_pos ⟨by simpa using hl1, by rw [List.length_map]; omega, ?_⟩
    · have e : (Go.Lib.join ((l.map (fun w => decS w.toNat)).map (·.data.toList)) [44]).length = (⟨(Go.Lib.join ((l.map (fun w => decS w.toNat)).map (·.data.toList)) [44]).toArray⟩ : ByteArray).size := rfl
      show (Go.Lib.join ((l.map (fun w => decS w.toNat)).map (·.data.toList)) [44]).length ≤ 1000000
      rw [e, hj]; omega
  | w :: t, n, h => by
    obtain ⟨h1, h2, h3⟩ := drop_cons h
    have hr' : rd l (n : Int) = w := by rw [rd_nat, List.getD_eq_getElem?_getD, h2]; rfl
    have hww := hw w (List.mem_of_getElem? h2)
    obtain ⟨u, rfl⟩ : ∃ u : Nat, w = u := ⟨w.toNat, by omega⟩
    have ih := listed_l0 l hl hl1 hw t (n + 1) h3
    rw [take_snoc h2, List.map_append, List.map_cons, List.map_nil, Int.toNat_natCast] at ih
    refine Ev.step (fun _ => impl_listed.l0.eq_2 ..) (Ev.pos (by omega) (Ev.pos (by omega) (Ev.pos (by omega) ?_)))
    rw [hr', wsucc (m := l.length) h1 (by omega)]
    refine Ev.sm (Itoa0_f u (by omega)) (Ev.pos ?_ ih)
    rw [List.length_map, List.length_take]; omega
/-- The text of a check. -/
def ctS (l : List Int) (m : Nat) : ByteArray := (⟨(Go.Lib.join ((l.map (fun w => decS w.toNat)).map (·.data.toList)) [44]).toArray⟩ ++ (⟨#[109]⟩ : ByteArray)) ++ decS m
theorem L_ctS (l : List Int) (m : Nat) : L (ctS l m) = jl l ++ 109 :: Dg m := by
  unfold ctS
  rw [L_append, L_append, L_join, L_decS, List.append_assoc]; rfl
def ctAns (l : List Int) (m : Int) : ByteArray × Bool := if chk l m = true then (ctS l m.toNat, true) else (⟨#[]⟩, false)
theorem specCT_f (l : List Int) (m : Int) (hl : l.length ≤ 1048576) : Ev (fun k => spec_CheckText.f k l m) (ctAns l m) := by
  refine Ev.bind (slGood_f l m hl) ?_
  unfold ctAns
  by_cases h : chk l m = true
  · obtain ⟨h1, h2, h3, h4, h5⟩ := chk_t h
    obtain ⟨u, rfl⟩ : ∃ u : Nat, m = u := ⟨m.toNat, by omega⟩
    rw [if_pos h, Int.toNat_natCast]
    exact Ev.pos h (Ev.bind (slText_l0 l u h2 (fun x hx => by have := h5 x hx; omega) (by omega) (ctS l u) (L_ctS l u) l l 0 ⟨#[]⟩ rfl rfl) (Ev.now _))
  · rw [if_neg h]; exact Ev.neg h (Ev.now _)
theorem implCT_f (l : List Int) (m : Int) : Ev (fun k => impl_CheckText.f k l m) (ctAns l m) := by
  refine Ev.sm (IsCheck_f l m) ?_
  unfold ctAns
  by_cases h : chk l m = true
  · obtain ⟨h1, h2, h3, h4, h5⟩ := chk_t h
    have hw : ∀ x ∈ l, 0 ≤ x ∧ x ≤ 11 := fun x hx => by have := h5 x hx; omega
    obtain ⟨u, rfl⟩ : ∃ u : Nat, m = u := ⟨m.toNat, by omega⟩
    rw [if_pos h, Int.toNat_natCast]
    have hz : (⟨(Go.Lib.join ((l.map (fun w => decS w.toNat)).map (·.data.toList)) [44]).toArray⟩ : ByteArray).size ≤ 240 := by
      rw [size_L, L_join]; have := jl_len l.length l rfl hw; omega
    have hd : (decS u).size ≤ 19 := by rw [size_decS]; exact Dg_le19 _ (by omega)
    refine Ev.pos h (Ev.bind (a := ctS l u) (Ev.bind (listed_l0 l h2 (by omega) hw l 0 rfl) (Ev.pos (by omega) (Ev.sm (Itoa0_f u (by omega)) (Ev.pos ?_ (Ev.now _))))) (Ev.now _))
    rw [size_app]; show _ + 1 + _ ≤ _; omega
  · rw [if_neg h]; exact Ev.neg h (Ev.now _)
theorem FnExactCheckText : laws_FnExactCheckText.Pure := by
  intro l m hl _ _
  refine Ev.rounds (g := fun k => laws_FnExactCheckText.f k l m) ?_
  unfold laws_FnExactCheckText.f
  refine Ev.sm (szCheck_f l m hl) ?_
  by_cases h : 1048576 - (l.length : Int) < 0
  · rw [if_pos h]; exact Ev.pos (by decide) (Ev.now _)
  · rw [if_neg h]
    have hl' : l.length ≤ 1048576 := by omega
    refine Ev.neg h (Ev.bind (toCheck_f l m hl') (Ev.bind (specCT_f l m hl') (Ev.bind (toCheck_f l m hl') (Ev.bind (implCT_f l m) ?_))))
    refine Ev.pos rfl (Ev.step (fun _ => laws_FnExactCheckText.j0.eq_2 ..) (Ev.neg (by simp) (Ev.bind (toCheck_f l m hl') (Ev.bind (eqCheck_f l m hl') (Ev.pos rfl (Ev.now _))))))

end Go.Proofs.YthkjedplcebpjafDoor.Pure
