/- The plain law of FnExactNearSound: at all arguments the printed function of the law answers true after some number of rounds. Conditions: none beyond the bounds that the printed statement itself bears. -/
import Derived.Test.YthkjedplcebpjacDoorQFnExactNearSoundx7
namespace Go.Proofs.YthkjedplcebpjacDoor.Pure
open Go.RowKit Go.Proofs.YthkjedplcebpjacDoor.QFnExactNearSound Go.Proofs.YthkjedplcebpjacDoorW.PrintWords Go.Proofs.YthkjedplcebpjacDoorW.PrintLast Go.Proofs.YthkjedplcebpjacDoorW.PrintMore Go.Proofs.YthkjedplcebpjacDoor.Ext
set_option linter.unusedVariables false

def laws_FnExactNearSound.Pure : Prop := ∀ (l0_0 : List Int) (a0_1 : Int) (a1 : ByteArray), l0_0.length ≤ 9223372036854775807 → (∀ x ∈ l0_0, (Lit.int .i64 x).wf = true) → (Lit.int .i64 a0_1).wf = true → a1.size ≤ 140737488351232 → ∃ k, laws_FnExactNearSound.f k l0_0 a0_1 a1 = some true
/-! ## base -/
/-! numbers in 64 bits -/
theorem w64 {x : Int} (h1 : -9223372036854775808 ≤ x) (h2 : x ≤ 9223372036854775807) : wrap64 x = x := by unfold wrap64; omega
theorem w64n {x : Nat} (h2 : x ≤ 9223372036854775807) : wrap64 (x : Int) = (x : Int) := w64 (by omega) (by omega)
theorem wf64 {x : Int} (h : (Lit.int .i64 x).wf = true) : -9223372036854775808 ≤ x ∧ x ≤ 9223372036854775807 := by
  have hmin : IntKind.i64.min = -9223372036854775808 := rfl
  have hmax : IntKind.i64.max = 9223372036854775807 := rfl
  simp only [Lit.wf, Bool.and_eq_true, decide_eq_true_eq, hmin, hmax] at h
  exact h
theorem tmodN (a b : Nat) : Int.tmod (a : Int) (b : Int) = ((a % b : Nat) : Int) := rfl
theorem tdivN (a b : Nat) : Int.tdiv (a : Int) (b : Int) = ((a / b : Nat) : Int) := rfl
theorem tmod_nn {a b : Int} (h : 0 ≤ a) : Int.tmod a b = a % b := Int.tmod_eq_emod_of_nonneg h
theorem tdiv_nn {a b : Int} (h : 0 ≤ a) : Int.tdiv a b = a / b := Int.tdiv_eq_ediv_of_nonneg h
/-! from some number of rounds on -/
theorem Ev.pos {α : Type} {c : Prop} [Decidable c] {f g : Nat → Option α} {r : α} (h : c) (e : Ev f r) : Ev (fun k => if c then f k else g k) r := by simpa only [if_pos h] using e
theorem Ev.neg {α : Type} {c : Prop} [Decidable c] {f g : Nat → Option α} {r : α} (h : ¬ c) (e : Ev g r) : Ev (fun k => if c then f k else g k) r := by simpa only [if_neg h] using e
theorem Ev.sm {α β : Type} {f : Nat → α → Option β} {a : α} {o : Option α} {r : β} (h : o = some a) (e : Ev (fun n => f n a) r) : Ev (fun n => o.bind (f n)) r := by subst h; simpa only [Option.bind_some] using e
theorem Ev.eq {α : Type} {f : Nat → Option α} {r r' : α} (h : r' = r) (e : Ev f r) : Ev f r' := h ▸ e
theorem Ev.of_some {α : Type} {o : Option α} {r : α} (h : o = some r) : Ev (fun _ => o) r := ⟨0, fun _ _ => h⟩
theorem Ev.uniq {α : Type} {g : Nat → Option α} {r q : α} (h : Ev g r) (h' : Ev g q) : r = q := by
  obtain ⟨K, h⟩ := h
  obtain ⟨K', h'⟩ := h'
  have := (h (max K K') (by omega)).symm.trans (h' (max K K') (by omega))
  exact Option.some.inj this
/-! a string as a list of numbers -/
def L (s : ByteArray) : List Int := s.data.toList.map (fun c => (c.toNat : Int))
theorem L_length (s : ByteArray) : (L s).length = s.size := by simp [L]
theorem bt_lo (s : ByteArray) (i : Int) : 0 ≤ bt s i := by unfold bt; split <;> omega
theorem bt_hi (s : ByteArray) (i : Int) : bt s i ≤ 255 := by
  unfold bt; split
  · have := UInt8.toNat_lt (s[i.toNat]); omega
  · omega
theorem bt_L (s : ByteArray) (n : Nat) : bt s (n : Int) = (L s).getD n 0 := by
  unfold bt L
  by_cases h : n < s.size
  · simp [h, List.getD_eq_getElem?_getD]; rfl
  · simp [h, List.getD_eq_getElem?_getD]
theorem L_get (s : ByteArray) (n : Nat) (h : n < s.size) : (L s)[n]? = some (bt s n) := by
  rw [bt_L, List.getD_eq_getElem?_getD]
  have : n < (L s).length := by rw [L_length]; exact h
  simp [this]
theorem L_mem {s : ByteArray} {c : Int} (h : c ∈ L s) : 0 ≤ c ∧ c ≤ 255 := by
  unfold L at h
  obtain ⟨u, _, rfl⟩ := List.mem_map.1 h
  have := UInt8.toNat_lt u
  omega
theorem map_toNat_inj : ∀ (l m : List UInt8), l.map (fun c => (c.toNat : Int)) = m.map (fun c => (c.toNat : Int)) → l = m
  | [], [], _ => rfl
  | [], _ :: _, h => by simp at h
  | _ :: _, [], h => by simp at h
  | a :: l, b :: m, h => by
    simp only [List.map_cons, List.cons.injEq] at h
    have h1 : a = b := by apply UInt8.toNat_inj.1; omega
    rw [h1, map_toNat_inj l m h.2]
theorem L_inj {s t : ByteArray} (h : L s = L t) : s = t := by
  have := map_toNat_inj _ _ h
  cases s; cases t
  congr 1
  exact Array.toList_inj.1 this
theorem toList_L {s t : ByteArray} : s.data.toList = t.data.toList ↔ L s = L t := by
  constructor
  · intro h; unfold L; rw [h]
  · intro h; exact map_toNat_inj _ _ h
theorem L_append (s t : ByteArray) : L (s ++ t) = L s ++ L t := by
  unfold L
  rw [ByteArray.data_append]
  simp
/-- The rest of a list from a place on. -/
theorem drop_cons {α : Type} {l : List α} {n : Nat} {c : α} {t : List α} (h : l.drop n = c :: t) : n < l.length ∧ l[n]? = some c ∧ l.drop (n + 1) = t := by
  have h1 : n < l.length := by
    by_cases h1 : n < l.length
    · exact h1
    · rw [List.drop_eq_nil_of_le (by omega)] at h; cases h
  rw [List.drop_eq_getElem_cons h1] at h
  simp only [List.cons.injEq] at h
  exact ⟨h1, by rw [List.getElem?_eq_getElem h1, h.1], h.2⟩
theorem drop_nil {α : Type} {l : List α} {n : Nat} (h : l.drop n = []) : l.length ≤ n := by simpa using h
theorem sdrop_cons {s : ByteArray} {n : Nat} {c : Int} {t : List Int} (h : (L s).drop n = c :: t) : n < s.size ∧ bt s n = c ∧ (L s).drop (n + 1) = t := by
  obtain ⟨h1, h2, h3⟩ := drop_cons h
  rw [L_length] at h1
  rw [L_get s n h1] at h2
  exact ⟨h1, Option.some.inj h2, h3⟩
theorem sdrop_nil {s : ByteArray} {n : Nat} (h : (L s).drop n = []) : s.size ≤ n := by have := drop_nil h; rwa [L_length] at this
theorem wsucc {n m : Nat} (h : n < m) (hm : m ≤ 140737488355328) : wrap64 ((n : Int) + 1) = ((n + 1 : Nat) : Int) := by rw [w64 (by omega) (by omega)]; rfl
/-! digits -/
def isD (c : Int) : Bool := decide (48 ≤ c) && decide (c ≤ 57)
theorem isD_t {c : Int} : isD c = true ↔ 48 ≤ c ∧ c ≤ 57 := by simp [isD]
theorem isD_f {c : Int} : isD c = false ↔ c < 48 ∨ 57 < c := by
  rw [← Bool.not_eq_true, isD_t]; omega
theorem dig_mod {c : Int} (h : isD c = true) : (c - 48) % 256 = c - 48 := by rw [isD_t] at h; omega
/-! ## tab -/
/-! a list told by a function of its places -/
def tab (n : Nat) (f : Nat → Int) : List Int := (List.range n).map f
theorem tab_length (n : Nat) (f : Nat → Int) : (tab n f).length = n := by simp [tab]
theorem tab_get {n : Nat} {f : Nat → Int} {i : Nat} (h : i < n) : (tab n f)[i]? = some (f i) := by simp [tab, h]
theorem rd_tab {n : Nat} {f : Nat → Int} {i : Nat} (h : i < n) : rd (tab n f) (i : Int) = f i := by
  unfold rd; rw [Int.toNat_natCast, List.getD_eq_getElem?_getD, tab_get h]; rfl
theorem tab_congr {n : Nat} {f g : Nat → Int} (h : ∀ j, j < n → f j = g j) : tab n f = tab n g := by
  unfold tab; exact List.map_congr_left (fun j hj => h j (List.mem_range.1 hj))
theorem set_tab {n : Nat} {f : Nat → Int} (i : Nat) (v : Int) : (tab n f).set i v = tab n (fun j => if j = i then v else f j) := by
  apply List.ext_getElem?
  intro j
  rw [List.getElem?_set]
  by_cases hj : j < n
  · rw [tab_get (f := fun j => if j = i then v else f j) hj]
    by_cases e : i = j
    · subst e; rw [if_pos rfl, if_pos (by rw [tab_length]; exact hj), if_pos rfl]
    · rw [if_neg e, tab_get hj, if_neg (fun h => e h.symm)]
  · have h1 : (tab n f)[j]? = none := List.getElem?_eq_none (by rw [tab_length]; omega)
    have h2 : (tab n (fun j => if j = i then v else f j))[j]? = none := List.getElem?_eq_none (by rw [tab_length]; omega)
    rw [h1, h2]
    by_cases e : i = j
    · subst e; rw [if_pos rfl, if_neg (by rw [tab_length]; exact hj)]
    · rw [if_neg e]
theorem rep_tab (n : Nat) : List.replicate n (0 : Int) = tab n (fun _ => 0) := by
  apply List.ext_getElem?
  intro j
  by_cases hj : j < n
  · rw [tab_get hj]; simp [hj]
  · rw [List.getElem?_eq_none (by simp; omega), List.getElem?_eq_none (by rw [tab_length]; omega)]
theorem tab_one (v : Int) : [v] = tab 1 (fun _ => v) := rfl
/-! ## l1In -/
theorem l1In_f (a b c : Int) : spec_l1In.f a b c = some (decide (b ≤ a) && decide (a ≤ c)) := by
  unfold spec_l1In.f; by_cases h : b ≤ a <;> simp [h]
/-! ## check -/
theorem rd_nat (l : List Int) (n : Nat) : rd l (n : Int) = l.getD n 0 := by unfold rd; rw [Int.toNat_natCast]
theorem tab_self (l : List Int) : tab l.length (fun j => rd l (j : Int)) = l := by
  apply List.ext_getElem?
  intro j
  by_cases hj : j < l.length
  · rw [tab_get hj, List.getElem?_eq_getElem hj, rd_nat, List.getD_eq_getElem?_getD, List.getElem?_eq_getElem hj]; rfl
  · rw [List.getElem?_eq_none (by rw [tab_length]; omega), List.getElem?_eq_none (by omega)]
theorem toIntS_l0 (l : List Int) (hl : l.length ≤ 1048576) : ∀ d n : Nat, n + d = l.length →
    Ev (fun k => laws_toIntS.l0 k l (tab l.length (fun j => if j < n then rd l (j : Int) else 0)) (n : Int)) l
  | 0, n, h => by
    refine Ev.step (fun _ => laws_toIntS.l0.eq_2 ..) (Ev.neg (by omega) (Ev.eq ?_ (Ev.now _)))
    rw [tab_congr (g := fun j => rd l (j : Int)) (fun j hj => if_pos (by omega)), tab_self]
  | d + 1, n, h => by
    refine Ev.step (fun _ => laws_toIntS.l0.eq_2 ..) (Ev.pos (by omega) (Ev.pos (by omega) ?_))
    rw [tab_length, Int.toNat_natCast, set_tab, wsucc (m := l.length) (by omega) (by omega)]
    refine Ev.pos (by omega) ?_
    rw [tab_congr (g := fun j => if j < n + 1 then rd l (j : Int) else 0)]
    · exact toIntS_l0 l hl d (n + 1) (by omega)
    · intro j _
      by_cases e : j = n
      · subst e; rw [if_pos rfl, if_pos (by omega)]
      · rw [if_neg e]
        by_cases e2 : j < n
        · rw [if_pos e2, if_pos (by omega)]
        · rw [if_neg e2, if_neg (by omega)]
theorem toIntS_f (l : List Int) (hl : l.length ≤ 1048576) : Ev (fun k => laws_toIntS.f k l) l := by
  have h := toIntS_l0 l hl l.length 0 (by omega)
  rw [tab_congr (g := fun _ => 0) (fun j _ => if_neg (by omega)), ← rep_tab] at h
  refine Ev.pos (by omega) (Ev.pos (by rw [Int.toNat_natCast]; omega) ?_)
  rw [Int.toNat_natCast]
  exact h
theorem toCheck_f (l : List Int) (m : Int) (hl : l.length ≤ 1048576) : Ev (fun k => laws_toCheck.f k l m) (l, m) := Ev.bind (toIntS_f l hl) (Ev.now _)
theorem eqIntS_l0 (l : List Int) (hl : l.length ≤ 1048576) : ∀ d n : Nat, n + d = l.length → Ev (fun k => laws_eqIntS.l0 k l l (n : Int)) true
  | 0, n, h => Ev.step (fun _ => laws_eqIntS.l0.eq_2 ..) (Ev.neg (by omega) (Ev.now _))
  | d + 1, n, h => by
    refine Ev.step (fun _ => laws_eqIntS.l0.eq_2 ..) (Ev.pos (by omega) (Ev.pos (by omega) (Ev.pos (by omega) (Ev.pos rfl ?_))))
    rw [wsucc (m := l.length) (by omega) (by omega)]
    exact eqIntS_l0 l hl d (n + 1) (by omega)
theorem eqIntS_f (l : List Int) (hl : l.length ≤ 1048576) : Ev (fun k => laws_eqIntS.f k l l) true := Ev.pos rfl (eqIntS_l0 l hl l.length 0 (by omega))
theorem eqCheck_f (l : List Int) (m : Int) (hl : l.length ≤ 1048576) : Ev (fun k => laws_eqCheck.f k l m l m) true := Ev.bind (eqIntS_f l hl) (Ev.pos rfl (Ev.pos rfl (Ev.now _)))
theorem szCheck_f (l : List Int) (m : Int) (hl : l.length ≤ 9223372036854775807) : laws_szCheck.f l m 1048576 = some (if 1048576 - (l.length : Int) < 0 then -1 else 1048576 - (l.length : Int)) := by
  unfold laws_szCheck.f laws_szIntS.f
  rw [w64 (by omega) (by omega)]
  by_cases h : 1048576 - (l.length : Int) < 0
  · rw [if_pos h, if_pos h]; rfl
  · rw [if_neg h, if_neg h, Option.bind_some, if_neg h]
/-! ## slGood -/
/-- Is it a check. -/
def chk (l : List Int) (m : Int) : Bool := ((decide ((2 : Int) ≤ l.length) && decide ((l.length : Int) ≤ 12)) && (decide (2 ≤ m) && decide (m ≤ 11))) && l.all (fun x => decide (0 ≤ x) && decide (x ≤ m - 1))
theorem IsCheck_f (l : List Int) (m : Int) : impl_IsCheck.f l m = some (chk l m) := rfl
theorem chk_t {l : List Int} {m : Int} (h : chk l m = true) : 2 ≤ l.length ∧ l.length ≤ 12 ∧ 2 ≤ m ∧ m ≤ 11 ∧ ∀ x ∈ l, 0 ≤ x ∧ x ≤ m - 1 := by
  unfold chk at h
  simp only [Bool.and_eq_true, decide_eq_true_eq, List.all_eq_true] at h
  obtain ⟨⟨⟨h1, h2⟩, h3, h4⟩, h5⟩ := h
  exact ⟨by omega, by omega, h3, h4, h5⟩
theorem l1All_l0 (l : List Int) (lo hi : Int) (hl : l.length ≤ 1048576) : ∀ (t : List Int) (n : Nat), l.drop n = t →
    Ev (fun k => spec_l1All.l0 k lo hi l (l.length : Int) (n : Int)) (t.all (fun x => decide (lo ≤ x) && decide (x ≤ hi)))
  | [], n, h => Ev.step (fun _ => spec_l1All.l0.eq_2 ..) (Ev.neg (by have := drop_nil h; omega) (Ev.now _))
  | c :: t, n, h => by
    obtain ⟨h1, h2, h3⟩ := drop_cons h
    have hr : rd l (n : Int) = c := by rw [rd_nat, List.getD_eq_getElem?_getD, h2]; rfl
    refine Ev.step (fun _ => spec_l1All.l0.eq_2 ..) (Ev.pos (by omega) (Ev.pos (by omega) (Ev.pos (by omega) (Ev.sm (l1In_f _ _ _) ?_))))
    rw [hr, wsucc h1 (by omega), List.all_cons]
    cases hq : (decide (lo ≤ c) && decide (c ≤ hi)) with
    | true => exact Ev.pos rfl (l1All_l0 l lo hi hl t (n + 1) h3)
    | false => exact Ev.neg (by decide) (Ev.now _)
theorem slGood_f (l : List Int) (m : Int) (hl : l.length ≤ 1048576) : Ev (fun k => spec_slGood.f k l m) (chk l m) := by
  unfold chk
  refine Ev.sm (l1In_f _ _ _) ?_
  cases h1 : (decide ((2 : Int) ≤ l.length) && decide ((l.length : Int) ≤ 12)) with
  | false => exact Ev.neg (by decide) (Ev.now _)
  | true =>
    refine Ev.pos rfl (Ev.sm (l1In_f _ _ _) ?_)
    cases h2 : (decide ((2 : Int) ≤ m) && decide (m ≤ 11)) with
    | false => exact Ev.neg (by decide) (Ev.now _)
    | true =>
      simp only [Bool.and_eq_true, decide_eq_true_eq] at h2
      refine Ev.pos rfl ?_
      rw [w64 (x := m - 1) (by omega) (by omega)]
      exact Ev.bind (l1All_l0 l 0 (m - 1) hl l 0 rfl) (Ev.now _)
/-! ## bothD -/
/-- Are there a check and a number of it. -/
def bth (l : List Int) (m : Int) (s : ByteArray) : Bool := chk l m && ((L s).all isD && decide (s.size = l.length))
theorem bth_t {l : List Int} {m : Int} {s : ByteArray} (h : bth l m s = true) : l.length ≤ 12 ∧ 2 ≤ l.length ∧ 2 ≤ m ∧ m ≤ 11 ∧ (∀ x ∈ l, 0 ≤ x ∧ x ≤ 11) ∧ (L s).all isD = true ∧ s.size = l.length := by
  unfold bth at h
  simp only [Bool.and_eq_true, decide_eq_true_eq] at h
  obtain ⟨h1, h2, h3⟩ := h
  obtain ⟨c1, c2, c3, c4, c5⟩ := chk_t h1
  exact ⟨c2, c1, c3, c4, fun x hx => by have := c5 x hx; omega, h2, h3⟩
/-! ## slDigits -/
theorem slDigits_l0 (s : ByteArray) (hs : s.size ≤ 140737488351232) : ∀ (l : List Int) (n : Nat), (L s).drop n = l →
    Ev (fun k => spec_slDigits.l0 k s (n : Int)) (l.all isD) := by
  intro l
  induction l with
  | nil =>
    intro n h
    have h1 := sdrop_nil h
    exact Ev.step (spec_slDigits.l0.eq_2 s (n : Int)) (Ev.neg (by omega) (Ev.now _))
  | cons c t ih =>
    intro n h
    obtain ⟨h1, h2, h3⟩ := sdrop_cons h
    refine Ev.step (spec_slDigits.l0.eq_2 s (n : Int)) (Ev.pos (by omega) (Ev.pos (by omega) ?_))
    rw [h2, wsucc h1 (by omega)]
    by_cases hc : isD c = true
    · have hc' := isD_t.1 hc
      refine Ev.neg (by omega) (Ev.neg (by omega) (Ev.eq ?_ (ih (n + 1) h3)))
      simp [hc]
    · have hc' := isD_f.1 (by simpa using hc)
      by_cases h48 : c < 48
      · exact Ev.pos h48 (Ev.eq (by simp [hc]) (Ev.now _))
      · exact Ev.neg h48 (Ev.pos (by omega) (Ev.eq (by simp [hc]) (Ev.now _)))
theorem slDigits_f (s : ByteArray) (hs : s.size ≤ 140737488351232) :
    Ev (fun k => spec_slDigits.f k s) ((L s).all isD && (decide ((1 : Int) ≤ s.size) && decide ((s.size : Int) ≤ 12))) := by
  refine Ev.sm (l1In_f _ _ _) ?_
  by_cases h : (decide ((1 : Int) ≤ s.size) && decide ((s.size : Int) ≤ 12)) = true
  · exact Ev.pos h (Ev.eq (by rw [h, Bool.and_true]) (slDigits_l0 s hs (L s) 0 rfl))
  · exact Ev.neg h (Ev.eq (by rw [Bool.not_eq_true] at h; rw [h, Bool.and_false]) (Ev.now _))
/-! ## bothS -/
theorem slBoth_f (l : List Int) (m : Int) (s : ByteArray) (hl : l.length ≤ 1048576) (hs : s.size ≤ 140737488351232) : Ev (fun k => spec_slBoth.f k l m s) (bth l m s) := by
  refine Ev.bind (slGood_f l m hl) ?_
  unfold bth
  cases hc : chk l m with
  | false => exact Ev.neg (by decide) (Ev.now _)
  | true =>
    obtain ⟨c1, c2, _⟩ := chk_t hc
    refine Ev.pos rfl ?_
    by_cases hz : s.size = l.length
    · refine Ev.pos (by omega) (Ev.bind (slDigits_f s hs) (Ev.eq ?_ (Ev.now _)))
      rw [decide_eq_true hz, decide_eq_true (show (1 : Int) ≤ s.size by omega), decide_eq_true (show (s.size : Int) ≤ 12 by omega)]
      simp
    · refine Ev.neg (by omega) (Ev.eq ?_ (Ev.now _))
      rw [decide_eq_false hz]; simp
/-! ## within -/
theorem within_f (a b c : Int) : impl_within.f a b c = some (decide (b ≤ a) && decide (a ≤ c)) := by
  unfold impl_within.f; by_cases h : b ≤ a <;> simp [h]
/-! ## areDigits -/
theorem areDigits_l0 (s : ByteArray) (lo hi : Int) (hs : s.size ≤ 140737488351232) : ∀ (l : List Int) (n : Nat), (L s).drop n = l →
    Ev (fun k => impl_areDigits.l0 k s lo hi (s.size : Int) (n : Int)) (l.all isD && (decide (lo ≤ s.size) && decide ((s.size : Int) ≤ hi))) := by
  intro l
  induction l with
  | nil =>
    intro n h
    have h1 := sdrop_nil h
    refine Ev.step (impl_areDigits.l0.eq_2 s lo hi (s.size : Int) (n : Int)) ?_
    refine Ev.neg (by omega) (Ev.sm (within_f _ _ _) (Ev.eq ?_ (Ev.now _)))
    simp
  | cons c t ih =>
    intro n h
    obtain ⟨h1, h2, h3⟩ := sdrop_cons h
    refine Ev.step (impl_areDigits.l0.eq_2 s lo hi (s.size : Int) (n : Int)) (Ev.pos (by omega) (Ev.pos (by omega) (Ev.pos (by omega) ?_)))
    rw [h2, wsucc h1 (by omega)]
    by_cases hc : isD c = true
    · have hc' := isD_t.1 hc
      refine Ev.neg (by omega) (Ev.neg (by omega) (Ev.eq ?_ (ih (n + 1) h3)))
      simp [hc]
    · have hc' := isD_f.1 (by simpa using hc)
      by_cases h48 : c < 48
      · exact Ev.pos h48 (Ev.eq (by simp [hc]) (Ev.now _))
      · exact Ev.neg h48 (Ev.pos (by omega) (Ev.eq (by simp [hc]) (Ev.now _)))
theorem areDigits_f (s : ByteArray) (lo hi : Int) (hs : s.size ≤ 140737488351232) :
    Ev (fun k => impl_areDigits.f k s lo hi) ((L s).all isD && (decide (lo ≤ s.size) && decide ((s.size : Int) ≤ hi))) :=
  areDigits_l0 s lo hi hs (L s) 0 rfl
/-! ## bothI -/
theorem isNumber_f (l : List Int) (m : Int) (s : ByteArray) (hs : s.size ≤ 140737488351232) : Ev (fun k => impl_isNumber.f k l m s) (bth l m s) := by
  refine Ev.sm (IsCheck_f l m) ?_
  unfold bth
  cases hc : chk l m with
  | false => exact Ev.neg (by decide) (Ev.now _)
  | true =>
    refine Ev.pos rfl (Ev.bind (areDigits_f s _ _ hs) (Ev.eq ?_ (Ev.now _)))
    by_cases hz : s.size = l.length
    · rw [decide_eq_true hz, decide_eq_true (show (l.length : Int) ≤ s.size by omega), decide_eq_true (show (s.size : Int) ≤ l.length by omega)]; simp
    · have : (decide ((l.length : Int) ≤ s.size) && decide ((s.size : Int) ≤ l.length)) = false := by simp; omega
      rw [decide_eq_false hz, this]; simp
/-! ## both -/

/-! ## str -/
theorem tl_eq {s t : ByteArray} : s.toList = t.toList ↔ s = t := by
  rw [ByteArray.toList_eq, ByteArray.toList_eq, toList_L]
  exact ⟨L_inj, fun h => by rw [h]⟩
theorem L_extract (s : ByteArray) (a b : Nat) : L (s.extract a b) = ((L s).take b).drop a := by
  unfold L
  rw [ByteArray.data_extract]
  simp [List.map_drop, List.map_take, List.drop_take]
theorem L_nil : L (⟨#[]⟩ : ByteArray) = [] := rfl
theorem size_L (s : ByteArray) : s.size = (L s).length := (L_length s).symm
theorem size_ext (s : ByteArray) (a b : Nat) : (s.extract a b).size = min b s.size - a := by rw [size_L, L_extract, List.length_drop, List.length_take, L_length]
theorem size_app (s t : ByteArray) : (s ++ t).size = s.size + t.size := by rw [size_L, L_append, List.length_append, L_length, L_length]
/-! ## sumWD -/
/-- The sum of digits, each times its weight. -/
def sumW : List Int → List Int → Int
  | w :: ws, d :: ds => w * (d - 48) + sumW ws ds
  | _, _ => 0
theorem term_bd {w d : Int} (hw : 0 ≤ w ∧ w ≤ 11) (hd : isD d = true) : 0 ≤ w * (d - 48) ∧ w * (d - 48) ≤ 99 := by
  have hd' := isD_t.1 hd
  have h1 : 0 ≤ w * (d - 48) := Int.mul_nonneg hw.1 (by omega)
  have h2 : w * (d - 48) ≤ 11 * (d - 48) := Int.mul_le_mul_of_nonneg_right hw.2 (by omega)
  omega
theorem sumW_bd : ∀ (ws ds : List Int), (∀ x ∈ ws, 0 ≤ x ∧ x ≤ 11) → ds.all isD = true → 0 ≤ sumW ws ds ∧ sumW ws ds ≤ 99 * ws.length
  | [], _, _, _ => by simp [sumW]
  | _ :: _, [], _, _ => by simp [sumW]; omega
  | w :: ws, d :: ds, hw, hd => by
    rw [List.all_cons, Bool.and_eq_true] at hd
    have h1 := term_bd (hw w (by simp)) hd.1
    have h2 := sumW_bd ws ds (fun x hx => hw x (by simp [hx])) hd.2
    rw [sumW, List.length_cons]; omega
/-! ## slSumW -/
theorem slSum_l0 (s : ByteArray) (l : List Int) (hs : s.size = l.length) (hl : l.length ≤ 12) : ∀ (ws ds : List Int) (n : Nat) (acc : Int), l.drop n = ws → (L s).drop n = ds → (∀ x ∈ ws, 0 ≤ x ∧ x ≤ 11) → ds.all isD = true → 0 ≤ acc → acc ≤ 99 * n →
    Ev (fun k => spec_slSum.l0 k s acc l (l.length : Int) (n : Int)) (acc + sumW ws ds)
  | [], ds, n, acc, h1, _, _, _, _, _ => by
    refine Ev.step (fun _ => spec_slSum.l0.eq_2 ..) (Ev.neg (by have := drop_nil h1; omega) (Ev.eq ?_ (Ev.now _)))
    rw [sumW, Int.add_zero]
    intros; simp_all
  | w :: ws, [], n, acc, h1, h2, _, _, _, _ => by
    have := (drop_cons h1).1; have := sdrop_nil h2; omega
  | w :: ws, d :: ds, n, acc, h1, h2, hw, hd, ha, hb => by
    obtain ⟨g1, g2, g3⟩ := drop_cons h1
    obtain ⟨k1, k2, k3⟩ := sdrop_cons h2
    rw [List.all_cons, Bool.and_eq_true] at hd
    have ht := term_bd (hw w (by simp)) hd.1
    have hr : rd l (n : Int) = w := by rw [rd_nat, List.getD_eq_getElem?_getD, g2]; rfl
    refine Ev.step (fun _ => spec_slSum.l0.eq_2 ..) (Ev.pos (by omega) (Ev.pos (by omega) (Ev.pos (by omega) (Ev.pos (by omega) ?_))))
    rw [k2, hr, dig_mod hd.1, wsucc g1 (by omega), w64 (x := w * (d - 48)) (by omega) (by omega), w64 (x := acc + w * (d - 48)) (by omega) (by omega), sumW, ← Int.add_assoc]
    exact slSum_l0 s l hs hl ws ds (n + 1) _ g3 k3 (fun x hx => hw x (by simp [hx])) hd.2 (by omega) (by omega)
theorem slSum_f (s : ByteArray) (l : List Int) (m : Int) (hs : s.size = l.length) (hl : l.length ≤ 12) (hw : ∀ x ∈ l, 0 ≤ x ∧ x ≤ 11) (hd : (L s).all isD = true) : Ev (fun k => spec_slSum.f k l m s) (sumW l (L s)) := by
  have h := slSum_l0 s l hs hl l (L s) 0 0 rfl rfl hw hd (by omega) (by omega)
  rw [Int.zero_add] at h
  exact h
/-! ## sndS -/
/-- Is a number sound. -/
def snd (l : List Int) (m : Int) (s : ByteArray) : Bool := Int.tmod (sumW l (L s)) m == 0
theorem slSound_f (s : ByteArray) (l : List Int) (m : Int) (hm : 2 ≤ m) (hs : s.size = l.length) (hl : l.length ≤ 12) (hw : ∀ x ∈ l, 0 ≤ x ∧ x ≤ 11) (hd : (L s).all isD = true) : Ev (fun k => spec_slSound.f k l m s) (snd l m s) :=
  Ev.bind (slSum_f s l m hs hl hw hd) (Ev.neg (by omega) (Ev.now _))
/-! ## implSumW -/
theorem sum_same (s : ByteArray) (l : List Int) (ln : Int) : ∀ (k : Nat) (acc i : Int), impl_Check_sum.l0 k s acc l ln i = spec_slSum.l0 k s acc l ln i
  | 0, _, _ => rfl
  | k + 1, acc, i => by
    rw [impl_Check_sum.l0, spec_slSum.l0]
    simp only [sum_same s l ln k]
theorem Checksum_f (s : ByteArray) (l : List Int) (m : Int) (hs : s.size = l.length) (hl : l.length ≤ 12) (hw : ∀ x ∈ l, 0 ≤ x ∧ x ≤ 11) (hd : (L s).all isD = true) : Ev (fun k => impl_Check_sum.f k l m s) (sumW l (L s)) :=
  Ev.congr (fun k => sum_same s l _ k 0 0) (slSum_f s l m hs hl hw hd)
/-! ## snd -/
theorem isSound_f (s : ByteArray) (l : List Int) (m : Int) (hm : 2 ≤ m) (hs : s.size = l.length) (hl : l.length ≤ 12) (hw : ∀ x ∈ l, 0 ≤ x ∧ x ≤ 11) (hd : (L s).all isD = true) : Ev (fun k => impl_Check_isSound.f k l m s) (snd l m s) :=
  Ev.bind (Checksum_f s l m hs hl hw hd) (Ev.neg (by omega) (Ev.now _))
/-! ## num -/
/-- Ten to a power. -/
def p10 (n : Nat) : Int := 10 ^ n
theorem p10_succ (n : Nat) : p10 (n + 1) = 10 * p10 n := by unfold p10; rw [Int.pow_succ, Int.mul_comm]
theorem p10_pos (n : Nat) : 1 ≤ p10 n := by
  induction n with
  | zero => decide
  | succ n ih => rw [p10_succ]; omega
theorem p10_mono {n m : Nat} (h : n ≤ m) : p10 n ≤ p10 m := by
  obtain ⟨d, rfl⟩ : ∃ d, m = n + d := ⟨m - n, by omega⟩
  clear h
  induction d with
  | zero => exact Int.le_refl _
  | succ d ih => rw [← Nat.add_assoc, p10_succ]; have := p10_pos (n + d); omega
theorem p10_9 {n : Nat} (h : n ≤ 9) : p10 n ≤ 1000000000 := p10_mono h
/-- The number that digits tell, behind what stands before them. -/
def numF (a : Int) (l : List Int) : Int := l.foldl (fun n c => 10 * n + (c - 48)) a
theorem numF_cons (a c : Int) (l : List Int) : numF a (c :: l) = numF (10 * a + (c - 48)) l := rfl
theorem numF_bd : ∀ (l : List Int) (a : Int), l.all isD = true → 0 ≤ a → a * p10 l.length ≤ numF a l ∧ numF a l < (a + 1) * p10 l.length
  | [], a, _, h => by simp [numF, p10]; omega
  | c :: l, a, hl, h => by
    rw [List.all_cons, Bool.and_eq_true] at hl
    have hc := isD_t.1 hl.1
    have ih := numF_bd l (10 * a + (c - 48)) hl.2 (by omega)
    have hp := p10_pos l.length
    rw [numF_cons, List.length_cons, p10_succ]
    have e1 : a * (10 * p10 l.length) ≤ (10 * a + (c - 48)) * p10 l.length := by
      rw [← Int.mul_assoc]; exact Int.mul_le_mul_of_nonneg_right (by omega) (by omega)
    have e2 : (10 * a + (c - 48) + 1) * p10 l.length ≤ (a + 1) * (10 * p10 l.length) := by
      rw [← Int.mul_assoc]; exact Int.mul_le_mul_of_nonneg_right (by omega) (by omega)
    omega
/-- A number with room for so many digits behind it. -/
theorem num_step {a c : Int} {n : Nat} (ha : 0 ≤ a) (hc : 48 ≤ c ∧ c ≤ 57) (h : (a + 1) * p10 (n + 1) ≤ 1000000000000000000) : 0 ≤ 10 * a + (c - 48) ∧ (10 * a + (c - 48) + 1) * p10 n ≤ 1000000000000000000 ∧ 10 * a + (c - 48) ≤ 1000000000000000000 := by
  have hp := p10_pos n
  rw [p10_succ, ← Int.mul_assoc] at h
  have e2 : (10 * a + (c - 48) + 1) * p10 n ≤ (a + 1) * 10 * p10 n := Int.mul_le_mul_of_nonneg_right (by omega) (by omega)
  have e3 : (10 * a + (c - 48) + 1) * 1 ≤ (10 * a + (c - 48) + 1) * p10 n := Int.mul_le_mul_of_nonneg_left hp (by omega)
  omega
/-! ## dec -/
/-- The decimal digits of a number, as bytes told as numbers. -/
def Dg (n : Nat) : List Int := (Go.Lib.decDigits n).map (fun c => (c.toNat : Int))
theorem u8n {n : Nat} (h : n < 256) : (((UInt8.ofNat n).toNat : Nat) : Int) = (n : Int) := by
  rw [UInt8.toNat_ofNat', Nat.mod_eq_of_lt (by omega)]
theorem Dg_small {n : Nat} (h : n < 10) : Dg n = [48 + (n : Int)] := by
  unfold Dg
  rw [Go.Lib.decDigits, dif_pos h, List.map_cons, List.map_nil, u8n (by omega)]
  rfl
theorem Dg_big {n : Nat} (h : 10 ≤ n) : Dg n = Dg (n / 10) ++ [48 + ((n % 10 : Nat) : Int)] := by
  unfold Dg
  conv => lhs; rw [Go.Lib.decDigits, dif_neg (by omega)]
  rw [List.map_append, List.map_cons, List.map_nil, u8n (by omega)]
  rfl
theorem L_itoa (n : Nat) : L (⟨(Go.Lib.itoa (n : Int)).toArray⟩ : ByteArray) = Dg n := by
  unfold L Dg Go.Lib.itoa
  rw [if_neg (by omega), Int.toNat_natCast]
theorem L_dec (n : Nat) : L (⟨(Go.Lib.decDigits n).toArray⟩ : ByteArray) = Dg n := rfl
theorem Dg_dig : ∀ b n : Nat, n ≤ b → (Dg n).all isD = true
  | 0, n, h => by
    rw [Dg_small (by omega)]
    simp [isD]; omega
  | b + 1, n, h => by
    by_cases hn : n < 10
    · rw [Dg_small hn]
      simp [isD]; omega
    · rw [Dg_big (by omega), List.all_append, Dg_dig b (n / 10) (by omega)]
      simp [isD]; omega
theorem Dg_isD (n : Nat) : (Dg n).all isD = true := Dg_dig n n (Nat.le_refl _)
theorem Dg_pos : ∀ n : Nat, 1 ≤ (Dg n).length := by
  intro n
  by_cases hn : n < 10
  · rw [Dg_small hn]; simp
  · rw [Dg_big (by omega)]; simp
theorem numF_app (a : Int) (l m : List Int) : numF a (l ++ m) = numF (numF a l) m := by unfold numF; rw [List.foldl_append]
theorem Dg_num : ∀ b n : Nat, n ≤ b → numF 0 (Dg n) = n
  | 0, n, h => by
    rw [Dg_small (by omega)]
    simp [numF]; omega
  | b + 1, n, h => by
    by_cases hn : n < 10
    · rw [Dg_small hn]
      simp [numF]; omega
    · rw [Dg_big (by omega), numF_app, Dg_num b (n / 10) (by omega)]
      simp [numF]; omega
theorem num_Dg (n : Nat) : numF 0 (Dg n) = n := Dg_num n n (Nat.le_refl _)
/-- The last k digits of a number, zeros in front. -/
def TD : Nat → Nat → List Int
  | 0, _ => []
  | k + 1, n => TD k (n / 10) ++ [48 + ((n % 10 : Nat) : Int)]
theorem TD_len : ∀ k n, (TD k n).length = k
  | 0, _ => rfl
  | k + 1, n => by rw [TD, List.length_append, TD_len k]; rfl
theorem TD_dig : ∀ k n, (TD k n).all isD = true
  | 0, _ => rfl
  | k + 1, n => by
    rw [TD, List.all_append, TD_dig k]
    simp [isD]; omega
theorem TD_num : ∀ k n : Nat, n < 10 ^ k → numF 0 (TD k n) = n
  | 0, n, h => by
    simp at h
    subst h
    rfl
  | k + 1, n, h => by
    rw [Nat.pow_succ] at h
    rw [TD, numF_app, TD_num k (n / 10) (by omega)]
    simp [numF]; omega
theorem TD_Dg : ∀ k n : Nat, n < 10 ^ (k + 1) → (Dg n).length ≤ k + 1 ∧ TD (k + 1) n = List.replicate (k + 1 - (Dg n).length) 48 ++ Dg n
  | 0, n, h => by
    have hn : n < 10 := by simpa using h
    rw [Dg_small hn]
    refine ⟨by simp, ?_⟩
    rw [TD, TD, Nat.mod_eq_of_lt hn]
    simp
  | k + 1, n, h => by
    rw [Nat.pow_succ] at h
    obtain ⟨h1, h2⟩ := TD_Dg k (n / 10) (by omega)
    rw [TD, h2]
    by_cases hn : n < 10
    · have h0 : n / 10 = 0 := by omega
      rw [h0, Dg_small hn, Dg_small (by omega), Nat.mod_eq_of_lt hn]
      refine ⟨by simp, ?_⟩
      simp only [List.length_singleton, Nat.add_sub_cancel]
      rw [List.replicate_succ']
      simp
    · rw [Dg_big (n := n) (by omega), List.length_append, List.length_singleton]
      refine ⟨by omega, ?_⟩
      rw [show k + 1 + 1 - ((Dg (n / 10)).length + 1) = k + 1 - (Dg (n / 10)).length by omega, List.append_assoc]
/-- Ten to a power in both kinds of numbers. -/
theorem p10_nat (k : Nat) : p10 k = ((10 ^ k : Nat) : Int) := by unfold p10; exact (Int.natCast_pow 10 k).symm
/-! ## strnum -/
theorem ofNat_toNat {c : Int} (h : 0 ≤ c ∧ c ≤ 255) : (((UInt8.ofNat c.toNat).toNat : Nat) : Int) = c := by
  rw [UInt8.toNat_ofNat', Nat.mod_eq_of_lt (by omega)]; omega
theorem L_strOfNums (l : List Int) (h : ∀ c ∈ l, 0 ≤ c ∧ c ≤ 255) : L (strOfNums l) = l := by
  unfold L strOfNums
  rw [List.map_map]
  conv => rhs; rw [← List.map_id l]
  exact List.map_congr_left (fun c hc => ofNat_toNat (h c hc))
/-! ## decs -/
/-- A number's decimal text. -/
def decS (n : Nat) : ByteArray := ⟨(Go.Lib.decDigits n).toArray⟩
theorem L_decS (n : Nat) : L (decS n) = Dg n := rfl
theorem Dg_le19 (n : Nat) (h : n ≤ 9223372036854775807) : (Dg n).length ≤ 19 := (TD_Dg 18 n (by omega)).1
theorem size_decS (n : Nat) : (decS n).size = (Dg n).length := by rw [size_L, L_decS]
theorem one_dig {n : Nat} (h : n < 10) : strOfNums [wrap64 (48 + (n : Int)) % 256] = decS n := by
  apply L_inj
  rw [L_decS, Dg_small h, w64 (by omega) (by omega), Int.emod_eq_of_lt (by omega) (by omega), L_strOfNums]
  intro c hc
  rw [List.mem_singleton] at hc
  omega
/-! ## l1Num -/
theorem l1Num_b : ∀ b n : Nat, n ≤ b → n ≤ 9223372036854775807 → Ev (fun k => spec_l1Num.f k (n : Int)) (decS n)
  | 0, n, h, hb => by
    refine Ev.step (fun _ => spec_l1Num.f.eq_2 ..) (Ev.pos (by omega) (Ev.eq ?_ (Ev.now _)))
    exact (one_dig (by omega)).symm
  | b + 1, n, h, hb => by
    refine Ev.step (fun _ => spec_l1Num.f.eq_2 ..) ?_
    by_cases hn : n < 10
    · exact Ev.pos (by omega) (Ev.eq (one_dig hn).symm (Ev.now _))
    · refine Ev.neg (by omega) ?_
      rw [show Int.tdiv (n : Int) 10 = ((n / 10 : Nat) : Int) from rfl, w64n (x := n / 10) (by omega), show Int.tmod (n : Int) 10 = ((n % 10 : Nat) : Int) from rfl]
      refine Ev.bind (l1Num_b b (n / 10) (by omega) (by omega)) (Ev.sm rfl ?_)
      rw [one_dig (n := n % 10) (by omega)]
      have h1 : (decS (n / 10)).size ≤ 19 := by rw [size_decS]; exact Dg_le19 _ (by omega)
      have h2 : (decS (n % 10)).size ≤ 19 := by rw [size_decS]; exact Dg_le19 _ (by omega)
      refine Ev.pos (by omega) (Ev.eq ?_ (Ev.now _))
      apply L_inj
      rw [L_append, L_decS, L_decS, L_decS, Dg_big (n := n) (by omega), Dg_small (n := n % 10) (by omega)]
theorem l1Num_f (n : Nat) (h : n ≤ 9223372036854775807) : Ev (fun k => spec_l1Num.f k (n : Int)) (decS n) := l1Num_b n n (Nat.le_refl _) h
/-! ## put -/
/-- A text with another digit at a place. -/
def putS (s : ByteArray) (p d : Nat) : ByteArray := ((s.extract 0 p) ++ decS d) ++ s.extract (p + 1) s.size
theorem L_putS (s : ByteArray) (p d : Nat) (hp : p < s.size) (hd : d < 10) : L (putS s p d) = (L s).set p (48 + (d : Int)) := by
  unfold putS
  rw [L_append, L_append, L_extract, L_extract, L_decS, Dg_small hd, List.drop_zero]
  rw [List.take_of_length_le (l := L s) (i := s.size) (by rw [L_length]; omega)]
  rw [List.set_eq_take_append_cons_drop, if_pos (by rw [L_length]; exact hp), List.append_assoc]
  rfl
theorem putS_size (s : ByteArray) (p d : Nat) (hp : p < s.size) (hd : d < 10) : (putS s p d).size = s.size := by
  rw [size_L, L_putS s p d hp hd, List.length_set, L_length]
theorem putS_dig {s : ByteArray} {p d : Nat} (hp : p < s.size) (hd : d < 10) (h : (L s).all isD = true) : (L (putS s p d)).all isD = true := by
  rw [L_putS s p d hp hd, List.all_eq_true]
  intro c hc
  rcases List.mem_or_eq_of_mem_set hc with h1 | h1
  · exact List.all_eq_true.1 h c h1
  · subst h1; rw [isD_t]; omega
theorem slPut_f (s : ByteArray) (p d : Nat) (hp : p < s.size) (hd : d < 10) (hs : s.size ≤ 140737488351232) : Ev (fun k => spec_slPut.f k s (p : Int) (d : Int)) (putS s p d) := by
  have e1 : wrap64 ((p : Int) + 1) = ((p + 1 : Nat) : Int) := by rw [w64 (by omega) (by omega)]; rfl
  have hz := putS_size s p d hp hd
  have h1 : (decS d).size = 1 := by rw [size_decS, Dg_small hd]; rfl
  unfold putS at hz
  refine Ev.pos (by omega) (Ev.pos (by omega) (Ev.bind (l1Num_f d (by omega)) ?_))
  rw [e1, Int.toNat_natCast, Int.toNat_natCast]
  refine Ev.pos (by rw [size_ext, h1]; omega) (Ev.pos (by omega) (Ev.pos (by omega) (Ev.pos ?_ (Ev.now _))))
  rw [← size_app, hz]; omega
/-! ## with0 -/
theorem with_f (s : ByteArray) (p d : Nat) (hp : p < s.size) (hd : d < 10) (hs : s.size ≤ 140737488351232) : impl_with.f s (p : Int) (d : Int) = some (putS s p d) := by
  have e1 : wrap64 ((p : Int) + 1) = ((p + 1 : Nat) : Int) := by rw [w64 (by omega) (by omega)]; rfl
  have hz := putS_size s p d hp hd
  have h1 : (decS d).size = 1 := by rw [size_decS, Dg_small hd]; rfl
  have hi : strconv_Itoa.f (d : Int) = some (decS d) := by
    unfold strconv_Itoa.f
    rw [if_pos (by omega), Int.toNat_natCast]; rfl
  unfold putS at hz
  unfold impl_with.f
  rw [e1, Int.toNat_natCast, Int.toNat_natCast, if_pos (by omega), if_pos (by omega), hi, Option.bind_some, if_pos (by rw [size_ext, h1]; omega), if_pos (by omega), if_pos (by omega), if_pos (by rw [← size_app, hz]; omega)]
  rfl
/-- The numbers from d on, e of them, at which a test holds. -/
def sdl (P : Nat → Bool) : Nat → Nat → List Int
  | _, 0 => []
  | d, e + 1 => (if P d = true then [(d : Int)] else []) ++ sdl P (d + 1) e
theorem sdl_len (P : Nat → Bool) : ∀ e d, (sdl P d e).length ≤ e
  | 0, d => by simp [sdl]
  | e + 1, d => by rw [sdl, List.length_append]; have := sdl_len P e (d + 1); split <;> simp <;> omega
/-- Which digits at a place make a number sound. -/
def sdP (l : List Int) (m : Int) (s : ByteArray) (p d : Nat) : Bool := snd l m (putS s p d)
theorem soundDigits_l0 (l : List Int) (m : Int) (s : ByteArray) (p : Nat) (hp : p < s.size) (hm : 2 ≤ m) (hs : s.size = l.length) (hl : l.length ≤ 12) (hw : ∀ x ∈ l, 0 ≤ x ∧ x ≤ 11) (hd : ∀ d, d < 10 → (L (putS s p d)).all isD = true) :
    ∀ (e d : Nat) (acc : List Int), d + e = 10 → acc.length ≤ d → Ev (fun k => impl_Check_soundDigits.l0 k s (p : Int) acc (d : Int) l m) (acc ++ sdl (sdP l m s p) d e)
  | 0, d, acc, h, ha => Ev.step (fun _ => impl_Check_soundDigits.l0.eq_2 ..) (Ev.neg (by omega) (Ev.eq (by simp [sdl]) (Ev.now _)))
  | e + 1, d, acc, h, ha => by
    refine Ev.step (fun _ => impl_Check_soundDigits.l0.eq_2 ..) (Ev.pos (by omega) (Ev.sm (with_f s p d hp (by omega) (by omega)) (Ev.bind (isSound_f (putS s p d) l m hm (by rw [putS_size s p d hp (by omega)]; exact hs) hl hw (hd d (by omega))) ?_)))
    rw [wsucc (m := 10) (by omega) (by omega), sdl]
    by_cases c : snd l m (putS s p d) = true
    · refine Ev.pos c (Ev.pos (by omega) ?_)
      rw [if_pos (show sdP l m s p d = true from c), ← List.append_assoc]
      exact soundDigits_l0 l m s p hp hm hs hl hw hd e (d + 1) _ (by omega) (by simp; omega)
    · refine Ev.neg c ?_
      rw [if_neg (show ¬ sdP l m s p d = true from c), List.nil_append]
      exact soundDigits_l0 l m s p hp hm hs hl hw hd e (d + 1) _ (by omega) (by omega)
theorem soundDigits_f (l : List Int) (m : Int) (s : ByteArray) (p : Nat) (hp : p < s.size) (hm : 2 ≤ m) (hs : s.size = l.length) (hl : l.length ≤ 12) (hw : ∀ x ∈ l, 0 ≤ x ∧ x ≤ 11) (hd : ∀ d, d < 10 → (L (putS s p d)).all isD = true) :
    Ev (fun k => impl_Check_soundDigits.f k l m s (p : Int)) (sdl (sdP l m s p) 0 10) := by
  have h := soundDigits_l0 l m s p hp hm hs hl hw hd 10 0 [] (by omega) (by simp)
  rw [List.nil_append] at h
  exact h
/-! ## lexSet -/
theorem cons_le {x y : UInt8} {a b : List UInt8} (h : x < y ∨ (x = y ∧ a ≤ b)) : x :: a ≤ y :: b := List.cons_le_cons_iff.2 h
theorem lex_self (a : List UInt8) : a ≤ a := List.le_refl a
theorem lex_same : ∀ (a : List UInt8) (p : Nat) (x y : UInt8), x ≤ y → a.set p x ≤ a.set p y
  | [], p, x, y, _ => by simp
  | c :: a, 0, x, y, h => by
    rw [List.set_cons_zero, List.set_cons_zero]
    rcases Nat.lt_or_eq_of_le (UInt8.le_iff_toNat_le.1 h) with h1 | h1
    · exact cons_le (.inl (UInt8.lt_iff_toNat_lt.2 h1))
    · exact cons_le (.inr ⟨UInt8.toNat_inj.1 h1, lex_self a⟩)
  | c :: a, p + 1, x, y, h => by
    rw [List.set_cons_succ, List.set_cons_succ]
    exact cons_le (.inr ⟨rfl, lex_same a p x y h⟩)
/-- A lesser byte farther left comes first, whatever stands at a later place. -/
theorem lex_less : ∀ (a : List UInt8) (p q : Nat) (x y : UInt8), p < q → (∀ h : p < a.length, x < a[p]) → a.set p x ≤ a.set q y
  | [], p, q, x, y, _, _ => by simp
  | c :: a, 0, q + 1, x, y, _, h => by
    rw [List.set_cons_zero, List.set_cons_succ]
    exact cons_le (.inl (h (by simp)))
  | c :: a, p + 1, q + 1, x, y, hp, h => by
    rw [List.set_cons_succ, List.set_cons_succ]
    exact cons_le (.inr ⟨rfl, lex_less a p q x y (by omega) (fun h1 => by have := h (by simp only [List.length_cons]; omega); simpa using this)⟩)
/-- A greater byte farther left comes last, whatever stands at a later place. -/
theorem lex_more : ∀ (a : List UInt8) (p q : Nat) (x y : UInt8), q < p → (∀ h : q < a.length, a[q] < y) → a.set p x ≤ a.set q y
  | [], p, q, x, y, _, _ => by simp
  | c :: a, p + 1, 0, x, y, _, h => by
    rw [List.set_cons_zero, List.set_cons_succ]
    exact cons_le (.inl (h (by simp)))
  | c :: a, p + 1, q + 1, x, y, hp, h => by
    rw [List.set_cons_succ, List.set_cons_succ]
    exact cons_le (.inr ⟨rfl, lex_more a p q x y (by omega) (fun h1 => by have := h (by simp only [List.length_cons]; omega); simpa using this)⟩)
theorem lex_down : ∀ (a : List UInt8) (p : Nat) (x : UInt8), (∀ h : p < a.length, x ≤ a[p]) → a.set p x ≤ a
  | [], p, x, _ => by simp
  | c :: a, 0, x, h => by
    rw [List.set_cons_zero]
    have h0 : x ≤ c := h (by simp)
    rcases Nat.lt_or_eq_of_le (UInt8.le_iff_toNat_le.1 h0) with h1 | h1
    · exact cons_le (.inl (UInt8.lt_iff_toNat_lt.2 h1))
    · exact cons_le (.inr ⟨UInt8.toNat_inj.1 h1, lex_self a⟩)
  | c :: a, p + 1, x, h => by
    rw [List.set_cons_succ]
    exact cons_le (.inr ⟨rfl, lex_down a p x (fun h1 => by have := h (by simp only [List.length_cons]; omega); simpa using this)⟩)
theorem lex_up : ∀ (a : List UInt8) (p : Nat) (x : UInt8), (∀ h : p < a.length, a[p] ≤ x) → a ≤ a.set p x
  | [], p, x, _ => by simp
  | c :: a, 0, x, h => by
    rw [List.set_cons_zero]
    have h0 : c ≤ x := h (by simp)
    rcases Nat.lt_or_eq_of_le (UInt8.le_iff_toNat_le.1 h0) with h1 | h1
    · exact cons_le (.inl (UInt8.lt_iff_toNat_lt.2 h1))
    · exact cons_le (.inr ⟨UInt8.toNat_inj.1 h1, lex_self a⟩)
  | c :: a, p + 1, x, h => by
    rw [List.set_cons_succ]
    exact cons_le (.inr ⟨rfl, lex_up a p x (fun h1 => by have := h (by simp only [List.length_cons]; omega); simpa using this)⟩)
/-! ## sortS -/
theorem byteList_le_trans (a b c : List UInt8) (h1 : a ≤ b) (h2 : b ≤ c) : a ≤ c := List.le_trans h1 h2
theorem byteList_le_total (a b : List UInt8) : a ≤ b ∨ b ≤ a := List.le_total a b
theorem byteList_le_antisymm (a b : List UInt8) (h1 : a ≤ b) (h2 : b ≤ a) : a = b := List.le_antisymm h1 h2
theorem map_back (ys : List ByteArray) : (ys.map (·.data.toList)).map (fun l => (⟨l.toArray⟩ : ByteArray)) = ys := by
  rw [List.map_map]
  conv => rhs; rw [← List.map_id ys]
  apply List.map_congr_left
  intro x _
  simp
/-- The one sorted list of these texts. -/
theorem sortS_eq {xs ys : List ByteArray} (hp : xs.Perm ys) (hs : ys.Pairwise (fun a b => a.data.toList ≤ b.data.toList)) : sortS xs = ys := by
  have e : ((xs.map (·.data.toList)).mergeSort fun x y => decide (x ≤ y)) = ys.map (·.data.toList) := by
    refine List.Perm.eq_of_pairwise (le := fun x y : List UInt8 => x ≤ y) (fun a b _ _ h1 h2 => byteList_le_antisymm a b h1 h2) ?_ ?_ ?_
    · have := List.pairwise_mergeSort (le := fun x y : List UInt8 => decide (x ≤ y)) (fun a b c h1 h2 => by simp only [decide_eq_true_eq] at *; exact byteList_le_trans a b c h1 h2) (fun a b => by simp only [Bool.or_eq_true, decide_eq_true_eq]; exact byteList_le_total a b) (xs.map (·.data.toList))
      exact this.imp (fun h => by simpa using h)
    · exact List.pairwise_map.2 hs
    · exact (List.mergeSort_perm _ _).trans (hp.map _)
  unfold sortS
  rw [e, map_back]
/-! ## nearMath -/
theorem bl_self : ∀ a : List UInt8, Op.bytesLess a a = false
  | [] => rfl
  | x :: a => by simp [Op.bytesLess, bl_self a, UInt8.lt_irrefl]
theorem bl_set : ∀ (a : List UInt8) (p : Nat) (x : UInt8) (h : p < a.length), Op.bytesLess (a.set p x) a = decide (x < a[p])
  | c :: a, 0, x, h => by simp [Op.bytesLess, bl_self]
  | c :: a, p + 1, x, h => by
    rw [List.set_cons_succ]
    simp only [Op.bytesLess, UInt8.lt_irrefl, decide_false, Bool.false_or, beq_self_eq_true, Bool.true_and, List.getElem_cons_succ]
    exact bl_set a p x _
theorem fm_perm {α β : Type} (A B C : α → List β) : ∀ l : List α, (∀ x ∈ l, (C x).Perm (A x ++ B x)) → (l.flatMap C).Perm (l.flatMap A ++ l.flatMap B)
  | [], _ => by simp
  | x :: l, h => by
    rw [List.flatMap_cons, List.flatMap_cons, List.flatMap_cons]
    refine ((h x List.mem_cons_self).append (fm_perm A B C l (fun y hy => h y (List.mem_cons_of_mem _ hy)))).trans ?_
    rw [List.append_assoc, List.append_assoc]
    exact List.Perm.append_left _ (List.perm_append_comm_assoc _ _ _)
/-- The digits at a place that a test takes, each put there. -/
def nbs (f : Nat → Nat → ByteArray) (T : Nat → Nat → Bool) (p : Nat) : List ByteArray := ((List.range 10).filter (T p)).map (f p)
theorem nbs_perm (f : Nat → Nat → ByteArray) (T c : Nat → Nat → Bool) (p : Nat) : (nbs f T p).Perm (nbs f (fun p d => c p d && T p d) p ++ nbs f (fun p d => !c p d && T p d) p) := by
  unfold nbs
  rw [← List.map_append]
  refine List.Perm.map _ ?_
  rw [← List.filter_filter, ← List.filter_filter]
  exact (List.filter_append_perm (c p) ((List.range 10).filter (T p))).symm
/-- All that are found, in the order of the rows: the lesser ones by place, the greater ones by place from the last on. -/
def nearL (f : Nat → Nat → ByteArray) (T c : Nat → Nat → Bool) (n : Nat) : List ByteArray := (List.range n).flatMap (nbs f (fun p d => c p d && T p d)) ++ (List.range n).reverse.flatMap (nbs f (fun p d => !c p d && T p d))
theorem near_perm (f : Nat → Nat → ByteArray) (T c : Nat → Nat → Bool) (n : Nat) : ((List.range n).flatMap (nbs f T)).Perm (nearL f T c n) := by
  unfold nearL
  refine (fm_perm _ _ _ _ (fun p _ => nbs_perm f T c p)).trans ?_
  exact List.Perm.append_left _ ((List.reverse_perm _).flatMap_right _).symm
theorem mem_nbs {f : Nat → Nat → ByteArray} {T : Nat → Nat → Bool} {p : Nat} {x : ByteArray} (h : x ∈ nbs f T p) : ∃ d, d < 10 ∧ T p d = true ∧ x = f p d := by
  unfold nbs at h
  obtain ⟨d, hd, rfl⟩ := List.mem_map.1 h
  obtain ⟨h1, h2⟩ := List.mem_filter.1 hd
  exact ⟨d, List.mem_range.1 h1, h2, rfl⟩
theorem near_sorted (f : Nat → Nat → ByteArray) (T c : Nat → Nat → Bool) (b : List UInt8) (hf : ∀ p d, p < b.length → d < 10 → (f p d).data.toList = b.set p (UInt8.ofNat (48 + d)))
    (h1 : ∀ p d, d < 10 → c p d = true → T p d = true → ∀ h : p < b.length, UInt8.ofNat (48 + d) < b[p]) (h2 : ∀ p d, d < 10 → c p d = false → T p d = true → ∀ h : p < b.length, b[p] < UInt8.ofNat (48 + d)) :
    (nearL f T c b.length).Pairwise (fun x y => x.data.toList ≤ y.data.toList) := by
  have hin : ∀ (U : Nat → Nat → Bool) (p : Nat), p < b.length → (nbs f U p).Pairwise (fun x y => x.data.toList ≤ y.data.toList) := by
    intro U p hp
    unfold nbs
    rw [List.pairwise_map]
    refine List.Pairwise.imp_of_mem ?_ ((List.pairwise_lt_range (n := 10)).filter (U p))
    intro d e hd he hde
    have hd1 := List.mem_range.1 (List.mem_filter.1 hd).1
    have he1 := List.mem_range.1 (List.mem_filter.1 he).1
    rw [hf p d hp hd1, hf p e hp he1]
    refine lex_same b p _ _ ?_
    rw [UInt8.le_iff_toNat_le, UInt8.toNat_ofNat', UInt8.toNat_ofNat']
    omega
  unfold nearL
  rw [List.pairwise_append]
  refine ⟨?_, ?_, ?_⟩
  · rw [List.pairwise_flatMap]
    refine ⟨fun p hp => hin _ p (List.mem_range.1 hp), ?_⟩
    refine List.Pairwise.imp_of_mem ?_ (List.pairwise_lt_range (n := b.length))
    intro p q hp hq hpq x hx y hy
    obtain ⟨d, hd, hT, rfl⟩ := mem_nbs hx
    obtain ⟨e, he, hU, rfl⟩ := mem_nbs hy
    simp only [Bool.and_eq_true] at hT
    rw [hf p d (List.mem_range.1 hp) hd, hf q e (List.mem_range.1 hq) he]
    exact lex_less b p q _ _ hpq (h1 p d hd hT.1 hT.2)
  · rw [List.pairwise_flatMap]
    refine ⟨fun p hp => hin _ p (List.mem_range.1 (List.mem_reverse.1 hp)), ?_⟩
    rw [List.pairwise_reverse]
    refine List.Pairwise.imp_of_mem ?_ (List.pairwise_lt_range (n := b.length))
    intro q p hq hp hqp x hx y hy
    obtain ⟨d, hd, hT, rfl⟩ := mem_nbs hx
    obtain ⟨e, he, hU, rfl⟩ := mem_nbs hy
    simp only [Bool.and_eq_true, Bool.not_eq_true'] at hU
    rw [hf p d (List.mem_range.1 hp) hd, hf q e (List.mem_range.1 hq) he]
    exact lex_more b p q _ _ hqp (h2 q e he hU.1 hU.2)
  · intro x hx y hy
    obtain ⟨p, hp, hx⟩ := List.mem_flatMap.1 hx
    obtain ⟨q, hq, hy⟩ := List.mem_flatMap.1 hy
    obtain ⟨d, hd, hT, rfl⟩ := mem_nbs hx
    obtain ⟨e, he, hU, rfl⟩ := mem_nbs hy
    simp only [Bool.and_eq_true] at hT
    simp only [Bool.and_eq_true, Bool.not_eq_true'] at hU
    have hp1 := List.mem_range.1 hp
    have hq1 := List.mem_range.1 (List.mem_reverse.1 hq)
    rw [hf p d hp1 hd, hf q e hq1 he]
    refine byteList_le_trans _ b _ (lex_down b p _ (fun h => ?_)) (lex_up b q _ (fun h => ?_))
    · have := UInt8.lt_iff_toNat_lt.1 (h1 p d hd hT.1 hT.2 h); rw [UInt8.le_iff_toNat_le]; omega
    · have := UInt8.lt_iff_toNat_lt.1 (h2 q e he hU.1 hU.2 h); rw [UInt8.le_iff_toNat_le]; omega
/-! ## markI -/
/-- The numbers from a on. -/
def upf (a : Int) (n : Nat) : List Int := tab n (fun j => a + j)
theorem markIntS_l0 (l : List Int) (a : Int) (ha : 0 ≤ a ∧ a ≤ 100000000) (hl : l.length ≤ 100000000) : ∀ d n : Nat, n + d = l.length →
    Ev (fun k => laws_markIntS.l0 k (tab l.length (fun j => if j < n then a + j else rd l (j : Int))) (a + (n : Int)) (n : Int)) (a + (l.length : Int), upf a l.length)
  | 0, n, h => by
    refine Ev.step (fun _ => laws_markIntS.l0.eq_2 ..) (Ev.neg (by rw [tab_length]; omega) (Ev.eq ?_ (Ev.now _)))
    obtain rfl : n = l.length := by omega
    unfold upf
    rw [tab_congr (f := fun j => if j < l.length then a + j else rd l (j : Int)) (g := fun j => a + j) (fun j hj => if_pos hj)]
  | d + 1, n, h => by
    refine Ev.step (fun _ => laws_markIntS.l0.eq_2 ..) ?_
    rw [tab_length]
    refine Ev.pos (by omega) (Ev.pos (by omega) ?_)
    rw [Int.toNat_natCast, set_tab, wsucc (m := l.length) (by omega) (by omega), w64 (x := a + (n : Int) + 1) (by omega) (by omega)]
    rw [tab_congr (g := fun j => if j < n + 1 then a + j else rd l (j : Int)), show a + (n : Int) + 1 = a + ((n + 1 : Nat) : Int) by omega]
    · exact markIntS_l0 l a ha hl d (n + 1) (by omega)
    · intro j _
      by_cases e : j = n
      · subst e; rw [if_pos rfl, if_pos (by omega)]
      · rw [if_neg e]
        by_cases e2 : j < n
        · rw [if_pos e2, if_pos (by omega)]
        · rw [if_neg e2, if_neg (by omega)]
theorem markIntS_f (l : List Int) (a : Int) (ha : 0 ≤ a ∧ a ≤ 100000000) (hl : l.length ≤ 100000000) : Ev (fun k => laws_markIntS.f k l a) (a + (l.length : Int), upf a l.length) := by
  have h := markIntS_l0 l a ha hl l.length 0 (by omega)
  rw [tab_congr (f := fun j => if j < 0 then a + j else rd l (j : Int)) (g := fun j => rd l (j : Int)) (fun j _ => if_neg (by omega)), tab_self, show a + ((0 : Nat) : Int) = a by omega] at h
  exact h
theorem markCheck_f (l : List Int) (m a : Int) (ha : 0 ≤ a ∧ a ≤ 100000000) (hl : l.length ≤ 100000000) : Ev (fun k => laws_markCheck.f k l m a) (a + (l.length : Int), upf a l.length) := Ev.bind (markIntS_f l a ha hl) (Ev.now _)
/-! ## nearProg -/
def nT (l : List Int) (m : Int) (s : ByteArray) (p d : Nat) : Bool := decide (putS s p d ≠ s) && snd l m (putS s p d)
def nC (s : ByteArray) (p d : Nat) : Bool := Op.bytesLess (putS s p d).toList s.toList
theorem nbs_len (f : Nat → Nat → ByteArray) (T : Nat → Nat → Bool) (p : Nat) : (nbs f T p).length ≤ 10 := by
  unfold nbs
  rw [List.length_map]
  exact Nat.le_trans (List.length_filter_le _ _) (by simp)
theorem fm_len (F : Nat → List ByteArray) (h : ∀ p, (F p).length ≤ 10) : ∀ n, ((List.range n).flatMap F).length ≤ 10 * n
  | 0 => by simp
  | n + 1 => by
    rw [List.range_succ, List.flatMap_append, List.length_append]
    have h1 := fm_len F h n
    have h2 := h n
    simp only [List.flatMap_cons, List.flatMap_nil, List.append_nil]
    omega
theorem implNS_l1 {l : List Int} {m : Int} {s : ByteArray} (p : Nat) (hp : p < s.size) (hs : s.size ≤ 12) (r : List ByteArray × Bool) : ∀ (e d : Nat) (pre : List Int) (acc : List ByteArray), d + e = 10 → pre.length ≤ d → acc.length + e ≤ 1000 →
    Ev (fun k => impl_NearSound.l0 k s (acc ++ (((List.range' d e).filter (nT l m s p)).map (putS s p))) (s.size : Int) ((p + 1 : Nat) : Int) l m) r →
    Ev (fun k => impl_NearSound.l1 k s acc (p : Int) (s.size : Int) (p : Int) (pre ++ sdl (sdP l m s p) d e) ((pre ++ sdl (sdP l m s p) d e).length : Int) (pre.length : Int) l m) r
  | 0, d, pre, acc, hd, hpre, hacc, h => by
    refine Ev.step (fun _ => impl_NearSound.l1.eq_2 ..) (Ev.neg (by simp [sdl]) ?_)
    rw [wsucc (m := 12) (by omega) (by omega)]
    simpa using h
  | e + 1, d, pre, acc, hd, hpre, hacc, h => by
    rw [List.range'_succ] at h
    by_cases c : sdP l m s p d = true
    · have e0 : pre ++ sdl (sdP l m s p) d (e + 1) = (pre ++ [(d : Int)]) ++ sdl (sdP l m s p) (d + 1) e := by rw [sdl, if_pos c, List.append_assoc]
      have c' : snd l m (putS s p d) = true := c
      rw [e0]
      have hr : rd (pre ++ [(d : Int)] ++ sdl (sdP l m s p) (d + 1) e) (pre.length : Int) = (d : Int) := by
        unfold rd
        rw [Int.toNat_natCast, List.append_assoc, List.getD_eq_getElem?_getD, List.getElem?_append_right (Nat.le_refl _), Nat.sub_self]
        rfl
      have hl2 := sdl_len (sdP l m s p) e (d + 1)
      have hlen : (pre ++ [(d : Int)] ++ sdl (sdP l m s p) (d + 1) e).length = pre.length + 1 + (sdl (sdP l m s p) (d + 1) e).length := by simp; omega
      refine Ev.step (fun _ => impl_NearSound.l1.eq_2 ..) ?_
      rw [hr]
      refine Ev.pos (by omega) (Ev.pos (by omega) (Ev.pos (by omega) (Ev.sm (with_f s p d hp (by omega) (by omega)) ?_)))
      rw [wsucc (m := 40) (n := pre.length) (by omega) (by omega)]
      have ih := implNS_l1 (l := l) (m := m) p hp hs r e (d + 1) (pre ++ [(d : Int)])
      rw [show (pre ++ [(d : Int)]).length = pre.length + 1 by simp] at ih
      by_cases c2 : (putS s p d).toList = s.toList
      · refine Ev.pos c2 (ih acc (by omega) (by omega) (by omega) ?_)
        rw [List.filter_cons_of_neg (by intro x; unfold nT at x; rw [Bool.and_eq_true, decide_eq_true_eq] at x; exact x.1 (tl_eq.1 c2))] at h
        exact h
      · refine Ev.neg c2 (Ev.pos (by omega) (ih (acc ++ [putS s p d]) (by omega) (by omega) (by rw [List.length_append, List.length_singleton]; omega) ?_))
        rw [List.filter_cons_of_pos (by unfold nT; rw [Bool.and_eq_true, decide_eq_true_eq]; exact ⟨fun x => c2 (tl_eq.2 x), c'⟩)] at h
        simpa using h
    · have e0 : sdl (sdP l m s p) d (e + 1) = sdl (sdP l m s p) (d + 1) e := by rw [sdl, if_neg c, List.nil_append]
      rw [e0]
      refine implNS_l1 p hp hs r e (d + 1) pre acc (by omega) (by omega) (by omega) ?_
      rw [List.filter_cons_of_neg (by intro x; unfold nT at x; rw [Bool.and_eq_true] at x; exact c x.2)] at h
      exact h
theorem implNS_l0 {l : List Int} {m : Int} {s : ByteArray} (h : bth l m s = true) : ∀ e p : Nat, p + e = s.size →
    Ev (fun k => impl_NearSound.l0 k s ((List.range p).flatMap (nbs (putS s) (nT l m s))) (s.size : Int) (p : Int) l m) (sortS ((List.range s.size).flatMap (nbs (putS s) (nT l m s))), true)
  | 0, p, hp => by
    obtain ⟨h1, h2, h3, _, h5, h6, h7⟩ := bth_t h
    obtain rfl : p = s.size := by omega
    have hlen := fm_len (nbs (putS s) (nT l m s)) (nbs_len _ _) s.size
    refine Ev.step (fun _ => impl_NearSound.l0.eq_2 ..) (Ev.neg (by omega) (Ev.sm (a := sortS ((List.range s.size).flatMap (nbs (putS s) (nT l m s)))) ?_ (Ev.now _)))
    unfold slices_Sort_str.f
    rw [if_pos (by omega)]
  | e + 1, p, hp => by
    obtain ⟨h1, h2, h3, _, h5, h6, h7⟩ := bth_t h
    have hlen := fm_len (nbs (putS s) (nT l m s)) (nbs_len _ _) p
    refine Ev.step (fun _ => impl_NearSound.l0.eq_2 ..) (Ev.pos (by omega) (Ev.bind (soundDigits_f l m s p (by omega) h3 h7 h1 h5 (fun d hd => putS_dig (by omega) hd h6)) ?_))
    refine implNS_l1 p (by omega) (by omega) _ 10 0 [] _ (by omega) (by simp) (by omega) ?_
    have ih := implNS_l0 h e (p + 1) (by omega)
    rw [List.range_succ, List.flatMap_append] at ih
    simp only [List.flatMap_cons, List.flatMap_nil, List.append_nil] at ih
    rw [← List.range_eq_range']
    exact ih
/-! ## nearSpec -/
def nLo (l : List Int) (m : Int) (s : ByteArray) (p d : Nat) : Bool := nC s p d && nT l m s p d
def nHi (l : List Int) (m : Int) (s : ByteArray) (p d : Nat) : Bool := !nC s p d && nT l m s p d
theorem specNS_l1 {l : List Int} {m : Int} {s : ByteArray} (h : bth l m s = true) (p : Nat) (hp : p < s.size) (r : List ByteArray × Bool) : ∀ (e : Nat) (lo hi : List ByteArray), e ≤ 10 → lo.length + e ≤ 1000 → hi.length + e ≤ 1000 →
    Ev (fun k => spec_NearSound.l0 k s (lo ++ (((List.range e).reverse.filter (nLo l m s p)).map (putS s p))) (hi ++ (((List.range e).reverse.filter (nHi l m s p)).map (putS s p))) ((p + 1 : Nat) : Int) l m) r →
    Ev (fun k => spec_NearSound.l1 k s lo hi (p : Int) ((e : Int) - 1) l m) r
  | 0, lo, hi, _, _, _, hh => by
    obtain ⟨h1, h2, h3, _, h5, h6, h7⟩ := bth_t h
    refine Ev.step (fun _ => spec_NearSound.l1.eq_2 ..) (Ev.neg (by omega) ?_)
    rw [wsucc (m := 12) (by omega) (by omega)]
    simpa using hh
  | e + 1, lo, hi, he, hlo, hhi, hh => by
    obtain ⟨h1, h2, h3, _, h5, h6, h7⟩ := bth_t h
    have e1 : ((e + 1 : Nat) : Int) - 1 = (e : Int) := by omega
    have e2 : wrap64 ((e : Int) - 1) = (e : Int) - 1 := w64 (by omega) (by omega)
    have e3 : (List.range (e + 1)).reverse = e :: (List.range e).reverse := by rw [List.range_succ, List.reverse_append]; rfl
    rw [e3] at hh
    refine Ev.step (fun _ => spec_NearSound.l1.eq_2 ..) ?_
    rw [e1]
    refine Ev.pos (by omega) (Ev.bind (slPut_f s p e (by omega) (by omega) (by omega)) ?_)
    by_cases c2 : (putS s p e).toList = s.toList
    · refine Ev.pos c2 (Ev.step (fun _ => spec_NearSound.j2.eq_2 ..) (Ev.neg (by decide) ?_))
      rw [e2]
      refine specNS_l1 h p hp r e lo hi (by omega) (by omega) (by omega) ?_
      have n1 : nT l m s p e = false := by unfold nT; rw [decide_eq_false (fun x => x (tl_eq.1 c2)), Bool.false_and]
      rw [List.filter_cons_of_neg (by unfold nLo; rw [n1, Bool.and_false]; decide), List.filter_cons_of_neg (by unfold nHi; rw [n1, Bool.and_false]; decide)] at hh
      exact hh
    · refine Ev.neg c2 (Ev.bind (slSound_f (putS s p e) l m h3 (by rw [putS_size s p e (by omega) (by omega)]; exact h7) h1 h5 (putS_dig (by omega) (by omega) h6)) ?_)
      refine Ev.step (fun _ => spec_NearSound.j2.eq_2 ..) ?_
      rw [e2]
      by_cases c3 : snd l m (putS s p e) = true
      · have n1 : nT l m s p e = true := by unfold nT; rw [c3, Bool.and_true, decide_eq_true_eq]; exact fun x => c2 (tl_eq.2 x)
        by_cases c4 : Op.bytesLess (putS s p e).toList s.toList = true
        · have c4' : nC s p e = true := c4
          refine Ev.pos c3 (Ev.pos c4 (Ev.pos (by omega) (specNS_l1 h p hp r e _ _ (by omega) (by rw [List.length_append, List.length_singleton]; omega) (by omega) ?_)))
          rw [List.filter_cons_of_pos (by unfold nLo; rw [n1, c4']; rfl), List.filter_cons_of_neg (by unfold nHi; rw [n1, c4']; decide)] at hh
          simpa using hh
        · have c4' : nC s p e = false := Bool.eq_false_iff.2 c4
          refine Ev.pos c3 (Ev.neg c4 (Ev.pos (by omega) (specNS_l1 h p hp r e _ _ (by omega) (by omega) (by rw [List.length_append, List.length_singleton]; omega) ?_)))
          rw [List.filter_cons_of_neg (by unfold nLo; rw [n1, c4']; decide), List.filter_cons_of_pos (by unfold nHi; rw [n1, c4']; rfl)] at hh
          simpa using hh
      · have n1 : nT l m s p e = false := by unfold nT; rw [Bool.eq_false_iff.2 c3, Bool.and_false]
        refine Ev.neg c3 (specNS_l1 h p hp r e lo hi (by omega) (by omega) (by omega) ?_)
        rw [List.filter_cons_of_neg (by unfold nLo; rw [n1, Bool.and_false]; decide), List.filter_cons_of_neg (by unfold nHi; rw [n1, Bool.and_false]; decide)] at hh
        exact hh
theorem nbsR (f : Nat → Nat → ByteArray) (T : Nat → Nat → Bool) (p : Nat) : ((List.range 10).reverse.filter (T p)).map (f p) = (nbs f T p).reverse := by unfold nbs; rw [List.filter_reverse, List.map_reverse]
/-- What is found at the places ahead of one, each place's from the last on. -/
def nbR (f : Nat → Nat → ByteArray) (T : Nat → Nat → Bool) (n : Nat) : List ByteArray := (List.range n).flatMap (fun p => (nbs f T p).reverse)
theorem nbR_len (f : Nat → Nat → ByteArray) (T : Nat → Nat → Bool) (n : Nat) : (nbR f T n).length ≤ 10 * n := fm_len _ (fun p => by rw [List.length_reverse]; exact nbs_len f T p) n
theorem nbR_succ (f : Nat → Nat → ByteArray) (T : Nat → Nat → Bool) (n : Nat) : nbR f T (n + 1) = nbR f T n ++ (nbs f T n).reverse := by
  unfold nbR
  rw [List.range_succ, List.flatMap_append]
  simp
theorem specNS_l0 {l : List Int} {m : Int} {s : ByteArray} (h : bth l m s = true) (r : List ByteArray × Bool) (hr : Ev (fun k => spec_NearSound.l2 k s (nbR (putS s) (nLo l m s) s.size) (nbR (putS s) (nHi l m s) s.size) [] 0) r) : ∀ e p : Nat, p + e = s.size →
    Ev (fun k => spec_NearSound.l0 k s (nbR (putS s) (nLo l m s) p) (nbR (putS s) (nHi l m s) p) (p : Int) l m) r
  | 0, p, hp => by
    obtain rfl : p = s.size := by omega
    exact Ev.step (fun _ => spec_NearSound.l0.eq_2 ..) (Ev.neg (by omega) hr)
  | e + 1, p, hp => by
    obtain ⟨h1, h2, h3, _, h5, h6, h7⟩ := bth_t h
    have l1 := nbR_len (putS s) (nLo l m s) p
    have l2 := nbR_len (putS s) (nHi l m s) p
    refine Ev.step (fun _ => spec_NearSound.l0.eq_2 ..) (Ev.pos (by omega) (specNS_l1 h p (by omega) r 10 _ _ (by omega) (by omega) (by omega) ?_))
    rw [nbsR, nbsR, ← nbR_succ, ← nbR_succ]
    exact specNS_l0 h r hr e (p + 1) (by omega)
/-- Those of some texts that differ from one at a place, from the last on. -/
def atP (xs : List ByteArray) (s : ByteArray) (p : Nat) : List ByteArray := xs.reverse.filter (fun t => !decide (bt t (p : Int) = bt s (p : Int)))
theorem slAt_l0 (xs : List ByteArray) (s : ByteArray) (p : Nat) (hp : p < s.size) (hx : ∀ t ∈ xs, t.size = s.size) (hl : xs.length ≤ 1000) : ∀ (j : Nat) (acc : List ByteArray), j ≤ xs.length → acc.length + j ≤ 1000 →
    Ev (fun k => spec_slAt.l0 k xs s (p : Int) acc ((j : Int) - 1)) (acc ++ atP (xs.take j) s p)
  | 0, acc, _, _ => Ev.step (fun _ => spec_slAt.l0.eq_2 ..) (Ev.neg (by omega) (Ev.eq (by simp [atP]) (Ev.now _)))
  | j + 1, acc, hj, hacc => by
    have e1 : ((j + 1 : Nat) : Int) - 1 = (j : Int) := by omega
    have e2 : wrap64 ((j : Int) - 1) = (j : Int) - 1 := w64 (by omega) (by omega)
    have hg : rdOf ByteArray.empty xs (j : Int) = xs[j]'(by omega) := by unfold rdOf; rw [Int.toNat_natCast, List.getD_eq_getElem?_getD, List.getElem?_eq_getElem (by omega)]; rfl
    have hsz : (xs[j]'(by omega)).size = s.size := hx _ (List.getElem_mem _)
    have ht : xs.take (j + 1) = xs.take j ++ [xs[j]'(by omega)] := by rw [List.take_add_one, List.getElem?_eq_getElem (by omega)]; rfl
    have ha : atP (xs.take (j + 1)) s p = (if bt (xs[j]'(by omega)) (p : Int) = bt s (p : Int) then [] else [xs[j]'(by omega)]) ++ atP (xs.take j) s p := by
      unfold atP
      rw [ht, List.reverse_append, List.reverse_singleton, List.singleton_append, List.filter_cons]
      split <;> simp_all
    refine Ev.step (fun _ => spec_slAt.l0.eq_2 ..) ?_
    rw [e1, hg]
    refine Ev.pos (by omega) (Ev.pos (by omega) (Ev.pos (by omega) (Ev.pos (by omega) (Ev.pos (by omega) (Ev.pos (by omega) ?_)))))
    rw [e2, ha]
    by_cases c : bt (xs[j]'(by omega)) (p : Int) = bt s (p : Int)
    · rw [if_pos c, List.nil_append]
      exact Ev.pos c (slAt_l0 xs s p hp hx hl j acc (by omega) (by omega))
    · rw [if_neg c, ← List.append_assoc]
      exact Ev.neg c (Ev.pos (by omega) (slAt_l0 xs s p hp hx hl j _ (by omega) (by rw [List.length_append, List.length_singleton]; omega)))
theorem slAt_f (xs : List ByteArray) (s : ByteArray) (p : Nat) (hp : p < s.size) (hx : ∀ t ∈ xs, t.size = s.size) (hl : xs.length ≤ 1000) : Ev (fun k => spec_slAt.f k xs s (p : Int)) (atP xs s p) := by
  have h := slAt_l0 xs s p hp hx hl xs.length [] (Nat.le_refl _) (by simpa using hl)
  rw [List.take_length, List.nil_append] at h
  unfold spec_slAt.f
  rw [w64 (by omega) (by omega)]
  exact h
/-! ## nearOut -/
theorem putS_at {s : ByteArray} {q d p : Nat} (hq : q < s.size) (hd : d < 10) (hp : p < s.size) (hne : q ≠ p) : bt (putS s q d) (p : Int) = bt s (p : Int) := by
  rw [bt_L, bt_L, L_putS s q d hq hd, List.getD_eq_getElem?_getD, List.getD_eq_getElem?_getD, List.getElem?_set_ne hne]
theorem putS_own {s : ByteArray} {p d : Nat} (hp : p < s.size) (hd : d < 10) (h : bt (putS s p d) (p : Int) = bt s (p : Int)) : putS s p d = s := by
  apply L_inj
  have h1 := L_putS s p d hp hd
  have h2 : (L (putS s p d))[p]? = (L s)[p]? := by rw [L_get _ _ (by rw [putS_size s p d hp hd]; exact hp), L_get _ _ hp, h]
  rw [h1]
  apply List.ext_getElem?
  intro j
  by_cases hj : j = p
  · subst hj; rw [← h1]; exact h2
  · rw [List.getElem?_set_ne (Ne.symm hj)]
theorem flat_one {β : Type} (X : Nat → List β) (p : Nat) : ∀ n, p < n → (List.range n).reverse.flatMap (fun q => if q = p then X q else []) = X p
  | 0, h => by omega
  | n + 1, h => by
    rw [List.range_succ, List.reverse_append, List.reverse_singleton, List.singleton_append, List.flatMap_cons]
    by_cases e : n = p
    · subst e
      rw [if_pos rfl]
      have : (List.range n).reverse.flatMap (fun q => if q = n then X q else []) = [] := by
        rw [List.flatMap_eq_nil_iff]
        intro q hq
        have := List.mem_range.1 (List.mem_reverse.1 hq)
        rw [if_neg (by omega)]
      rw [this, List.append_nil]
    · rw [if_neg e, List.nil_append]
      exact flat_one X p n (by omega)
theorem fm_congr {α β : Type} {f g : α → List β} : ∀ l : List α, (∀ x ∈ l, f x = g x) → l.flatMap f = l.flatMap g
  | [], _ => rfl
  | x :: l, h => by rw [List.flatMap_cons, List.flatMap_cons, h x List.mem_cons_self, fm_congr l (fun y hy => h y (List.mem_cons_of_mem _ hy))]
theorem atP_nbR {s : ByteArray} (T : Nat → Nat → Bool) (hT : ∀ p d, T p d = true → putS s p d ≠ s) (p : Nat) (hp : p < s.size) : atP (nbR (putS s) T s.size) s p = nbs (putS s) T p := by
  unfold atP nbR
  rw [List.reverse_flatMap, List.filter_flatMap]
  rw [← flat_one (nbs (putS s) T) p s.size hp]
  refine fm_congr _ (fun q hq => ?_)
  have hq' := List.mem_range.1 (List.mem_reverse.1 hq)
  simp only [Function.comp, List.reverse_reverse]
  by_cases e : q = p
  · subst e
    rw [if_pos rfl, List.filter_eq_self]
    intro t ht
    obtain ⟨d, hd, hU, rfl⟩ := mem_nbs ht
    rw [Bool.not_eq_true', decide_eq_false_iff_not]
    exact fun x => hT q d hU (putS_own hq' hd x)
  · rw [if_neg e, List.filter_eq_nil_iff]
    intro t ht
    obtain ⟨d, hd, hU, rfl⟩ := mem_nbs ht
    rw [decide_eq_true (putS_at hq' hd hp e)]
    decide
theorem nbR_size {s : ByteArray} (T : Nat → Nat → Bool) : ∀ t ∈ nbR (putS s) T s.size, t.size = s.size := by
  intro t ht
  obtain ⟨p, hp, h2⟩ := List.mem_flatMap.1 ht
  obtain ⟨d, hd, hU, rfl⟩ := mem_nbs (List.mem_reverse.1 h2)
  exact putS_size s p d (List.mem_range.1 hp) hd
theorem specNS_l3 (s : ByteArray) (lo hi : List ByteArray) (p : Nat) (hp : p < s.size) (hs : s.size ≤ 12) (X : List ByteArray) (hX : X.length ≤ 1000) (r : List ByteArray × Bool) : ∀ (e j : Nat) (out : List ByteArray), j + e = X.length → out.length + e ≤ 10000 →
    Ev (fun k => spec_NearSound.l2 k s lo hi (out ++ X.drop j) ((p + 1 : Nat) : Int)) r → Ev (fun k => spec_NearSound.l3 k s lo hi out (p : Int) X (X.length : Int) (j : Int)) r
  | 0, j, out, hj, _, h => by
    refine Ev.step (fun _ => spec_NearSound.l3.eq_2 ..) (Ev.neg (by omega) ?_)
    rw [wsucc (m := 12) (by omega) (by omega)]
    rw [List.drop_eq_nil_of_le (by omega), List.append_nil] at h
    exact h
  | e + 1, j, out, hj, ho, h => by
    have hg : rdOf ByteArray.empty X (j : Int) = X[j]'(by omega) := by unfold rdOf; rw [Int.toNat_natCast, List.getD_eq_getElem?_getD, List.getElem?_eq_getElem (by omega)]; rfl
    refine Ev.step (fun _ => spec_NearSound.l3.eq_2 ..) (Ev.pos (by omega) (Ev.pos (by omega) (Ev.pos (by omega) (Ev.pos (by omega) ?_))))
    rw [hg, wsucc (m := 1000) (by omega) (by omega)]
    refine specNS_l3 s lo hi p hp hs X hX r e (j + 1) _ (by omega) (by rw [List.length_append, List.length_singleton]; omega) ?_
    rw [List.append_assoc, List.singleton_append, ← List.drop_eq_getElem_cons]
    exact h
theorem specNS_l5 (s : ByteArray) (hi : List ByteArray) (p : Nat) (hp : p < s.size) (hs : s.size ≤ 12) (X : List ByteArray) (hX : X.length ≤ 1000) (r : List ByteArray × Bool) : ∀ (e j : Nat) (out : List ByteArray), j + e = X.length → out.length + e ≤ 10000 →
    Ev (fun k => spec_NearSound.l4 k s hi (out ++ X.drop j) ((p : Int) - 1)) r → Ev (fun k => spec_NearSound.l5 k s hi out (p : Int) X (X.length : Int) (j : Int)) r
  | 0, j, out, hj, _, h => by
    refine Ev.step (fun _ => spec_NearSound.l5.eq_2 ..) (Ev.neg (by omega) ?_)
    rw [w64 (x := (p : Int) - 1) (by omega) (by omega)]
    rw [List.drop_eq_nil_of_le (by omega), List.append_nil] at h
    exact h
  | e + 1, j, out, hj, ho, h => by
    have hg : rdOf ByteArray.empty X (j : Int) = X[j]'(by omega) := by unfold rdOf; rw [Int.toNat_natCast, List.getD_eq_getElem?_getD, List.getElem?_eq_getElem (by omega)]; rfl
    refine Ev.step (fun _ => spec_NearSound.l5.eq_2 ..) (Ev.pos (by omega) (Ev.pos (by omega) (Ev.pos (by omega) (Ev.pos (by omega) ?_))))
    rw [hg, wsucc (m := 1000) (by omega) (by omega)]
    refine specNS_l5 s hi p hp hs X hX r e (j + 1) _ (by omega) (by rw [List.length_append, List.length_singleton]; omega) ?_
    rw [List.append_assoc, List.singleton_append, ← List.drop_eq_getElem_cons]
    exact h
theorem specNS_l4 {s : ByteArray} (hs : s.size ≤ 12) (U : Nat → Nat → Bool) (hU : ∀ p d, U p d = true → putS s p d ≠ s) : ∀ (e : Nat) (out : List ByteArray), e ≤ s.size → out.length + 10 * e ≤ 9000 →
    Ev (fun k => spec_NearSound.l4 k s (nbR (putS s) U s.size) out ((e : Int) - 1)) (out ++ (List.range e).reverse.flatMap (nbs (putS s) U), true)
  | 0, out, _, _ => Ev.step (fun _ => spec_NearSound.l4.eq_2 ..) (Ev.neg (by omega) (Ev.eq (by simp) (Ev.now _)))
  | e + 1, out, he, ho => by
    have e1 : ((e + 1 : Nat) : Int) - 1 = (e : Int) := by omega
    have hl := nbR_len (putS s) U s.size
    have hn := nbs_len (putS s) U e
    refine Ev.step (fun _ => spec_NearSound.l4.eq_2 ..) ?_
    rw [e1]
    refine Ev.pos (by omega) (Ev.bind (slAt_f _ s e (by omega) (nbR_size U) (by omega)) ?_)
    rw [atP_nbR U hU e (by omega)]
    refine specNS_l5 s _ e (by omega) hs _ (by omega) _ (nbs (putS s) U e).length 0 out (by omega) (by omega) ?_
    rw [List.drop_zero, List.range_succ, List.reverse_append, List.reverse_singleton, List.singleton_append, List.flatMap_cons, ← List.append_assoc]
    exact specNS_l4 hs U hU e _ (by omega) (by rw [List.length_append]; omega)
theorem specNS_l2 {s : ByteArray} (hs : 1 ≤ s.size ∧ s.size ≤ 12) (T U : Nat → Nat → Bool) (hT : ∀ p d, T p d = true → putS s p d ≠ s) (hU : ∀ p d, U p d = true → putS s p d ≠ s) : ∀ e p : Nat, p + e = s.size →
    Ev (fun k => spec_NearSound.l2 k s (nbR (putS s) T s.size) (nbR (putS s) U s.size) ((List.range p).flatMap (nbs (putS s) T)) (p : Int)) ((List.range s.size).flatMap (nbs (putS s) T) ++ (List.range s.size).reverse.flatMap (nbs (putS s) U), true)
  | 0, p, hp => by
    obtain rfl : p = s.size := by omega
    have hl := fm_len (nbs (putS s) T) (nbs_len _ _) s.size
    refine Ev.step (fun _ => spec_NearSound.l2.eq_2 ..) (Ev.neg (by omega) ?_)
    rw [w64 (x := (s.size : Int) - 1) (by omega) (by omega)]
    exact specNS_l4 hs.2 U hU s.size _ (Nat.le_refl _) (by omega)
  | e + 1, p, hp => by
    have hl := nbR_len (putS s) T s.size
    have hn := nbs_len (putS s) T p
    have hl2 := fm_len (nbs (putS s) T) (nbs_len _ _) p
    refine Ev.step (fun _ => spec_NearSound.l2.eq_2 ..) (Ev.pos (by omega) (Ev.bind (slAt_f _ s p (by omega) (nbR_size T) (by omega)) ?_))
    rw [atP_nbR T hT p (by omega)]
    refine specNS_l3 s _ _ p (by omega) hs.2 _ (by omega) _ (nbs (putS s) T p).length 0 _ (by omega) (by omega) ?_
    have ih := specNS_l2 hs T U hT hU e (p + 1) (by omega)
    rw [List.range_succ, List.flatMap_append] at ih
    simp only [List.flatMap_cons, List.flatMap_nil, List.append_nil] at ih
    rw [List.drop_zero]
    exact ih
/-! ## FnExactNearSound -/
theorem putS_bytes (s : ByteArray) (p d : Nat) (hp : p < s.size) (hd : d < 10) : (putS s p d).data.toList = s.data.toList.set p (UInt8.ofNat (48 + d)) := by
  apply map_toNat_inj
  have h := L_putS s p d hp hd
  unfold L at h
  rw [h, List.map_set]
  congr 1
  rw [UInt8.toNat_ofNat']
  omega
def nsAns (l : List Int) (m : Int) (s : ByteArray) : List ByteArray × Bool := if bth l m s = true then (nearL (putS s) (nT l m s) (nC s) s.size, true) else ([], false)
theorem near_sorted_s (l : List Int) (m : Int) (s : ByteArray) : sortS ((List.range s.size).flatMap (nbs (putS s) (nT l m s))) = nearL (putS s) (nT l m s) (nC s) s.size := by
  refine sortS_eq (near_perm (putS s) (nT l m s) (nC s) s.size) ?_
  have hb : s.data.toList.length = s.size := by rw [Array.length_toList]; rfl
  have h := near_sorted (putS s) (nT l m s) (nC s) s.data.toList (fun p d hp hd => putS_bytes s p d (by rw [← hb]; exact hp) hd) ?_ ?_
  · rw [hb] at h; exact h
  · intro p d hd hc hT hp
    unfold nC at hc
    rw [ByteArray.toList_eq, ByteArray.toList_eq, putS_bytes s p d (by rw [← hb]; exact hp) hd, bl_set _ _ _ hp, decide_eq_true_eq] at hc
    exact hc
  · intro p d hd hc hT hp
    unfold nC at hc
    rw [ByteArray.toList_eq, ByteArray.toList_eq, putS_bytes s p d (by rw [← hb]; exact hp) hd, bl_set _ _ _ hp, decide_eq_false_iff_not] at hc
    have hne : UInt8.ofNat (48 + d) ≠ s.data.toList[p] := by
      intro e
      unfold nT at hT
      rw [Bool.and_eq_true, decide_eq_true_eq] at hT
      apply hT.1
      apply tl_eq.1
      rw [ByteArray.toList_eq, ByteArray.toList_eq, putS_bytes s p d (by rw [← hb]; exact hp) hd, e, List.set_getElem_self]
    rw [UInt8.lt_iff_toNat_lt] at hc ⊢
    have : (UInt8.ofNat (48 + d)).toNat ≠ s.data.toList[p].toNat := fun e => hne (UInt8.toNat_inj.1 e)
    omega
theorem implNS_f (l : List Int) (m : Int) (s : ByteArray) (hs : s.size ≤ 140737488351232) : Ev (fun k => impl_NearSound.f k l m s) (nsAns l m s) := by
  refine Ev.bind (isNumber_f l m s hs) ?_
  unfold nsAns
  by_cases h : bth l m s = true
  · rw [if_pos h, ← near_sorted_s]
    exact Ev.pos h (implNS_l0 h s.size 0 (by omega))
  · rw [if_neg h]; exact Ev.neg h (Ev.now _)
theorem specNS_f (l : List Int) (m : Int) (s : ByteArray) (hl : l.length ≤ 1048576) (hs : s.size ≤ 140737488351232) : Ev (fun k => spec_NearSound.f k l m s) (nsAns l m s) := by
  refine Ev.bind (slBoth_f l m s hl hs) ?_
  unfold nsAns
  by_cases h : bth l m s = true
  · obtain ⟨h1, h2, h3, _, h5, h6, h7⟩ := bth_t h
    rw [if_pos h]
    refine Ev.pos h (specNS_l0 h _ ?_ s.size 0 (by omega))
    have hn : ∀ p d, nT l m s p d = true → putS s p d ≠ s := fun p d hT => by unfold nT at hT; rw [Bool.and_eq_true, decide_eq_true_eq] at hT; exact hT.1
    exact specNS_l2 ⟨by omega, by omega⟩ (nLo l m s) (nHi l m s) (fun p d hT => hn p d (by unfold nLo at hT; rw [Bool.and_eq_true] at hT; exact hT.2)) (fun p d hT => hn p d (by unfold nHi at hT; rw [Bool.and_eq_true] at hT; exact hT.2)) s.size 0 (by omega)
  · rw [if_neg h]; exact Ev.neg h (Ev.now _)
theorem nsAns_len (l : List Int) (m : Int) (s : ByteArray) : (nsAns l m s).1.length ≤ 150 := by
  unfold nsAns
  by_cases h : bth l m s = true
  · obtain ⟨h1, h2, h3, _, h5, h6, h7⟩ := bth_t h
    rw [if_pos h, ← near_sorted_s, sortS_length]
    have := fm_len (nbs (putS s) (nT l m s)) (nbs_len _ _) s.size
    show ((List.range s.size).flatMap (nbs (putS s) (nT l m s))).length ≤ 150
    omega
  · rw [if_neg h]; simp
/-! marks -/
theorem ev_mono {α : Type} {g : Nat → Option α} (hm : ∀ k, LeO (g k) (g (k + 1))) {K : Nat} {a : α} (h : g K = some a) : Ev g a := ⟨K, fun n hn => by
  obtain ⟨d, rfl⟩ : ∃ d, n = K + d := ⟨n - K, by omega⟩
  clear hn
  induction d with
  | zero => exact h
  | succ d ih => exact hm _ _ ih⟩
def mkT (i : Nat) : ByteArray := (laws_markText.f 12 ((i : Int) + 1)).getD ByteArray.empty
theorem mk_all : (List.range 200).all (fun i => (laws_markText.f 12 ((i : Int) + 1)).isSome) = true := by kernel_rfl
theorem markText_f (i : Nat) (hi : i < 200) : Ev (fun k => laws_markText.f k (1 + (i : Int))) (mkT i) := by
  have h := List.all_eq_true.1 mk_all i (List.mem_range.2 hi)
  refine ev_mono (K := 12) (fun k => laws_markText.mono _ k) ?_
  rw [Int.add_comm]
  unfold mkT
  cases e : laws_markText.f 12 ((i : Int) + 1) with
  | none => rw [e] at h; cases h
  | some x => rfl
def mks (n : Nat) : List ByteArray := (List.range n).map mkT
theorem mks_len (n : Nat) : (mks n).length = n := by simp [mks]
theorem markStringS_l0 (xs : List ByteArray) (hx : xs.length ≤ 150) : ∀ e j : Nat, j + e = xs.length → Ev (fun k => laws_markStringS.l0 k (mks j ++ xs.drop j) (1 + (j : Int)) (j : Int)) (1 + (xs.length : Int), mks xs.length)
  | 0, j, h => by
    obtain rfl : j = xs.length := by omega
    have hl : (mks xs.length ++ xs.drop xs.length).length = xs.length := by rw [List.drop_length, List.append_nil, mks_len]
    refine Ev.step (fun _ => laws_markStringS.l0.eq_2 ..) (Ev.neg (by rw [hl]; omega) (Ev.eq ?_ (Ev.now _)))
    rw [List.drop_length, List.append_nil]
  | e + 1, j, h => by
    have hl : (mks j ++ xs.drop j).length = xs.length := by rw [List.length_append, mks_len, List.length_drop]; omega
    refine Ev.step (fun _ => laws_markStringS.l0.eq_2 ..) ?_
    rw [hl]
    refine Ev.pos (by omega) (Ev.bind (markText_f j (by omega)) (Ev.pos (by omega) ?_))
    rw [Int.toNat_natCast, w64 (x := 1 + (j : Int) + 1) (by omega) (by omega), wsucc (m := 200) (by omega) (by omega)]
    have e1 : (mks j ++ xs.drop j).set j (mkT j) = mks (j + 1) ++ xs.drop (j + 1) := by
      rw [List.set_append_right _ _ (by rw [mks_len]; omega), mks_len, Nat.sub_self, List.drop_eq_getElem_cons (show j < xs.length by omega), List.set_cons_zero]
      unfold mks
      rw [List.range_succ, List.map_append, List.append_assoc]
      rfl
    rw [e1, show 1 + (j : Int) + 1 = 1 + ((j + 1 : Nat) : Int) by omega]
    exact markStringS_l0 xs hx e (j + 1) (by omega)
theorem markStringS_f (xs : List ByteArray) (hx : xs.length ≤ 150) : Ev (fun k => laws_markStringS.f k xs 1) (1 + (xs.length : Int), mks xs.length) := markStringS_l0 xs hx xs.length 0 (by omega)
theorem heldStringS_l0 (n : Nat) (hn : n ≤ 150) : ∀ e j : Nat, j + e = n → Ev (fun k => laws_heldStringS.l0 k (mks n) (1 + (j : Int)) (j : Int)) (1 + (n : Int))
  | 0, j, h => by
    obtain rfl : j = n := by omega
    exact Ev.step (fun _ => laws_heldStringS.l0.eq_2 ..) (Ev.neg (by rw [mks_len]; omega) (Ev.now _))
  | e + 1, j, h => by
    have hg : rdOf ByteArray.empty (mks n) (j : Int) = mkT j := by unfold rdOf mks; rw [Int.toNat_natCast, List.getD_eq_getElem?_getD, List.getElem?_map, List.getElem?_range (by omega)]; rfl
    refine Ev.step (fun _ => laws_heldStringS.l0.eq_2 ..) ?_
    rw [mks_len, hg]
    refine Ev.pos (by omega) (Ev.pos (by omega) (Ev.bind (markText_f j (by omega)) (Ev.pos rfl ?_)))
    rw [w64 (x := 1 + (j : Int) + 1) (by omega) (by omega), wsucc (m := 200) (by omega) (by omega), show 1 + (j : Int) + 1 = 1 + ((j + 1 : Nat) : Int) by omega]
    exact heldStringS_l0 n hn e (j + 1) (by omega)
theorem heldStringS_f (n : Nat) (hn : n ≤ 150) : Ev (fun k => laws_heldStringS.f k (mks n) 1) (1 + (n : Int)) := heldStringS_l0 n hn n 0 (by omega)
theorem eqStringS_l0 (xs : List ByteArray) (hx : xs.length ≤ 150) : ∀ e j : Nat, j + e = xs.length → Ev (fun k => laws_eqStringS.l0 k xs xs (j : Int)) true
  | 0, j, h => Ev.step (fun _ => laws_eqStringS.l0.eq_2 ..) (Ev.neg (by omega) (Ev.now _))
  | e + 1, j, h => by
    refine Ev.step (fun _ => laws_eqStringS.l0.eq_2 ..) (Ev.pos (by omega) (Ev.pos (by omega) (Ev.pos (by omega) (Ev.pos rfl ?_))))
    rw [wsucc (m := 200) (by omega) (by omega)]
    exact eqStringS_l0 xs hx e (j + 1) (by omega)
theorem eqStringS_f (xs : List ByteArray) (hx : xs.length ≤ 150) : Ev (fun k => laws_eqStringS.f k xs xs) true := Ev.pos rfl (eqStringS_l0 xs hx xs.length 0 (by omega))
theorem FnExactNearSound : laws_FnExactNearSound.Pure := by
  intro l m s hl _ _ hs
  refine Ev.rounds (g := fun k => laws_FnExactNearSound.f k l m s) ?_
  unfold laws_FnExactNearSound.f
  by_cases b1 : (s.size : Int) > 1048576
  · exact Ev.pos b1 (Ev.now _)
  · refine Ev.neg b1 (Ev.sm (szCheck_f l m hl) ?_)
    by_cases h : 1048576 - (l.length : Int) < 0
    · rw [if_pos h]; exact Ev.pos (by decide) (Ev.now _)
    · rw [if_neg h]
      have hl' : l.length ≤ 1048576 := by omega
      have hr := nsAns_len l m s
      have he : Ev (fun k => laws_eqStringS.f k (nsAns l m s).1 (nsAns l m s).1) true := eqStringS_f _ hr
      refine Ev.neg h (Ev.bind (toCheck_f l m hl') (Ev.bind (specNS_f l m s hl' hs) (Ev.bind (toCheck_f l m hl') (Ev.bind (implNS_f l m s hs) (Ev.bind he (Ev.pos rfl ?_))))))
      refine Ev.step (fun _ => laws_FnExactNearSound.j0.eq_2 ..) (Ev.neg (by simp) (Ev.bind (toCheck_f l m hl') (Ev.bind (eqCheck_f l m hl') (Ev.pos rfl (Ev.bind (markCheck_f l m 1 (by omega) (by omega)) (Ev.neg (by show ¬ (1 + (l.length : Int) < 0); omega) (Ev.bind he (Ev.pos rfl ?_))))))))
      refine Ev.step (fun _ => laws_FnExactNearSound.j1.eq_2 ..) (Ev.neg (by simp) (Ev.bind (markStringS_f _ hr) (Ev.bind (heldStringS_f _ hr) (Ev.neg (by omega) (Ev.pos rfl (Ev.bind (toCheck_f l m hl') (Ev.bind (implNS_f l m s hs) (Ev.bind he (Ev.pos rfl ?_)))))))))
      exact Ev.step (fun _ => laws_FnExactNearSound.j2.eq_2 ..) (Ev.neg (by simp) (Ev.bind (heldStringS_f _ hr) (Ev.neg (by omega) (Ev.pos rfl (Ev.now _)))))

end Go.Proofs.YthkjedplcebpjacDoor.Pure
