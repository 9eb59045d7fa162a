/- The plain law of FnExactFillUnread: at all arguments the printed function of the law answers true after some number of rounds. Conditions: none beyond the bounds that the printed statement itself bears. -/
import Derived.Test.YthkjedplcebpjafDoorQFnExactFillUnreadx6
namespace Go.Proofs.YthkjedplcebpjafDoor.Pure
open Go.RowKit Go.Proofs.YthkjedplcebpjafDoor.QFnExactFillUnread Go.Proofs.YthkjedplcebpjafDoorW.PrintWords Go.Proofs.YthkjedplcebpjafDoorW.PrintLast Go.Proofs.YthkjedplcebpjafDoorW.PrintMore Go.Proofs.YthkjedplcebpjafDoor.Ext
set_option linter.unusedVariables false

def laws_FnExactFillUnread.Pure : Prop := ∀ (l0_0 : List Int) (a0_1 : Int) (a1 : ByteArray), l0_0.length ≤ 9223372036854775807 → (∀ x ∈ l0_0, (Lit.int .i64 x).wf = true) → (Lit.int .i64 a0_1).wf = true → a1.size ≤ 140737488351232 → ∃ k, laws_FnExactFillUnread.f k l0_0 a0_1 a1 = some true
/-! ## base -/
/-! numbers in 64 bits -/
theorem w64 {x : Int} (h1 : -9223372036854775808 ≤ x) (h2 : x ≤ 9223372036854775807) : wrap64 x = x := by unfold wrap64; omega
theorem w64n {x : Nat} (h2 : x ≤ 9223372036854775807) : wrap64 (x : Int) = (x : Int) := w64 (by omega) (by omega)
theorem wf64 {x : Int} (h : (Lit.int .i64 x).wf = true) : -9223372036854775808 ≤ x ∧ x ≤ 9223372036854775807 := by
  have hmin : IntKind.i64.min = -9223372036854775808 := rfl
  have hmax : IntKind.i64.max = 9223372036854775807 := rfl
  simp only [Lit.wf, Bool.and_eq_true, decide_eq_true_eq, hmin, hmax] at h
  exact h
theorem tmodN (a b : Nat) : Int.tmod (a : Int) (b : Int) = ((a % b : Nat) : Int) := rfl
theorem tdivN (a b : Nat) : Int.tdiv (a : Int) (b : Int) = ((a / b : Nat) : Int) := rfl
theorem tmod_nn {a b : Int} (h : 0 ≤ a) : Int.tmod a b = a % b := Int.tmod_eq_emod_of_nonneg h
theorem tdiv_nn {a b : Int} (h : 0 ≤ a) : Int.tdiv a b = a / b := Int.tdiv_eq_ediv_of_nonneg h
/-! from some number of rounds on -/
theorem Ev.pos {α : Type} {c : Prop} [Decidable c] {f g : Nat → Option α} {r : α} (h : c) (e : Ev f r) : Ev (fun k => if c then f k else g k) r := by simpa only [if_pos h] using e
theorem Ev.neg {α : Type} {c : Prop} [Decidable c] {f g : Nat → Option α} {r : α} (h : ¬ c) (e : Ev g r) : Ev (fun k => if c then f k else g k) r := by simpa only [if_neg h] using e
theorem Ev.sm {α β : Type} {f : Nat → α → Option β} {a : α} {o : Option α} {r : β} (h : o = some a) (e : Ev (fun n => f n a) r) : Ev (fun n => o.bind (f n)) r := by subst h; simpa only [Option.bind_some] using e
theorem Ev.eq {α : Type} {f : Nat → Option α} {r r' : α} (h : r' = r) (e : Ev f r) : Ev f r' := h ▸ e
theorem Ev.of_some {α : Type} {o : Option α} {r : α} (h : o = some r) : Ev (fun _ => o) r := ⟨0, fun _ _ => h⟩
theorem Ev.uniq {α : Type} {g : Nat → Option α} {r q : α} (h : Ev g r) (h' : Ev g q) : r = q := by
  obtain ⟨K, h⟩ := h
  obtain ⟨K', h'⟩ := h'
  have := (h (max K K') (by omega)).symm.trans (h' (max K K') (by omega))
  exact Option.some.inj this
/-! a string as a list of numbers -/
def L (s : ByteArray) : List Int := s.data.toList.map (fun c => (c.toNat : Int))
theorem L_length (s : ByteArray) : (L s).length = s.size := by simp [L]
theorem bt_lo (s : ByteArray) (i : Int) : 0 ≤ bt s i := by unfold bt; split <;> omega
theorem bt_hi (s : ByteArray) (i : Int) : bt s i ≤ 255 := by
  unfold bt; split
  · have := UInt8.toNat_lt (s[i.toNat]); omega
  · omega
theorem bt_L (s : ByteArray) (n : Nat) : bt s (n : Int) = (L s).getD n 0 := by
  unfold bt L
  by_cases h : n < s.size
  · simp [h, List.getD_eq_getElem?_getD]; rfl
  · simp [h, List.getD_eq_getElem?_getD]
theorem L_get (s : ByteArray) (n : Nat) (h : n < s.size) : (L s)[n]? = some (bt s n) := by
  rw [bt_L, List.getD_eq_getElem?_getD]
  have : n < (L s).length := by rw [L_length]; exact h
  simp [this]
theorem L_mem {s : ByteArray} {c : Int} (h : c ∈ L s) : 0 ≤ c ∧ c ≤ 255 := by
  unfold L at h
  obtain ⟨u, _, rfl⟩ := List.mem_map.1 h
  have := UInt8.toNat_lt u
  omega
theorem map_toNat_inj : ∀ (l m : List UInt8), l.map (fun c => (c.toNat : Int)) = m.map (fun c => (c.toNat : Int)) → l = m
  | [], [], _ => rfl
  | [], _ :: _, h => by simp at h
  | _ :: _, [], h => by simp at h
  | a :: l, b :: m, h => by
    simp only [List.map_cons, List.cons.injEq] at h
    have h1 : a = b := by apply UInt8.toNat_inj.1; omega
    rw [h1, map_toNat_inj l m h.2]
theorem L_inj {s t : ByteArray} (h : L s = L t) : s = t := by
  have := map_toNat_inj _ _ h
  cases s; cases t
  congr 1
  exact Array.toList_inj.1 this
theorem toList_L {s t : ByteArray} : s.data.toList = t.data.toList ↔ L s = L t := by
  constructor
  · intro h; unfold L; rw [h]
  · intro h; exact map_toNat_inj _ _ h
theorem L_append (s t : ByteArray) : L (s ++ t) = L s ++ L t := by
  unfold L
  rw [ByteArray.data_append]
  simp
/-- The rest of a list from a place on. -/
theorem drop_cons {α : Type} {l : List α} {n : Nat} {c : α} {t : List α} (h : l.drop n = c :: t) : n < l.length ∧ l[n]? = some c ∧ l.drop (n + 1) = t := by
  have h1 : n < l.length := by
    by_cases h1 : n < l.length
    · exact h1
    · rw [List.drop_eq_nil_of_le (by omega)] at h; cases h
  rw [List.drop_eq_getElem_cons h1] at h
  simp only [List.cons.injEq] at h
  exact ⟨h1, by rw [List.getElem?_eq_getElem h1, h.1], h.2⟩
theorem drop_nil {α : Type} {l : List α} {n : Nat} (h : l.drop n = []) : l.length ≤ n := by simpa using h
theorem sdrop_cons {s : ByteArray} {n : Nat} {c : Int} {t : List Int} (h : (L s).drop n = c :: t) : n < s.size ∧ bt s n = c ∧ (L s).drop (n + 1) = t := by
  obtain ⟨h1, h2, h3⟩ := drop_cons h
  rw [L_length] at h1
  rw [L_get s n h1] at h2
  exact ⟨h1, Option.some.inj h2, h3⟩
theorem sdrop_nil {s : ByteArray} {n : Nat} (h : (L s).drop n = []) : s.size ≤ n := by have := drop_nil h; rwa [L_length] at this
theorem wsucc {n m : Nat} (h : n < m) (hm : m ≤ 140737488355328) : wrap64 ((n : Int) + 1) = ((n + 1 : Nat) : Int) := by rw [w64 (by omega) (by omega)]; rfl
/-! digits -/
def isD (c : Int) : Bool := decide (48 ≤ c) && decide (c ≤ 57)
theorem isD_t {c : Int} : isD c = true ↔ 48 ≤ c ∧ c ≤ 57 := by simp [isD]
theorem isD_f {c : Int} : isD c = false ↔ c < 48 ∨ 57 < c := by
  rw [← Bool.not_eq_true, isD_t]; omega
theorem dig_mod {c : Int} (h : isD c = true) : (c - 48) % 256 = c - 48 := by rw [isD_t] at h; omega
/-! ## tab -/
/-! a list told by a function of its places -/
def tab (n : Nat) (f : Nat → Int) : List Int := (List.range n).map f
theorem tab_length (n : Nat) (f : Nat → Int) : (tab n f).length = n := by simp [tab]
theorem tab_get {n : Nat} {f : Nat → Int} {i : Nat} (h : i < n) : (tab n f)[i]? = some (f i) := by simp [tab, h]
theorem rd_tab {n : Nat} {f : Nat → Int} {i : Nat} (h : i < n) : rd (tab n f) (i : Int) = f i := by
  unfold rd; rw [Int.toNat_natCast, List.getD_eq_getElem?_getD, tab_get h]; rfl
theorem tab_congr {n : Nat} {f g : Nat → Int} (h : ∀ j, j < n → f j = g j) : tab n f = tab n g := by
  unfold tab; exact List.map_congr_left (fun j hj => h j (List.mem_range.1 hj))
theorem set_tab {n : Nat} {f : Nat → Int} (i : Nat) (v : Int) : (tab n f).set i v = tab n (fun j => if j = i then v else f j) := by
  apply List.ext_getElem?
  intro j
  rw [List.getElem?_set]
  by_cases hj : j < n
  · rw [tab_get (f := fun j => if j = i then v else f j) hj]
    by_cases e : i = j
    · subst e; rw [if_pos rfl, if_pos (by rw [tab_length]; exact hj), if_pos rfl]
    · rw [if_neg e, tab_get hj, if_neg (fun h => e h.symm)]
  · have h1 : (tab n f)[j]? = none := List.getElem?_eq_none (by rw [tab_length]; omega)
    have h2 : (tab n (fun j => if j = i then v else f j))[j]? = none := List.getElem?_eq_none (by rw [tab_length]; omega)
    rw [h1, h2]
    by_cases e : i = j
    · subst e; rw [if_pos rfl, if_neg (by rw [tab_length]; exact hj)]
    · rw [if_neg e]
theorem rep_tab (n : Nat) : List.replicate n (0 : Int) = tab n (fun _ => 0) := by
  apply List.ext_getElem?
  intro j
  by_cases hj : j < n
  · rw [tab_get hj]; simp [hj]
  · rw [List.getElem?_eq_none (by simp; omega), List.getElem?_eq_none (by rw [tab_length]; omega)]
theorem tab_one (v : Int) : [v] = tab 1 (fun _ => v) := rfl
/-! ## l1In -/
theorem l1In_f (a b c : Int) : spec_l1In.f a b c = some (decide (b ≤ a) && decide (a ≤ c)) := by
  unfold spec_l1In.f; by_cases h : b ≤ a <;> simp [h]
/-! ## check -/
theorem rd_nat (l : List Int) (n : Nat) : rd l (n : Int) = l.getD n 0 := by unfold rd; rw [Int.toNat_natCast]
theorem tab_self (l : List Int) : tab l.length (fun j => rd l (j : Int)) = l := by
  apply List.ext_getElem?
  intro j
  by_cases hj : j < l.length
  · rw [tab_get hj, List.getElem?_eq_getElem hj, rd_nat, List.getD_eq_getElem?_getD, List.getElem?_eq_getElem hj]; rfl
  · rw [List.getElem?_eq_none (by rw [tab_length]; omega), List.getElem?_eq_none (by omega)]
theorem toIntS_l0 (l : List Int) (hl : l.length ≤ 1048576) : ∀ d n : Nat, n + d = l.length →
    Ev (fun k => laws_toIntS.l0 k l (tab l.length (fun j => if j < n then rd l (j : Int) else 0)) (n : Int)) l
  | 0, n, h => by
    refine Ev.step (fun _ => laws_toIntS.l0.eq_2 ..) (Ev.neg (by omega) (Ev.eq ?_ (Ev.now _)))
    rw [tab_congr (g := fun j => rd l (j : Int)) (fun j hj => if_pos (by omega)), tab_self]
  | d + 1, n, h => by
    refine Ev.step (fun _ => laws_toIntS.l0.eq_2 ..) (Ev.pos (by omega) (Ev.pos (by omega) ?_))
    rw [tab_length, Int.toNat_natCast, set_tab, wsucc (m := l.length) (by omega) (by omega)]
    refine Ev.pos (by omega) ?_
    rw [tab_congr (g := fun j => if j < n + 1 then rd l (j : Int) else 0)]
    · exact toIntS_l0 l hl d (n + 1) (by omega)
    · intro j _
      by_cases e : j = n
      · subst e; rw [if_pos rfl, if_pos (by omega)]
      · rw [if_neg e]
        by_cases e2 : j < n
        · rw [if_pos e2, if_pos (by omega)]
        · rw [if_neg e2, if_neg (by omega)]
theorem toIntS_f (l : List Int) (hl : l.length ≤ 1048576) : Ev (fun k => laws_toIntS.f k l) l := by
  have h := toIntS_l0 l hl l.length 0 (by omega)
  rw [tab_congr (g := fun _ => 0) (fun j _ => if_neg (by omega)), ← rep_tab] at h
  refine Ev.pos (by omega) (Ev.pos (by rw [Int.toNat_natCast]; omega) ?_)
  rw [Int.toNat_natCast]
  exact h
theorem toCheck_f (l : List Int) (m : Int) (hl : l.length ≤ 1048576) : Ev (fun k => laws_toCheck.f k l m) (l, m) := Ev.bind (toIntS_f l hl) (Ev.now _)
theorem eqIntS_l0 (l : List Int) (hl : l.length ≤ 1048576) : ∀ d n : Nat, n + d = l.length → Ev (fun k => laws_eqIntS.l0 k l l (n : Int)) true
  | 0, n, h => Ev.step (fun _ => laws_eqIntS.l0.eq_2 ..) (Ev.neg (by omega) (Ev.now _))
  | d + 1, n, h => by
    refine Ev.step (fun _ => laws_eqIntS.l0.eq_2 ..) (Ev.pos (by omega) (Ev.pos (by omega) (Ev.pos (by omega) (Ev.pos rfl ?_))))
    rw [wsucc (m := l.length) (by omega) (by omega)]
    exact eqIntS_l0 l hl d (n + 1) (by omega)
theorem eqIntS_f (l : List Int) (hl : l.length ≤ 1048576) : Ev (fun k => laws_eqIntS.f k l l) true := Ev.pos rfl (eqIntS_l0 l hl l.length 0 (by omega))
theorem eqCheck_f (l : List Int) (m : Int) (hl : l.length ≤ 1048576) : Ev (fun k => laws_eqCheck.f k l m l m) true := Ev.bind (eqIntS_f l hl) (Ev.pos rfl (Ev.pos rfl (Ev.now _)))
theorem szCheck_f (l : List Int) (m : Int) (hl : l.length ≤ 9223372036854775807) : laws_szCheck.f l m 1048576 = some (if 1048576 - (l.length : Int) < 0 then -1 else 1048576 - (l.length : Int)) := by
  unfold laws_szCheck.f laws_szIntS.f
  rw [w64 (by omega) (by omega)]
  by_cases h : 1048576 - (l.length : Int) < 0
  · rw [if_pos h, if_pos h]; rfl
  · rw [if_neg h, if_neg h, Option.bind_some, if_neg h]
/-! ## slGood -/
/-- Is it a check. -/
def chk (l : List Int) (m : Int) : Bool := ((decide ((2 : Int) ≤ l.length) && decide ((l.length : Int) ≤ 12)) && (decide (2 ≤ m) && decide (m ≤ 11))) && l.all (fun x => decide (0 ≤ x) && decide (x ≤ m - 1))
theorem IsCheck_f (l : List Int) (m : Int) : impl_IsCheck.f l m = some (chk l m) := rfl
theorem chk_t {l : List Int} {m : Int} (h : chk l m = true) : 2 ≤ l.length ∧ l.length ≤ 12 ∧ 2 ≤ m ∧ m ≤ 11 ∧ ∀ x ∈ l, 0 ≤ x ∧ x ≤ m - 1 := by
  unfold chk at h
  simp only [Bool.and_eq_true, decide_eq_true_eq, List.all_eq_true] at h
  obtain ⟨⟨⟨h1, h2⟩, h3, h4⟩, h5⟩ := h
  exact ⟨by omega, by omega, h3, h4, h5⟩
theorem l1All_l0 (l : List Int) (lo hi : Int) (hl : l.length ≤ 1048576) : ∀ (t : List Int) (n : Nat), l.drop n = t →
    Ev (fun k => spec_l1All.l0 k lo hi l (l.length : Int) (n : Int)) (t.all (fun x => decide (lo ≤ x) && decide (x ≤ hi)))
  | [], n, h => Ev.step (fun _ => spec_l1All.l0.eq_2 ..) (Ev.neg (by have := drop_nil h; omega) (Ev.now _))
  | c :: t, n, h => by
    obtain ⟨h1, h2, h3⟩ := drop_cons h
    have hr : rd l (n : Int) = c := by rw [rd_nat, List.getD_eq_getElem?_getD, h2]; rfl
    refine Ev.step (fun _ => spec_l1All.l0.eq_2 ..) (Ev.pos (by omega) (Ev.pos (by omega) (Ev.pos (by omega) (Ev.sm (l1In_f _ _ _) ?_))))
    rw [hr, wsucc h1 (by omega), List.all_cons]
    cases hq : (decide (lo ≤ c) && decide (c ≤ hi)) with
    | true => exact Ev.pos rfl (l1All_l0 l lo hi hl t (n + 1) h3)
    | false => exact Ev.neg (by decide) (Ev.now _)
theorem slGood_f (l : List Int) (m : Int) (hl : l.length ≤ 1048576) : Ev (fun k => spec_slGood.f k l m) (chk l m) := by
  unfold chk
  refine Ev.sm (l1In_f _ _ _) ?_
  cases h1 : (decide ((2 : Int) ≤ l.length) && decide ((l.length : Int) ≤ 12)) with
  | false => exact Ev.neg (by decide) (Ev.now _)
  | true =>
    refine Ev.pos rfl (Ev.sm (l1In_f _ _ _) ?_)
    cases h2 : (decide ((2 : Int) ≤ m) && decide (m ≤ 11)) with
    | false => exact Ev.neg (by decide) (Ev.now _)
    | true =>
      simp only [Bool.and_eq_true, decide_eq_true_eq] at h2
      refine Ev.pos rfl ?_
      rw [w64 (x := m - 1) (by omega) (by omega)]
      exact Ev.bind (l1All_l0 l 0 (m - 1) hl l 0 rfl) (Ev.now _)
/-! ## bothD -/
/-- Are there a check and a number of it. -/
def bth (l : List Int) (m : Int) (s : ByteArray) : Bool := chk l m && ((L s).all isD && decide (s.size = l.length))
theorem bth_t {l : List Int} {m : Int} {s : ByteArray} (h : bth l m s = true) : l.length ≤ 12 ∧ 2 ≤ l.length ∧ 2 ≤ m ∧ m ≤ 11 ∧ (∀ x ∈ l, 0 ≤ x ∧ x ≤ 11) ∧ (L s).all isD = true ∧ s.size = l.length := by
  unfold bth at h
  simp only [Bool.and_eq_true, decide_eq_true_eq] at h
  obtain ⟨h1, h2, h3⟩ := h
  obtain ⟨c1, c2, c3, c4, c5⟩ := chk_t h1
  exact ⟨c2, c1, c3, c4, fun x hx => by have := c5 x hx; omega, h2, h3⟩
/-! ## within -/
theorem within_f (a b c : Int) : impl_within.f a b c = some (decide (b ≤ a) && decide (a ≤ c)) := by
  unfold impl_within.f; by_cases h : b ≤ a <;> simp [h]
/-! ## areDigits -/
theorem areDigits_l0 (s : ByteArray) (lo hi : Int) (hs : s.size ≤ 140737488351232) : ∀ (l : List Int) (n : Nat), (L s).drop n = l →
    Ev (fun k => impl_areDigits.l0 k s lo hi (s.size : Int) (n : Int)) (l.all isD && (decide (lo ≤ s.size) && decide ((s.size : Int) ≤ hi))) := by
  intro l
  induction l with
  | nil =>
    intro n h
    have h1 := sdrop_nil h
    refine Ev.step (impl_areDigits.l0.eq_2 s lo hi (s.size : Int) (n : Int)) ?_
    refine Ev.neg (by omega) (Ev.sm (within_f _ _ _) (Ev.eq ?_ (Ev.now _)))
    simp
  | cons c t ih =>
    intro n h
    obtain ⟨h1, h2, h3⟩ := sdrop_cons h
    refine Ev.step (impl_areDigits.l0.eq_2 s lo hi (s.size : Int) (n : Int)) (Ev.pos (by omega) (Ev.pos (by omega) (Ev.pos (by omega) ?_)))
    rw [h2, wsucc h1 (by omega)]
    by_cases hc : isD c = true
    · have hc' := isD_t.1 hc
      refine Ev.neg (by omega) (Ev.neg (by omega) (Ev.eq ?_ (ih (n + 1) h3)))
      simp [hc]
    · have hc' := isD_f.1 (by simpa using hc)
      by_cases h48 : c < 48
      · exact Ev.pos h48 (Ev.eq (by simp [hc]) (Ev.now _))
      · exact Ev.neg h48 (Ev.pos (by omega) (Ev.eq (by simp [hc]) (Ev.now _)))
theorem areDigits_f (s : ByteArray) (lo hi : Int) (hs : s.size ≤ 140737488351232) :
    Ev (fun k => impl_areDigits.f k s lo hi) ((L s).all isD && (decide (lo ≤ s.size) && decide ((s.size : Int) ≤ hi))) :=
  areDigits_l0 s lo hi hs (L s) 0 rfl
/-! ## bothI -/
theorem isNumber_f (l : List Int) (m : Int) (s : ByteArray) (hs : s.size ≤ 140737488351232) : Ev (fun k => impl_isNumber.f k l m s) (bth l m s) := by
  refine Ev.sm (IsCheck_f l m) ?_
  unfold bth
  cases hc : chk l m with
  | false => exact Ev.neg (by decide) (Ev.now _)
  | true =>
    refine Ev.pos rfl (Ev.bind (areDigits_f s _ _ hs) (Ev.eq ?_ (Ev.now _)))
    by_cases hz : s.size = l.length
    · rw [decide_eq_true hz, decide_eq_true (show (l.length : Int) ≤ s.size by omega), decide_eq_true (show (s.size : Int) ≤ l.length by omega)]; simp
    · have : (decide ((l.length : Int) ≤ s.size) && decide ((s.size : Int) ≤ l.length)) = false := by simp; omega
      rw [decide_eq_false hz, this]; simp
/-! ## slDigits -/
theorem slDigits_l0 (s : ByteArray) (hs : s.size ≤ 140737488351232) : ∀ (l : List Int) (n : Nat), (L s).drop n = l →
    Ev (fun k => spec_slDigits.l0 k s (n : Int)) (l.all isD) := by
  intro l
  induction l with
  | nil =>
    intro n h
    have h1 := sdrop_nil h
    exact Ev.step (spec_slDigits.l0.eq_2 s (n : Int)) (Ev.neg (by omega) (Ev.now _))
  | cons c t ih =>
    intro n h
    obtain ⟨h1, h2, h3⟩ := sdrop_cons h
    refine Ev.step (spec_slDigits.l0.eq_2 s (n : Int)) (Ev.pos (by omega) (Ev.pos (by omega) ?_))
    rw [h2, wsucc h1 (by omega)]
    by_cases hc : isD c = true
    · have hc' := isD_t.1 hc
      refine Ev.neg (by omega) (Ev.neg (by omega) (Ev.eq ?_ (ih (n + 1) h3)))
      simp [hc]
    · have hc' := isD_f.1 (by simpa using hc)
      by_cases h48 : c < 48
      · exact Ev.pos h48 (Ev.eq (by simp [hc]) (Ev.now _))
      · exact Ev.neg h48 (Ev.pos (by omega) (Ev.eq (by simp [hc]) (Ev.now _)))
theorem slDigits_f (s : ByteArray) (hs : s.size ≤ 140737488351232) :
    Ev (fun k => spec_slDigits.f k s) ((L s).all isD && (decide ((1 : Int) ≤ s.size) && decide ((s.size : Int) ≤ 12))) := by
  refine Ev.sm (l1In_f _ _ _) ?_
  by_cases h : (decide ((1 : Int) ≤ s.size) && decide ((s.size : Int) ≤ 12)) = true
  · exact Ev.pos h (Ev.eq (by rw [h, Bool.and_true]) (slDigits_l0 s hs (L s) 0 rfl))
  · exact Ev.neg h (Ev.eq (by rw [Bool.not_eq_true] at h; rw [h, Bool.and_false]) (Ev.now _))
/-! ## str -/
theorem tl_eq {s t : ByteArray} : s.toList = t.toList ↔ s = t := by
  rw [ByteArray.toList_eq, ByteArray.toList_eq, toList_L]
  exact ⟨L_inj, fun h => by rw [h]⟩
theorem L_extract (s : ByteArray) (a b : Nat) : L (s.extract a b) = ((L s).take b).drop a := by
  unfold L
  rw [ByteArray.data_extract]
  simp [List.map_drop, List.map_take, List.drop_take]
theorem L_nil : L (⟨#[]⟩ : ByteArray) = [] := rfl
theorem size_L (s : ByteArray) : s.size = (L s).length := (L_length s).symm
theorem size_ext (s : ByteArray) (a b : Nat) : (s.extract a b).size = min b s.size - a := by rw [size_L, L_extract, List.length_drop, List.length_take, L_length]
theorem size_app (s t : ByteArray) : (s ++ t).size = s.size + t.size := by rw [size_L, L_append, List.length_append, L_length, L_length]
/-! ## sumW -/
/-- The sum of digits, each times its weight. -/
def sumW : List Int → List Int → Int
  | w :: ws, d :: ds => w * (d - 48) + sumW ws ds
  | _, _ => 0
theorem term_bd {w d : Int} (hw : 0 ≤ w ∧ w ≤ 11) (hd : isD d = true) : 0 ≤ w * (d - 48) ∧ w * (d - 48) ≤ 99 := by
  have hd' := isD_t.1 hd
  have h1 : 0 ≤ w * (d - 48) := Int.mul_nonneg hw.1 (by omega)
  have h2 : w * (d - 48) ≤ 11 * (d - 48) := Int.mul_le_mul_of_nonneg_right hw.2 (by omega)
  omega
theorem sumW_bd : ∀ (ws ds : List Int), (∀ x ∈ ws, 0 ≤ x ∧ x ≤ 11) → ds.all isD = true → 0 ≤ sumW ws ds ∧ sumW ws ds ≤ 99 * ws.length
  | [], _, _, _ => by simp [sumW]
  | _ :: _, [], _, _ => by simp [sumW]; omega
  | w :: ws, d :: ds, hw, hd => by
    rw [List.all_cons, Bool.and_eq_true] at hd
    have h1 := term_bd (hw w (by simp)) hd.1
    have h2 := sumW_bd ws ds (fun x hx => hw x (by simp [hx])) hd.2
    rw [sumW, List.length_cons]; omega
theorem slSum_l0 (s : ByteArray) (l : List Int) (hs : s.size = l.length) (hl : l.length ≤ 12) : ∀ (ws ds : List Int) (n : Nat) (acc : Int), l.drop n = ws → (L s).drop n = ds → (∀ x ∈ ws, 0 ≤ x ∧ x ≤ 11) → ds.all isD = true → 0 ≤ acc → acc ≤ 99 * n →
    Ev (fun k => spec_slSum.l0 k s acc l (l.length : Int) (n : Int)) (acc + sumW ws ds)
  | [], ds, n, acc, h1, _, _, _, _, _ => by
    refine Ev.step (fun _ => spec_slSum.l0.eq_2 ..) (Ev.neg (by have := drop_nil h1; omega) (Ev.eq ?_ (Ev.now _)))
    rw [sumW, Int.add_zero]
    intros; simp_all
  | w :: ws, [], n, acc, h1, h2, _, _, _, _ => by
    have := (drop_cons h1).1; have := sdrop_nil h2; omega
  | w :: ws, d :: ds, n, acc, h1, h2, hw, hd, ha, hb => by
    obtain ⟨g1, g2, g3⟩ := drop_cons h1
    obtain ⟨k1, k2, k3⟩ := sdrop_cons h2
    rw [List.all_cons, Bool.and_eq_true] at hd
    have ht := term_bd (hw w (by simp)) hd.1
    have hr : rd l (n : Int) = w := by rw [rd_nat, List.getD_eq_getElem?_getD, g2]; rfl
    refine Ev.step (fun _ => spec_slSum.l0.eq_2 ..) (Ev.pos (by omega) (Ev.pos (by omega) (Ev.pos (by omega) (Ev.pos (by omega) ?_))))
    rw [k2, hr, dig_mod hd.1, wsucc g1 (by omega), w64 (x := w * (d - 48)) (by omega) (by omega), w64 (x := acc + w * (d - 48)) (by omega) (by omega), sumW, ← Int.add_assoc]
    exact slSum_l0 s l hs hl ws ds (n + 1) _ g3 k3 (fun x hx => hw x (by simp [hx])) hd.2 (by omega) (by omega)
theorem slSum_f (s : ByteArray) (l : List Int) (m : Int) (hs : s.size = l.length) (hl : l.length ≤ 12) (hw : ∀ x ∈ l, 0 ≤ x ∧ x ≤ 11) (hd : (L s).all isD = true) : Ev (fun k => spec_slSum.f k l m s) (sumW l (L s)) := by
  have h := slSum_l0 s l hs hl l (L s) 0 0 rfl rfl hw hd (by omega) (by omega)
  rw [Int.zero_add] at h
  exact h
theorem sum_same (s : ByteArray) (l : List Int) (ln : Int) : ∀ (k : Nat) (acc i : Int), impl_Check_sum.l0 k s acc l ln i = spec_slSum.l0 k s acc l ln i
  | 0, _, _ => rfl
  | k + 1, acc, i => by
    rw [impl_Check_sum.l0, spec_slSum.l0]
    simp only [sum_same s l ln k]
theorem Checksum_f (s : ByteArray) (l : List Int) (m : Int) (hs : s.size = l.length) (hl : l.length ≤ 12) (hw : ∀ x ∈ l, 0 ≤ x ∧ x ≤ 11) (hd : (L s).all isD = true) : Ev (fun k => impl_Check_sum.f k l m s) (sumW l (L s)) :=
  Ev.congr (fun k => sum_same s l _ k 0 0) (slSum_f s l m hs hl hw hd)
/-! ## snd -/
/-- Is a number sound. -/
def snd (l : List Int) (m : Int) (s : ByteArray) : Bool := Int.tmod (sumW l (L s)) m == 0
theorem slSound_f (s : ByteArray) (l : List Int) (m : Int) (hm : 2 ≤ m) (hs : s.size = l.length) (hl : l.length ≤ 12) (hw : ∀ x ∈ l, 0 ≤ x ∧ x ≤ 11) (hd : (L s).all isD = true) : Ev (fun k => spec_slSound.f k l m s) (snd l m s) :=
  Ev.bind (slSum_f s l m hs hl hw hd) (Ev.neg (by omega) (Ev.now _))
theorem isSound_f (s : ByteArray) (l : List Int) (m : Int) (hm : 2 ≤ m) (hs : s.size = l.length) (hl : l.length ≤ 12) (hw : ∀ x ∈ l, 0 ≤ x ∧ x ≤ 11) (hd : (L s).all isD = true) : Ev (fun k => impl_Check_isSound.f k l m s) (snd l m s) :=
  Ev.bind (Checksum_f s l m hs hl hw hd) (Ev.neg (by omega) (Ev.now _))
/-! ## num -/
/-- Ten to a power. -/
def p10 (n : Nat) : Int := 10 ^ n
theorem p10_succ (n : Nat) : p10 (n + 1) = 10 * p10 n := by unfold p10; rw [Int.pow_succ, Int.mul_comm]
theorem p10_pos (n : Nat) : 1 ≤ p10 n := by
  induction n with
  | zero => decide
  | succ n ih => rw [p10_succ]; omega
theorem p10_mono {n m : Nat} (h : n ≤ m) : p10 n ≤ p10 m := by
  obtain ⟨d, rfl⟩ : ∃ d, m = n + d := ⟨m - n, by omega⟩
  clear h
  induction d with
  | zero => exact Int.le_refl _
  | succ d ih => rw [← Nat.add_assoc, p10_succ]; have := p10_pos (n + d); omega
theorem p10_9 {n : Nat} (h : n ≤ 9) : p10 n ≤ 1000000000 := p10_mono h
/-- The number that digits tell, behind what stands before them. -/
def numF (a : Int) (l : List Int) : Int := l.foldl (fun n c => 10 * n + (c - 48)) a
theorem numF_cons (a c : Int) (l : List Int) : numF a (c :: l) = numF (10 * a + (c - 48)) l := rfl
theorem numF_bd : ∀ (l : List Int) (a : Int), l.all isD = true → 0 ≤ a → a * p10 l.length ≤ numF a l ∧ numF a l < (a + 1) * p10 l.length
  | [], a, _, h => by simp [numF, p10]; omega
  | c :: l, a, hl, h => by
    rw [List.all_cons, Bool.and_eq_true] at hl
    have hc := isD_t.1 hl.1
    have ih := numF_bd l (10 * a + (c - 48)) hl.2 (by omega)
    have hp := p10_pos l.length
    rw [numF_cons, List.length_cons, p10_succ]
    have e1 : a * (10 * p10 l.length) ≤ (10 * a + (c - 48)) * p10 l.length := by
      rw [← Int.mul_assoc]; exact Int.mul_le_mul_of_nonneg_right (by omega) (by omega)
    have e2 : (10 * a + (c - 48) + 1) * p10 l.length ≤ (a + 1) * (10 * p10 l.length) := by
      rw [← Int.mul_assoc]; exact Int.mul_le_mul_of_nonneg_right (by omega) (by omega)
    omega
/-- A number with room for so many digits behind it. -/
theorem num_step {a c : Int} {n : Nat} (ha : 0 ≤ a) (hc : 48 ≤ c ∧ c ≤ 57) (h : (a + 1) * p10 (n + 1) ≤ 1000000000000000000) : 0 ≤ 10 * a + (c - 48) ∧ (10 * a + (c - 48) + 1) * p10 n ≤ 1000000000000000000 ∧ 10 * a + (c - 48) ≤ 1000000000000000000 := by
  have hp := p10_pos n
  rw [p10_succ, ← Int.mul_assoc] at h
  have e2 : (10 * a + (c - 48) + 1) * p10 n ≤ (a + 1) * 10 * p10 n := Int.mul_le_mul_of_nonneg_right (by omega) (by omega)
  have e3 : (10 * a + (c - 48) + 1) * 1 ≤ (10 * a + (c - 48) + 1) * p10 n := Int.mul_le_mul_of_nonneg_left hp (by omega)
  omega
/-! ## dec -/
/-- The decimal digits of a number, as bytes told as numbers. -/
def Dg (n : Nat) : List Int := (Go.Lib.decDigits n).map (fun c => (c.toNat : Int))
theorem u8n {n : Nat} (h : n < 256) : (((UInt8.ofNat n).toNat : Nat) : Int) = (n : Int) := by
  rw [UInt8.toNat_ofNat', Nat.mod_eq_of_lt (by omega)]
theorem Dg_small {n : Nat} (h : n < 10) : Dg n = [48 + (n : Int)] := by
  unfold Dg
  rw [Go.Lib.decDigits, dif_pos h, List.map_cons, List.map_nil, u8n (by omega)]
  rfl
theorem Dg_big {n : Nat} (h : 10 ≤ n) : Dg n = Dg (n / 10) ++ [48 + ((n % 10 : Nat) : Int)] := by
  unfold Dg
  conv => lhs; rw [Go.Lib.decDigits, dif_neg (by omega)]
  rw [List.map_append, List.map_cons, List.map_nil, u8n (by omega)]
  rfl
theorem L_itoa (n : Nat) : L (⟨(Go.Lib.itoa (n : Int)).toArray⟩ : ByteArray) = Dg n := by
  unfold L Dg Go.Lib.itoa
  rw [if_neg (by omega), Int.toNat_natCast]
theorem L_dec (n : Nat) : L (⟨(Go.Lib.decDigits n).toArray⟩ : ByteArray) = Dg n := rfl
theorem Dg_dig : ∀ b n : Nat, n ≤ b → (Dg n).all isD = true
  | 0, n, h => by
    rw [Dg_small (by omega)]
    simp [isD]; omega
  | b + 1, n, h => by
    by_cases hn : n < 10
    · rw [Dg_small hn]
      simp [isD]; omega
    · rw [Dg_big (by omega), List.all_append, Dg_dig b (n / 10) (by omega)]
      simp [isD]; omega
theorem Dg_isD (n : Nat) : (Dg n).all isD = true := Dg_dig n n (Nat.le_refl _)
theorem Dg_pos : ∀ n : Nat, 1 ≤ (Dg n).length := by
  intro n
  by_cases hn : n < 10
  · rw [Dg_small hn]; simp
  · rw [Dg_big (by omega)]; simp
theorem numF_app (a : Int) (l m : List Int) : numF a (l ++ m) = numF (numF a l) m := by unfold numF; rw [List.foldl_append]
theorem Dg_num : ∀ b n : Nat, n ≤ b → numF 0 (Dg n) = n
  | 0, n, h => by
    rw [Dg_small (by omega)]
    simp [numF]; omega
  | b + 1, n, h => by
    by_cases hn : n < 10
    · rw [Dg_small hn]
      simp [numF]; omega
    · rw [Dg_big (by omega), numF_app, Dg_num b (n / 10) (by omega)]
      simp [numF]; omega
theorem num_Dg (n : Nat) : numF 0 (Dg n) = n := Dg_num n n (Nat.le_refl _)
/-- The last k digits of a number, zeros in front. -/
def TD : Nat → Nat → List Int
  | 0, _ => []
  | k + 1, n => TD k (n / 10) ++ [48 + ((n % 10 : Nat) : Int)]
theorem TD_len : ∀ k n, (TD k n).length = k
  | 0, _ => rfl
  | k + 1, n => by rw [TD, List.length_append, TD_len k]; rfl
theorem TD_dig : ∀ k n, (TD k n).all isD = true
  | 0, _ => rfl
  | k + 1, n => by
    rw [TD, List.all_append, TD_dig k]
    simp [isD]; omega
theorem TD_num : ∀ k n : Nat, n < 10 ^ k → numF 0 (TD k n) = n
  | 0, n, h => by
    simp at h
    subst h
    rfl
  | k + 1, n, h => by
    rw [Nat.pow_succ] at h
    rw [TD, numF_app, TD_num k (n / 10) (by omega)]
    simp [numF]; omega
theorem TD_Dg : ∀ k n : Nat, n < 10 ^ (k + 1) → (Dg n).length ≤ k + 1 ∧ TD (k + 1) n = List.replicate (k + 1 - (Dg n).length) 48 ++ Dg n
  | 0, n, h => by
    have hn : n < 10 := by simpa using h
    rw [Dg_small hn]
    refine ⟨by simp, ?_⟩
    rw [TD, TD, Nat.mod_eq_of_lt hn]
    simp
  | k + 1, n, h => by
    rw [Nat.pow_succ] at h
    obtain ⟨h1, h2⟩ := TD_Dg k (n / 10) (by omega)
    rw [TD, h2]
    by_cases hn : n < 10
    · have h0 : n / 10 = 0 := by omega
      rw [h0, Dg_small hn, Dg_small (by omega), Nat.mod_eq_of_lt hn]
      refine ⟨by simp, ?_⟩
      simp only [List.length_singleton, Nat.add_sub_cancel]
      rw [List.replicate_succ']
      simp
    · rw [Dg_big (n := n) (by omega), List.length_append, List.length_singleton]
      refine ⟨by omega, ?_⟩
      rw [show k + 1 + 1 - ((Dg (n / 10)).length + 1) = k + 1 - (Dg (n / 10)).length by omega, List.append_assoc]
/-- Ten to a power in both kinds of numbers. -/
theorem p10_nat (k : Nat) : p10 k = ((10 ^ k : Nat) : Int) := by unfold p10; exact (Int.natCast_pow 10 k).symm
/-! ## strnum -/
theorem ofNat_toNat {c : Int} (h : 0 ≤ c ∧ c ≤ 255) : (((UInt8.ofNat c.toNat).toNat : Nat) : Int) = c := by
  rw [UInt8.toNat_ofNat', Nat.mod_eq_of_lt (by omega)]; omega
theorem L_strOfNums (l : List Int) (h : ∀ c ∈ l, 0 ≤ c ∧ c ≤ 255) : L (strOfNums l) = l := by
  unfold L strOfNums
  rw [List.map_map]
  conv => rhs; rw [← List.map_id l]
  exact List.map_congr_left (fun c hc => ofNat_toNat (h c hc))
/-! ## l1Num -/
/-- A number's decimal text. -/
def decS (n : Nat) : ByteArray := ⟨(Go.Lib.decDigits n).toArray⟩
theorem L_decS (n : Nat) : L (decS n) = Dg n := rfl
theorem Dg_le19 (n : Nat) (h : n ≤ 9223372036854775807) : (Dg n).length ≤ 19 := (TD_Dg 18 n (by omega)).1
theorem size_decS (n : Nat) : (decS n).size = (Dg n).length := by rw [size_L, L_decS]
theorem one_dig {n : Nat} (h : n < 10) : strOfNums [wrap64 (48 + (n : Int)) % 256] = decS n := by
  apply L_inj
  rw [L_decS, Dg_small h, w64 (by omega) (by omega), Int.emod_eq_of_lt (by omega) (by omega), L_strOfNums]
  intro c hc
  rw [List.mem_singleton] at hc
  omega
theorem l1Num_b : ∀ b n : Nat, n ≤ b → n ≤ 9223372036854775807 → Ev (fun k => spec_l1Num.f k (n : Int)) (decS n)
  | 0, n, h, hb => by
    refine Ev.step (fun _ => spec_l1Num.f.eq_2 ..) (Ev.pos (by omega) (Ev.eq ?_ (Ev.now _)))
    exact (one_dig (by omega)).symm
  | b + 1, n, h, hb => by
    refine Ev.step (fun _ => spec_l1Num.f.eq_2 ..) ?_
    by_cases hn : n < 10
    · exact Ev.pos (by omega) (Ev.eq (one_dig hn).symm (Ev.now _))
    · refine Ev.neg (by omega) ?_
      rw [show Int.tdiv (n : Int) 10 = ((n / 10 : Nat) : Int) from rfl, w64n (x := n / 10) (by omega), show Int.tmod (n : Int) 10 = ((n % 10 : Nat) : Int) from rfl]
      refine Ev.bind (l1Num_b b (n / 10) (by omega) (by omega)) (Ev.sm rfl ?_)
      rw [one_dig (n := n % 10) (by omega)]
      have h1 : (decS (n / 10)).size ≤ 19 := by rw [size_decS]; exact Dg_le19 _ (by omega)
      have h2 : (decS (n % 10)).size ≤ 19 := by rw [size_decS]; exact Dg_le19 _ (by omega)
      refine Ev.pos (by omega) (Ev.eq ?_ (Ev.now _))
      apply L_inj
      rw [L_append, L_decS, L_decS, L_decS, Dg_big (n := n) (by omega), Dg_small (n := n % 10) (by omega)]
theorem l1Num_f (n : Nat) (h : n ≤ 9223372036854775807) : Ev (fun k => spec_l1Num.f k (n : Int)) (decS n) := l1Num_b n n (Nat.le_refl _) h
/-! ## put -/
/-- A text with another digit at a place. -/
def putS (s : ByteArray) (p d : Nat) : ByteArray := ((s.extract 0 p) ++ decS d) ++ s.extract (p + 1) s.size
theorem L_putS (s : ByteArray) (p d : Nat) (hp : p < s.size) (hd : d < 10) : L (putS s p d) = (L s).set p (48 + (d : Int)) := by
  unfold putS
  rw [L_append, L_append, L_extract, L_extract, L_decS, Dg_small hd, List.drop_zero]
  rw [List.take_of_length_le (l := L s) (i := s.size) (by rw [L_length]; omega)]
  rw [List.set_eq_take_append_cons_drop, if_pos (by rw [L_length]; exact hp), List.append_assoc]
  rfl
theorem putS_size (s : ByteArray) (p d : Nat) (hp : p < s.size) (hd : d < 10) : (putS s p d).size = s.size := by
  rw [size_L, L_putS s p d hp hd, List.length_set, L_length]
theorem putS_dig {s : ByteArray} {p d : Nat} (hp : p < s.size) (hd : d < 10) (h : (L s).all isD = true) : (L (putS s p d)).all isD = true := by
  rw [L_putS s p d hp hd, List.all_eq_true]
  intro c hc
  rcases List.mem_or_eq_of_mem_set hc with h1 | h1
  · exact List.all_eq_true.1 h c h1
  · subst h1; rw [isD_t]; omega
theorem slPut_f (s : ByteArray) (p d : Nat) (hp : p < s.size) (hd : d < 10) (hs : s.size ≤ 140737488351232) : Ev (fun k => spec_slPut.f k s (p : Int) (d : Int)) (putS s p d) := by
  have e1 : wrap64 ((p : Int) + 1) = ((p + 1 : Nat) : Int) := by rw [w64 (by omega) (by omega)]; rfl
  have hz := putS_size s p d hp hd
  have h1 : (decS d).size = 1 := by rw [size_decS, Dg_small hd]; rfl
  unfold putS at hz
  refine Ev.pos (by omega) (Ev.pos (by omega) (Ev.bind (l1Num_f d (by omega)) ?_))
  rw [e1, Int.toNat_natCast, Int.toNat_natCast]
  refine Ev.pos (by rw [size_ext, h1]; omega) (Ev.pos (by omega) (Ev.pos (by omega) (Ev.pos ?_ (Ev.now _))))
  rw [← size_app, hz]; omega
/-! ## with0 -/
theorem with_f (s : ByteArray) (p d : Nat) (hp : p < s.size) (hd : d < 10) (hs : s.size ≤ 140737488351232) : impl_with.f s (p : Int) (d : Int) = some (putS s p d) := by
  have e1 : wrap64 ((p : Int) + 1) = ((p + 1 : Nat) : Int) := by rw [w64 (by omega) (by omega)]; rfl
  have hz := putS_size s p d hp hd
  have h1 : (decS d).size = 1 := by rw [size_decS, Dg_small hd]; rfl
  have hi : strconv_Itoa.f (d : Int) = some (decS d) := by
    unfold strconv_Itoa.f
    rw [if_pos (by omega), Int.toNat_natCast]; rfl
  unfold putS at hz
  unfold impl_with.f
  rw [e1, Int.toNat_natCast, Int.toNat_natCast, if_pos (by omega), if_pos (by omega), hi, Option.bind_some, if_pos (by rw [size_ext, h1]; omega), if_pos (by omega), if_pos (by omega), if_pos (by rw [← size_app, hz]; omega)]
  rfl
/-- The numbers from d on, e of them, at which a test holds. -/
def sdl (P : Nat → Bool) : Nat → Nat → List Int
  | _, 0 => []
  | d, e + 1 => (if P d = true then [(d : Int)] else []) ++ sdl P (d + 1) e
theorem sdl_len (P : Nat → Bool) : ∀ e d, (sdl P d e).length ≤ e
  | 0, d => by simp [sdl]
  | e + 1, d => by rw [sdl, List.length_append]; have := sdl_len P e (d + 1); split <;> simp <;> omega
/-- Which digits at a place make a number sound. -/
def sdP (l : List Int) (m : Int) (s : ByteArray) (p d : Nat) : Bool := snd l m (putS s p d)
theorem soundDigits_l0 (l : List Int) (m : Int) (s : ByteArray) (p : Nat) (hp : p < s.size) (hm : 2 ≤ m) (hs : s.size = l.length) (hl : l.length ≤ 12) (hw : ∀ x ∈ l, 0 ≤ x ∧ x ≤ 11) (hd : ∀ d, d < 10 → (L (putS s p d)).all isD = true) :
    ∀ (e d : Nat) (acc : List Int), d + e = 10 → acc.length ≤ d → Ev (fun k => impl_Check_soundDigits.l0 k s (p : Int) acc (d : Int) l m) (acc ++ sdl (sdP l m s p) d e)
  | 0, d, acc, h, ha => Ev.step (fun _ => impl_Check_soundDigits.l0.eq_2 ..) (Ev.neg (by omega) (Ev.eq (by simp [sdl]) (Ev.now _)))
  | e + 1, d, acc, h, ha => by
    refine Ev.step (fun _ => impl_Check_soundDigits.l0.eq_2 ..) (Ev.pos (by omega) (Ev.sm (with_f s p d hp (by omega) (by omega)) (Ev.bind (isSound_f (putS s p d) l m hm (by rw [putS_size s p d hp (by omega)]; exact hs) hl hw (hd d (by omega))) ?_)))
    rw [wsucc (m := 10) (by omega) (by omega), sdl]
    by_cases c : snd l m (putS s p d) = true
    · refine Ev.pos c (Ev.pos (by omega) ?_)
      rw [if_pos (show sdP l m s p d = true from c), ← List.append_assoc]
      exact soundDigits_l0 l m s p hp hm hs hl hw hd e (d + 1) _ (by omega) (by simp; omega)
    · refine Ev.neg c ?_
      rw [if_neg (show ¬ sdP l m s p d = true from c), List.nil_append]
      exact soundDigits_l0 l m s p hp hm hs hl hw hd e (d + 1) _ (by omega) (by omega)
theorem soundDigits_f (l : List Int) (m : Int) (s : ByteArray) (p : Nat) (hp : p < s.size) (hm : 2 ≤ m) (hs : s.size = l.length) (hl : l.length ≤ 12) (hw : ∀ x ∈ l, 0 ≤ x ∧ x ≤ 11) (hd : ∀ d, d < 10 → (L (putS s p d)).all isD = true) :
    Ev (fun k => impl_Check_soundDigits.f k l m s (p : Int)) (sdl (sdP l m s p) 0 10) := by
  have h := soundDigits_l0 l m s p hp hm hs hl hw hd 10 0 [] (by omega) (by simp)
  rw [List.nil_append] at h
  exact h
/-! ## marks -/
/-- The numbers from a on. -/
def upf (a : Int) (n : Nat) : List Int := tab n (fun j => a + j)
theorem markIntS_l0 (l : List Int) (a : Int) (ha : 0 ≤ a ∧ a ≤ 100000000) (hl : l.length ≤ 100000000) : ∀ d n : Nat, n + d = l.length →
    Ev (fun k => laws_markIntS.l0 k (tab l.length (fun j => if j < n then a + j else rd l (j : Int))) (a + (n : Int)) (n : Int)) (a + (l.length : Int), upf a l.length)
  | 0, n, h => by
    refine Ev.step (fun _ => laws_markIntS.l0.eq_2 ..) (Ev.neg (by rw [tab_length]; omega) (Ev.eq ?_ (Ev.now _)))
    obtain rfl : n = l.length := by omega
    unfold upf
    rw [tab_congr (f := fun j => if j < l.length then a + j else rd l (j : Int)) (g := fun j => a + j) (fun j hj => if_pos hj)]
  | d + 1, n, h => by
    refine Ev.step (fun _ => laws_markIntS.l0.eq_2 ..) ?_
    rw [tab_length]
    refine Ev.pos (by omega) (Ev.pos (by omega) ?_)
    rw [Int.toNat_natCast, set_tab, wsucc (m := l.length) (by omega) (by omega), w64 (x := a + (n : Int) + 1) (by omega) (by omega)]
    rw [tab_congr (g := fun j => if j < n + 1 then a + j else rd l (j : Int)), show a + (n : Int) + 1 = a + ((n + 1 : Nat) : Int) by omega]
    · exact markIntS_l0 l a ha hl d (n + 1) (by omega)
    · intro j _
      by_cases e : j = n
      · subst e; rw [if_pos rfl, if_pos (by omega)]
      · rw [if_neg e]
        by_cases e2 : j < n
        · rw [if_pos e2, if_pos (by omega)]
        · rw [if_neg e2, if_neg (by omega)]
theorem markIntS_f (l : List Int) (a : Int) (ha : 0 ≤ a ∧ a ≤ 100000000) (hl : l.length ≤ 100000000) : Ev (fun k => laws_markIntS.f k l a) (a + (l.length : Int), upf a l.length) := by
  have h := markIntS_l0 l a ha hl l.length 0 (by omega)
  rw [tab_congr (f := fun j => if j < 0 then a + j else rd l (j : Int)) (g := fun j => rd l (j : Int)) (fun j _ => if_neg (by omega)), tab_self, show a + ((0 : Nat) : Int) = a by omega] at h
  exact h
theorem heldIntS_l0 (m : Nat) (a : Int) (ha : 0 ≤ a ∧ a ≤ 100000000) (hl : m ≤ 100000000) : ∀ d n : Nat, n + d = m →
    Ev (fun k => laws_heldIntS.l0 k (upf a m) (a + (n : Int)) (n : Int)) (a + (m : Int))
  | 0, n, h => by
    obtain rfl : n = m := by omega
    exact Ev.step (fun _ => laws_heldIntS.l0.eq_2 ..) (Ev.neg (by unfold upf; rw [tab_length]; omega) (Ev.now _))
  | d + 1, n, h => by
    refine Ev.step (fun _ => laws_heldIntS.l0.eq_2 ..) ?_
    have hr : rd (upf a m) (n : Int) = a + n := rd_tab (by omega)
    have hlen : (upf a m).length = m := tab_length ..
    rw [hr, hlen]
    refine Ev.pos (by omega) (Ev.pos (by omega) (Ev.pos rfl ?_))
    rw [wsucc (m := m) (by omega) (by omega), w64 (x := a + (n : Int) + 1) (by omega) (by omega), show a + (n : Int) + 1 = a + ((n + 1 : Nat) : Int) by omega]
    exact heldIntS_l0 m a ha hl d (n + 1) (by omega)
theorem heldIntS_f (m : Nat) (a : Int) (ha : 0 ≤ a ∧ a ≤ 100000000) (hl : m ≤ 100000000) : Ev (fun k => laws_heldIntS.f k (upf a m) a) (a + (m : Int)) := by
  have h := heldIntS_l0 m a ha hl m 0 (by omega)
  rw [show a + ((0 : Nat) : Int) = a by omega] at h
  exact h
theorem markCheck_f (l : List Int) (m a : Int) (ha : 0 ≤ a ∧ a ≤ 100000000) (hl : l.length ≤ 100000000) : Ev (fun k => laws_markCheck.f k l m a) (a + (l.length : Int), upf a l.length) := Ev.bind (markIntS_f l a ha hl) (Ev.now _)
/-! ## FnExactFillUnread -/
/-- Where 63 stands first, or -1. -/
def fiL : List Int → Int
  | [] => -1
  | c :: t => if c = 63 then 0 else if fiL t = -1 then -1 else fiL t + 1
theorem fi_lib : ∀ l : List UInt8, Go.Lib.indexByte l 63 = fiL (l.map (fun c => (c.toNat : Int)))
  | [] => rfl
  | b :: l => by
    rw [Go.Lib.indexByte, List.map_cons, fiL, fi_lib l]
    by_cases h : b = 63
    · subst h; rfl
    · have h1 : ¬ ((b.toNat : Int) = 63) := fun e => h (UInt8.toNat_inj.1 (by show b.toNat = 63; omega))
      rw [if_neg (by simpa using h), if_neg h1]
      simp only [beq_iff_eq]
theorem fi_neg : ∀ l : List Int, fiL l < 0 → ∀ j : Nat, l[j]? ≠ some 63
  | [], _, j => by simp
  | c :: t, h, j => by
    rw [fiL] at h
    by_cases hc : c = 63
    · rw [if_pos hc] at h; omega
    · rw [if_neg hc] at h
      by_cases ht : fiL t = -1
      · cases j with
        | zero => simpa using hc
        | succ j => simpa using fi_neg t (by omega) j
      · rw [if_neg ht] at h
        have : -1 ≤ fiL t := by
          clear h hc
          induction t with
          | nil => simp [fiL]
          | cons a t ih =>
            rw [fiL]
            split
            · omega
            · split
              · omega
              · rename_i h1; rw [fiL] at ht; have := ih h1; omega
        omega
theorem fi_pos : ∀ l : List Int, 0 ≤ fiL l → ∃ p : Nat, fiL l = p ∧ l[p]? = some 63
  | [], h => by simp [fiL] at h
  | c :: t, h => by
    rw [fiL] at h ⊢
    by_cases hc : c = 63
    · rw [if_pos hc]; exact ⟨0, rfl, by simp [hc]⟩
    · rw [if_neg hc] at h ⊢
      by_cases ht : fiL t = -1
      · rw [if_pos ht] at h; omega
      · rw [if_neg ht] at h ⊢
        by_cases h0 : 0 ≤ fiL t
        · obtain ⟨p, e, g⟩ := fi_pos t h0
          exact ⟨p + 1, by rw [e]; rfl, by simpa using g⟩
        · obtain ⟨p, e, g⟩ : ∃ p : Nat, fiL t = p ∧ t[p]? = some 63 := by omega
          exact ⟨p + 1, by rw [e]; rfl, by simpa using g⟩
theorem dig_set {l : List Int} {p : Nat} {v : Int} (h : l.all isD = true) (hv : isD v = true) : (l.set p v).all isD = true := by
  rw [List.all_eq_true]
  intro c hc
  rcases List.mem_or_eq_of_mem_set hc with h1 | h1
  · exact List.all_eq_true.1 h c h1
  · subst h1; exact hv
theorem put_any {s : ByteArray} {p d : Nat} (hp : p < s.size) (hd : d < 10) (h : (L (putS s p 0)).all isD = true) : (L (putS s p d)).all isD = true := by
  rw [L_putS s p 0 hp (by omega)] at h
  have := dig_set (p := p) (v := 48 + (d : Int)) h (by rw [isD_t]; omega)
  rw [List.set_set] at this
  rw [L_putS s p d hp hd]
  exact this
theorem get_lt {s : ByteArray} {p : Nat} {c : Int} (h : (L s)[p]? = some c) : p < s.size := by
  by_cases hp : p < s.size
  · exact hp
  · rw [List.getElem?_eq_none (by rw [L_length]; omega)] at h; cases h
theorem put_two {s : ByteArray} {p q : Nat} (hp : (L s)[p]? = some 63) (hq : (L s)[q]? = some 63) (hne : p ≠ q) : (L (putS s p 0)).all isD = false := by
  have h1 := get_lt hp
  rw [L_putS s p 0 h1 (by omega), ← Bool.not_eq_true, List.all_eq_true]
  intro h
  have h2 : ((L s).set p (48 + ((0 : Nat) : Int)))[q]? = some 63 := by rw [List.getElem?_set, if_neg hne]; exact hq
  exact absurd (h 63 (List.mem_of_getElem? h2)) (by decide)
/-- The answer at a place that cannot be read. -/
def fuAt (l : List Int) (m : Int) (s : ByteArray) (p : Nat) : List Int × Bool :=
  if ((chk l m && decide (s.size = l.length)) && (L (putS s p 0)).all isD) = true then (sdl (sdP l m s p) 0 10, true) else ([], false)
theorem fuAt_same (l : List Int) (m : Int) {s : ByteArray} {p q : Nat} (hp : (L s)[p]? = some 63) (hq : (L s)[q]? = some 63) : fuAt l m s p = fuAt l m s q := by
  by_cases h : p = q
  · rw [h]
  · unfold fuAt
    rw [put_two hp hq h, put_two hq hp (Ne.symm h)]
    simp
theorem specFU_l1 (l : List Int) (m : Int) (s : ByteArray) (p : Nat) (hp : p < s.size) (hm : 2 ≤ m) (hs : s.size = l.length) (hl : l.length ≤ 12) (hw : ∀ x ∈ l, 0 ≤ x ∧ x ≤ 11) (hd : ∀ d, d < 10 → (L (putS s p d)).all isD = true) :
    ∀ (e d : Nat) (acc : List Int), d + e = 10 → acc.length ≤ d → Ev (fun k => spec_FillUnread.l1 k s (p : Int) acc (d : Int) l m) (acc ++ sdl (sdP l m s p) d e, true)
  | 0, d, acc, h, ha => Ev.step (fun _ => spec_FillUnread.l1.eq_2 ..) (Ev.neg (by omega) (Ev.eq (by simp [sdl]) (Ev.now _)))
  | e + 1, d, acc, h, ha => by
    refine Ev.step (fun _ => spec_FillUnread.l1.eq_2 ..) (Ev.pos (by omega) (Ev.bind (slPut_f s p d hp (by omega) (by omega)) (Ev.bind (slSound_f (putS s p d) l m hm (by rw [putS_size s p d hp (by omega)]; exact hs) hl hw (hd d (by omega))) ?_)))
    rw [wsucc (m := 10) (by omega) (by omega), sdl]
    by_cases c : snd l m (putS s p d) = true
    · refine Ev.pos c (Ev.pos (by omega) ?_)
      rw [if_pos (show sdP l m s p d = true from c), ← List.append_assoc]
      exact specFU_l1 l m s p hp hm hs hl hw hd e (d + 1) _ (by omega) (by simp; omega)
    · refine Ev.neg c ?_
      rw [if_neg (show ¬ sdP l m s p d = true from c), List.nil_append]
      exact specFU_l1 l m s p hp hm hs hl hw hd e (d + 1) _ (by omega) (by omega)
/-- What the reference says behind its search. -/
def fuOf (l : List Int) (m : Int) (s : ByteArray) (x : Int) : List Int × Bool := if x < 0 then ([], false) else fuAt l m s x.toNat
theorem specFU_l0 (l : List Int) (m : Int) (s : ByteArray) (hk : chk l m = true) (hs : s.size = l.length) (r : List Int × Bool) (hr : ∀ p : Nat, (L s)[p]? = some 63 → fuAt l m s p = r) :
    ∀ (t : List Int) (n : Nat) (x : Int), (L s).drop n = t → (x = -1 ∨ ∃ p : Nat, x = p ∧ (L s)[p]? = some 63) → (63 ∈ t ∨ fuOf l m s x = r) →
      Ev (fun k => spec_FillUnread.l0 k s x (n : Int) l m) r
  | [], n, x, h, hx, hf => by
    have hn := sdrop_nil h
    obtain ⟨h2, h1, h3, h4, h5⟩ := chk_t hk
    have hf : fuOf l m s x = r := hf.resolve_left (by simp)
    refine Ev.step (fun _ => spec_FillUnread.l0.eq_2 ..) (Ev.neg (by omega) ?_)
    rcases hx with rfl | ⟨p, rfl, hp⟩
    · refine Ev.pos (by omega) (Ev.step (fun _ => spec_FillUnread.j2.eq_2 ..) (Ev.pos rfl (Ev.eq ?_ (Ev.now _))))
      rw [← hf]; rfl
    · have hps := get_lt hp
      unfold fuOf at hf
      rw [if_neg (by omega), Int.toNat_natCast] at hf
      refine Ev.neg (by omega) (Ev.bind (slPut_f s p 0 hps (by omega) (by omega)) (Ev.bind (slDigits_f (putS s p 0) (by rw [putS_size s p 0 hps (by omega)]; omega)) (Ev.step (fun _ => spec_FillUnread.j2.eq_2 ..) ?_)))
      rw [putS_size s p 0 hps (by omega), decide_eq_true (show (1 : Int) ≤ s.size by omega), decide_eq_true (show (s.size : Int) ≤ 12 by omega)]
      unfold fuAt at hf
      rw [hk, decide_eq_true hs] at hf
      by_cases hd : (L (putS s p 0)).all isD = true
      · rw [hd] at hf ⊢
        refine Ev.neg (by simp) ?_
        have := specFU_l1 l m s p hps h3 hs h1 (fun x hx => by have := h5 x hx; omega) (fun d hd' => put_any hps hd' hd) 10 0 [] (by omega) (by simp)
        rw [List.nil_append] at this
        rw [← hf]
        exact this
      · rw [Bool.not_eq_true] at hd
        rw [hd] at hf ⊢
        exact Ev.pos (by simp) (Ev.eq hf.symm (Ev.now _))
  | c :: t, n, x, h, hx, hf => by
    obtain ⟨h1, h2, h3⟩ := sdrop_cons h
    have hkk := chk_t hk
    refine Ev.step (fun _ => spec_FillUnread.l0.eq_2 ..) (Ev.pos (by omega) (Ev.pos (by omega) ?_))
    rw [h2, wsucc h1 (by omega)]
    by_cases hc : c = 63
    · refine Ev.pos hc ?_
      have hg : (L s)[n]? = some 63 := by rw [L_get s n h1, h2, hc]
      refine specFU_l0 l m s hk hs r hr t (n + 1) (n : Int) h3 (.inr ⟨n, rfl, hg⟩) (.inr ?_)
      unfold fuOf
      rw [if_neg (by omega), Int.toNat_natCast]
      exact hr n hg
    · refine Ev.neg hc (specFU_l0 l m s hk hs r hr t (n + 1) x h3 hx ?_)
      rcases hf with hf | hf
      · rcases List.mem_cons.1 hf with hf | hf
        · exact absurd hf.symm hc
        · exact .inl hf
      · exact .inr hf
def fuAns (l : List Int) (m : Int) (s : ByteArray) : List Int × Bool := fuOf l m s (fiL (L s))
theorem specFU_f (l : List Int) (m : Int) (s : ByteArray) (hl : l.length ≤ 1048576) : Ev (fun k => spec_FillUnread.f k l m s) (fuAns l m s) := by
  refine Ev.bind (slGood_f l m hl) ?_
  have none_ : ∀ h : (chk l m && decide (s.size = l.length)) = false, fuAns l m s = ([], false) := by
    intro h
    unfold fuAns fuOf fuAt
    rw [h]
    simp
  by_cases hk : chk l m = true
  · refine Ev.pos hk (Ev.step (fun _ => spec_FillUnread.j0.eq_2 ..) ?_)
    by_cases hs : s.size = l.length
    · refine Ev.neg (by simp; omega) ?_
      have key : ∀ p : Nat, (L s)[p]? = some 63 → fuAt l m s p = fuAns l m s := by
        intro p hp
        unfold fuAns fuOf
        by_cases h0 : fiL (L s) < 0
        · exact absurd hp (fi_neg _ h0 p)
        · obtain ⟨q, e, hq⟩ := fi_pos (L s) (by omega)
          rw [e, if_neg (by omega), Int.toNat_natCast]
          exact fuAt_same l m hp hq
      refine specFU_l0 l m s hk hs (fuAns l m s) key (L s) 0 (-1) rfl (.inl rfl) ?_
      by_cases hm : (63 : Int) ∈ L s
      · exact .inl hm
      · right
        unfold fuAns
        by_cases h0 : fiL (L s) < 0
        · unfold fuOf; rw [if_pos h0, if_pos (by omega)]
        · obtain ⟨q, e, hq⟩ := fi_pos (L s) (by omega)
          exact absurd (List.mem_of_getElem? hq) hm
    · exact Ev.pos (by simp; omega) (Ev.eq (none_ (by rw [decide_eq_false hs, Bool.and_false])) (Ev.now _))
  · exact Ev.neg hk (Ev.step (fun _ => spec_FillUnread.j0.eq_2 ..) (Ev.pos rfl (Ev.eq (none_ (by rw [Bool.not_eq_true] at hk; rw [hk, Bool.false_and])) (Ev.now _))))
theorem implFU_f (l : List Int) (m : Int) (s : ByteArray) (hz : s.size ≤ 140737488351232) : Ev (fun k => impl_FillUnread.f k l m s) (fuAns l m s) := by
  have hi : strings_IndexByte.f s 63 = some (fiL (L s)) := by unfold strings_IndexByte.f L; rw [show (63 : Int).toNat.toUInt8 = 63 from rfl, fi_lib]
  refine Ev.sm hi ?_
  unfold fuAns fuOf
  by_cases h0 : fiL (L s) < 0
  · rw [if_pos h0]; exact Ev.pos h0 (Ev.now _)
  · obtain ⟨p, e, hp⟩ := fi_pos (L s) (by omega)
    have hps := get_lt hp
    rw [if_neg h0, e, Int.toNat_natCast]
    refine Ev.neg (by omega) (Ev.sm (with_f s p 0 hps (by omega) (by omega)) (Ev.bind (isNumber_f l m (putS s p 0) (by rw [putS_size s p 0 hps (by omega)]; exact hz)) ?_))
    unfold fuAt
    have eb : bth l m (putS s p 0) = ((chk l m && decide (s.size = l.length)) && (L (putS s p 0)).all isD) := by
      unfold bth
      rw [putS_size s p 0 hps (by omega)]
      cases chk l m <;> cases decide (s.size = l.length) <;> cases (L (putS s p 0)).all isD <;> rfl
    by_cases hb : bth l m (putS s p 0) = true
    · obtain ⟨h1, h2, h3, _, h5, h6, h7⟩ := bth_t hb
      rw [putS_size s p 0 hps (by omega)] at h7
      rw [if_pos (by rw [← eb]; exact hb)]
      exact Ev.pos hb (Ev.bind (soundDigits_f l m s p hps h3 h7 h1 h5 (fun d hd => put_any hps hd h6)) (Ev.now _))
    · rw [if_neg (by rw [← eb]; exact hb)]
      exact Ev.neg hb (Ev.now _)
theorem fuAns_len (l : List Int) (m : Int) (s : ByteArray) : (fuAns l m s).1.length ≤ 1048576 := by
  unfold fuAns fuOf fuAt
  have := sdl_len (sdP l m s (fiL (L s)).toNat) 10 0
  split
  · simp
  · split
    · show (sdl _ 0 10).length ≤ _; omega
    · simp
theorem FnExactFillUnread : laws_FnExactFillUnread.Pure := by
  intro l m s hl _ _ hs
  refine Ev.rounds (g := fun k => laws_FnExactFillUnread.f k l m s) ?_
  unfold laws_FnExactFillUnread.f
  by_cases b1 : (s.size : Int) > 1048576
  · exact Ev.pos b1 (Ev.now _)
  · refine Ev.neg b1 (Ev.sm (szCheck_f l m hl) ?_)
    by_cases h : 1048576 - (l.length : Int) < 0
    · rw [if_pos h]; exact Ev.pos (by decide) (Ev.now _)
    · rw [if_neg h]
      have hl' : l.length ≤ 1048576 := by omega
      have hr := fuAns_len l m s
      have he : Ev (fun k => laws_eqIntS.f k (fuAns l m s).1 (fuAns l m s).1) true := eqIntS_f _ hr
      refine Ev.neg h (Ev.bind (toCheck_f l m hl') (Ev.bind (specFU_f l m s hl') (Ev.bind (toCheck_f l m hl') (Ev.bind (implFU_f l m s hs) (Ev.bind he (Ev.pos rfl ?_))))))
      refine Ev.step (fun _ => laws_FnExactFillUnread.j0.eq_2 ..) (Ev.neg (by simp) (Ev.bind (toCheck_f l m hl') (Ev.bind (eqCheck_f l m hl') (Ev.pos rfl (Ev.bind (markCheck_f l m 1 (by omega) (by omega)) (Ev.neg (by show ¬ (1 + (l.length : Int) < 0); omega) (Ev.bind he (Ev.pos rfl ?_))))))))
      refine Ev.step (fun _ => laws_FnExactFillUnread.j1.eq_2 ..) (Ev.neg (by simp) (Ev.bind (markIntS_f _ 1 (by omega) (by omega)) (Ev.bind (heldIntS_f _ 1 (by omega) (by omega)) (Ev.neg (by omega) (Ev.pos rfl (Ev.bind (toCheck_f l m hl') (Ev.bind (implFU_f l m s hs) (Ev.bind he (Ev.pos rfl ?_)))))))))
      exact Ev.step (fun _ => laws_FnExactFillUnread.j2.eq_2 ..) (Ev.neg (by simp) (Ev.bind (heldIntS_f _ 1 (by omega) (by omega)) (Ev.neg (by omega) (Ev.pos rfl (Ev.now _)))))

end Go.Proofs.YthkjedplcebpjafDoor.Pure
