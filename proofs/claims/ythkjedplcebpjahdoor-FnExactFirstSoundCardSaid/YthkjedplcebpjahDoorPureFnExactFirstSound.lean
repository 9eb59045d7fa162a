/- The plain law of FnExactFirstSound: at all arguments the printed function of the law answers true after some number of rounds. Conditions: none beyond the bounds that the printed statement itself bears. -/
import Derived.Test.YthkjedplcebpjahDoorQFnExactFirstSoundx6
namespace Go.Proofs.YthkjedplcebpjahDoor.Pure
open Go.RowKit Go.Proofs.YthkjedplcebpjahDoor.QFnExactFirstSound Go.Proofs.YthkjedplcebpjahDoorW.PrintWords Go.Proofs.YthkjedplcebpjahDoorW.PrintLast Go.Proofs.YthkjedplcebpjahDoorW.PrintMore Go.Proofs.YthkjedplcebpjahDoor.Ext
set_option linter.unusedVariables false

def laws_FnExactFirstSound.Pure : Prop := ∀ (l0_0 : List Int) (a0_1 : Int), l0_0.length ≤ 9223372036854775807 → (∀ x ∈ l0_0, (Lit.int .i64 x).wf = true) → (Lit.int .i64 a0_1).wf = true → ∃ k, laws_FnExactFirstSound.f k l0_0 a0_1 = some true
/-! ## base -/
/-! numbers in 64 bits -/
theorem w64 {x : Int} (h1 : -9223372036854775808 ≤ x) (h2 : x ≤ 9223372036854775807) : wrap64 x = x := by unfold wrap64; omega
theorem w64n {x : Nat} (h2 : x ≤ 9223372036854775807) : wrap64 (x : Int) = (x : Int) := w64 (by omega) (by omega)
theorem wf64 {x : Int} (h : (Lit.int .i64 x).wf = true) : -9223372036854775808 ≤ x ∧ x ≤ 9223372036854775807 := by
  have hmin : IntKind.i64.min = -9223372036854775808 := rfl
  have hmax : IntKind.i64.max = 9223372036854775807 := rfl
  simp only [Lit.wf, Bool.and_eq_true, decide_eq_true_eq, hmin, hmax] at h
  exact h
theorem tmodN (a b : Nat) : Int.tmod (a : Int) (b : Int) = ((a % b : Nat) : Int) := rfl
theorem tdivN (a b : Nat) : Int.tdiv (a : Int) (b : Int) = ((a / b : Nat) : Int) := rfl
theorem tmod_nn {a b : Int} (h : 0 ≤ a) : Int.tmod a b = a % b := Int.tmod_eq_emod_of_nonneg h
theorem tdiv_nn {a b : Int} (h : 0 ≤ a) : Int.tdiv a b = a / b := Int.tdiv_eq_ediv_of_nonneg h
/-! from some number of rounds on -/
theorem Ev.pos {α : Type} {c : Prop} [Decidable c] {f g : Nat → Option α} {r : α} (h : c) (e : Ev f r) : Ev (fun k => if c then f k else g k) r := by simpa only [if_pos h] using e
theorem Ev.neg {α : Type} {c : Prop} [Decidable c] {f g : Nat → Option α} {r : α} (h : ¬ c) (e : Ev g r) : Ev (fun k => if c then f k else g k) r := by simpa only [if_neg h] using e
theorem Ev.sm {α β : Type} {f : Nat → α → Option β} {a : α} {o : Option α} {r : β} (h : o = some a) (e : Ev (fun n => f n a) r) : Ev (fun n => o.bind (f n)) r := by subst h; simpa only [Option.bind_some] using e
theorem Ev.eq {α : Type} {f : Nat → Option α} {r r' : α} (h : r' = r) (e : Ev f r) : Ev f r' := h ▸ e
theorem Ev.of_some {α : Type} {o : Option α} {r : α} (h : o = some r) : Ev (fun _ => o) r := ⟨0, fun _ _ => h⟩
theorem Ev.uniq {α : Type} {g : Nat → Option α} {r q : α} (h : Ev g r) (h' : Ev g q) : r = q := by
  obtain ⟨K, h⟩ := h
  obtain ⟨K', h'⟩ := h'
  have := (h (max K K') (by omega)).symm.trans (h' (max K K') (by omega))
  exact Option.some.inj this
/-! a string as a list of numbers -/
def L (s : ByteArray) : List Int := s.data.toList.map (fun c => (c.toNat : Int))
theorem L_length (s : ByteArray) : (L s).length = s.size := by simp [L]
theorem bt_lo (s : ByteArray) (i : Int) : 0 ≤ bt s i := by unfold bt; split <;> omega
theorem bt_hi (s : ByteArray) (i : Int) : bt s i ≤ 255 := by
  unfold bt; split
  · have := UInt8.toNat_lt (s[i.toNat]); omega
  · omega
theorem bt_L (s : ByteArray) (n : Nat) : bt s (n : Int) = (L s).getD n 0 := by
  unfold bt L
  by_cases h : n < s.size
  · simp [h, List.getD_eq_getElem?_getD]; rfl
  · simp [h, List.getD_eq_getElem?_getD]
theorem L_get (s : ByteArray) (n : Nat) (h : n < s.size) : (L s)[n]? = some (bt s n) := by
  rw [bt_L, List.getD_eq_getElem?_getD]
  have : n < (L s).length := by rw [L_length]; exact h
  simp [this]
theorem L_mem {s : ByteArray} {c : Int} (h : c ∈ L s) : 0 ≤ c ∧ c ≤ 255 := by
  unfold L at h
  obtain ⟨u, _, rfl⟩ := List.mem_map.1 h
  have := UInt8.toNat_lt u
  omega
theorem map_toNat_inj : ∀ (l m : List UInt8), l.map (fun c => (c.toNat : Int)) = m.map (fun c => (c.toNat : Int)) → l = m
  | [], [], _ => rfl
  | [], _ :: _, h => by simp at h
  | _ :: _, [], h => by simp at h
  | a :: l, b :: m, h => by
    simp only [List.map_cons, List.cons.injEq] at h
    have h1 : a = b := by apply UInt8.toNat_inj.1; omega
    rw [h1, map_toNat_inj l m h.2]
theorem L_inj {s t : ByteArray} (h : L s = L t) : s = t := by
  have := map_toNat_inj _ _ h
  cases s; cases t
  congr 1
  exact Array.toList_inj.1 this
theorem toList_L {s t : ByteArray} : s.data.toList = t.data.toList ↔ L s = L t := by
  constructor
  · intro h; unfold L; rw [h]
  · intro h; exact map_toNat_inj _ _ h
theorem L_append (s t : ByteArray) : L (s ++ t) = L s ++ L t := by
  unfold L
  rw [ByteArray.data_append]
  simp
/-- The rest of a list from a place on. -/
theorem drop_cons {α : Type} {l : List α} {n : Nat} {c : α} {t : List α} (h : l.drop n = c :: t) : n < l.length ∧ l[n]? = some c ∧ l.drop (n + 1) = t := by
  have h1 : n < l.length := by
    by_cases h1 : n < l.length
    · exact h1
    · rw [List.drop_eq_nil_of_le (by omega)] at h; cases h
  rw [List.drop_eq_getElem_cons h1] at h
  simp only [List.cons.injEq] at h
  exact ⟨h1, by rw [List.getElem?_eq_getElem h1, h.1], h.2⟩
theorem drop_nil {α : Type} {l : List α} {n : Nat} (h : l.drop n = []) : l.length ≤ n := by simpa using h
theorem sdrop_cons {s : ByteArray} {n : Nat} {c : Int} {t : List Int} (h : (L s).drop n = c :: t) : n < s.size ∧ bt s n = c ∧ (L s).drop (n + 1) = t := by
  obtain ⟨h1, h2, h3⟩ := drop_cons h
  rw [L_length] at h1
  rw [L_get s n h1] at h2
  exact ⟨h1, Option.some.inj h2, h3⟩
theorem sdrop_nil {s : ByteArray} {n : Nat} (h : (L s).drop n = []) : s.size ≤ n := by have := drop_nil h; rwa [L_length] at this
theorem wsucc {n m : Nat} (h : n < m) (hm : m ≤ 140737488355328) : wrap64 ((n : Int) + 1) = ((n + 1 : Nat) : Int) := by rw [w64 (by omega) (by omega)]; rfl
/-! digits -/
def isD (c : Int) : Bool := decide (48 ≤ c) && decide (c ≤ 57)
theorem isD_t {c : Int} : isD c = true ↔ 48 ≤ c ∧ c ≤ 57 := by simp [isD]
theorem isD_f {c : Int} : isD c = false ↔ c < 48 ∨ 57 < c := by
  rw [← Bool.not_eq_true, isD_t]; omega
theorem dig_mod {c : Int} (h : isD c = true) : (c - 48) % 256 = c - 48 := by rw [isD_t] at h; omega
/-! ## tab -/
/-! a list told by a function of its places -/
def tab (n : Nat) (f : Nat → Int) : List Int := (List.range n).map f
theorem tab_length (n : Nat) (f : Nat → Int) : (tab n f).length = n := by simp [tab]
theorem tab_get {n : Nat} {f : Nat → Int} {i : Nat} (h : i < n) : (tab n f)[i]? = some (f i) := by simp [tab, h]
theorem rd_tab {n : Nat} {f : Nat → Int} {i : Nat} (h : i < n) : rd (tab n f) (i : Int) = f i := by
  unfold rd; rw [Int.toNat_natCast, List.getD_eq_getElem?_getD, tab_get h]; rfl
theorem tab_congr {n : Nat} {f g : Nat → Int} (h : ∀ j, j < n → f j = g j) : tab n f = tab n g := by
  unfold tab; exact List.map_congr_left (fun j hj => h j (List.mem_range.1 hj))
theorem set_tab {n : Nat} {f : Nat → Int} (i : Nat) (v : Int) : (tab n f).set i v = tab n (fun j => if j = i then v else f j) := by
  apply List.ext_getElem?
  intro j
  rw [List.getElem?_set]
  by_cases hj : j < n
  · rw [tab_get (f := fun j => if j = i then v else f j) hj]
    by_cases e : i = j
    · subst e; rw [if_pos rfl, if_pos (by rw [tab_length]; exact hj), if_pos rfl]
    · rw [if_neg e, tab_get hj, if_neg (fun h => e h.symm)]
  · have h1 : (tab n f)[j]? = none := List.getElem?_eq_none (by rw [tab_length]; omega)
    have h2 : (tab n (fun j => if j = i then v else f j))[j]? = none := List.getElem?_eq_none (by rw [tab_length]; omega)
    rw [h1, h2]
    by_cases e : i = j
    · subst e; rw [if_pos rfl, if_neg (by rw [tab_length]; exact hj)]
    · rw [if_neg e]
theorem rep_tab (n : Nat) : List.replicate n (0 : Int) = tab n (fun _ => 0) := by
  apply List.ext_getElem?
  intro j
  by_cases hj : j < n
  · rw [tab_get hj]; simp [hj]
  · rw [List.getElem?_eq_none (by simp; omega), List.getElem?_eq_none (by rw [tab_length]; omega)]
theorem tab_one (v : Int) : [v] = tab 1 (fun _ => v) := rfl
/-! ## l1In -/
theorem l1In_f (a b c : Int) : spec_l1In.f a b c = some (decide (b ≤ a) && decide (a ≤ c)) := by
  unfold spec_l1In.f; by_cases h : b ≤ a <;> simp [h]
/-! ## check -/
theorem rd_nat (l : List Int) (n : Nat) : rd l (n : Int) = l.getD n 0 := by unfold rd; rw [Int.toNat_natCast]
theorem tab_self (l : List Int) : tab l.length (fun j => rd l (j : Int)) = l := by
  apply List.ext_getElem?
  intro j
  by_cases hj : j < l.length
  · rw [tab_get hj, List.getElem?_eq_getElem hj, rd_nat, List.getD_eq_getElem?_getD, List.getElem?_eq_getElem hj]; rfl
  · rw [List.getElem?_eq_none (by rw [tab_length]; omega), List.getElem?_eq_none (by omega)]
theorem toIntS_l0 (l : List Int) (hl : l.length ≤ 1048576) : ∀ d n : Nat, n + d = l.length →
    Ev (fun k => laws_toIntS.l0 k l (tab l.length (fun j => if j < n then rd l (j : Int) else 0)) (n : Int)) l
  | 0, n, h => by
    refine Ev.step (fun _ => laws_toIntS.l0.eq_2 ..) (Ev.neg (by omega) (Ev.eq ?_ (Ev.now _)))
    rw [tab_congr (g := fun j => rd l (j : Int)) (fun j hj => if_pos (by omega)), tab_self]
  | d + 1, n, h => by
    refine Ev.step (fun _ => laws_toIntS.l0.eq_2 ..) (Ev.pos (by omega) (Ev.pos (by omega) ?_))
    rw [tab_length, Int.toNat_natCast, set_tab, wsucc (m := l.length) (by omega) (by omega)]
    refine Ev.pos (by omega) ?_
    rw [tab_congr (g := fun j => if j < n + 1 then rd l (j : Int) else 0)]
    · exact toIntS_l0 l hl d (n + 1) (by omega)
    · intro j _
      by_cases e : j = n
      · subst e; rw [if_pos rfl, if_pos (by omega)]
      · rw [if_neg e]
        by_cases e2 : j < n
        · rw [if_pos e2, if_pos (by omega)]
        · rw [if_neg e2, if_neg (by omega)]
theorem toIntS_f (l : List Int) (hl : l.length ≤ 1048576) : Ev (fun k => laws_toIntS.f k l) l := by
  have h := toIntS_l0 l hl l.length 0 (by omega)
  rw [tab_congr (g := fun _ => 0) (fun j _ => if_neg (by omega)), ← rep_tab] at h
  refine Ev.pos (by omega) (Ev.pos (by rw [Int.toNat_natCast]; omega) ?_)
  rw [Int.toNat_natCast]
  exact h
theorem toCheck_f (l : List Int) (m : Int) (hl : l.length ≤ 1048576) : Ev (fun k => laws_toCheck.f k l m) (l, m) := Ev.bind (toIntS_f l hl) (Ev.now _)
theorem eqIntS_l0 (l : List Int) (hl : l.length ≤ 1048576) : ∀ d n : Nat, n + d = l.length → Ev (fun k => laws_eqIntS.l0 k l l (n : Int)) true
  | 0, n, h => Ev.step (fun _ => laws_eqIntS.l0.eq_2 ..) (Ev.neg (by omega) (Ev.now _))
  | d + 1, n, h => by
    refine Ev.step (fun _ => laws_eqIntS.l0.eq_2 ..) (Ev.pos (by omega) (Ev.pos (by omega) (Ev.pos (by omega) (Ev.pos rfl ?_))))
    rw [wsucc (m := l.length) (by omega) (by omega)]
    exact eqIntS_l0 l hl d (n + 1) (by omega)
theorem eqIntS_f (l : List Int) (hl : l.length ≤ 1048576) : Ev (fun k => laws_eqIntS.f k l l) true := Ev.pos rfl (eqIntS_l0 l hl l.length 0 (by omega))
theorem eqCheck_f (l : List Int) (m : Int) (hl : l.length ≤ 1048576) : Ev (fun k => laws_eqCheck.f k l m l m) true := Ev.bind (eqIntS_f l hl) (Ev.pos rfl (Ev.pos rfl (Ev.now _)))
theorem szCheck_f (l : List Int) (m : Int) (hl : l.length ≤ 9223372036854775807) : laws_szCheck.f l m 1048576 = some (if 1048576 - (l.length : Int) < 0 then -1 else 1048576 - (l.length : Int)) := by
  unfold laws_szCheck.f laws_szIntS.f
  rw [w64 (by omega) (by omega)]
  by_cases h : 1048576 - (l.length : Int) < 0
  · rw [if_pos h, if_pos h]; rfl
  · rw [if_neg h, if_neg h, Option.bind_some, if_neg h]
/-! ## slGood -/
/-- Is it a check. -/
def chk (l : List Int) (m : Int) : Bool := ((decide ((2 : Int) ≤ l.length) && decide ((l.length : Int) ≤ 12)) && (decide (2 ≤ m) && decide (m ≤ 11))) && l.all (fun x => decide (0 ≤ x) && decide (x ≤ m - 1))
theorem IsCheck_f (l : List Int) (m : Int) : impl_IsCheck.f l m = some (chk l m) := rfl
theorem chk_t {l : List Int} {m : Int} (h : chk l m = true) : 2 ≤ l.length ∧ l.length ≤ 12 ∧ 2 ≤ m ∧ m ≤ 11 ∧ ∀ x ∈ l, 0 ≤ x ∧ x ≤ m - 1 := by
  unfold chk at h
  simp only [Bool.and_eq_true, decide_eq_true_eq, List.all_eq_true] at h
  obtain ⟨⟨⟨h1, h2⟩, h3, h4⟩, h5⟩ := h
  exact ⟨by omega, by omega, h3, h4, h5⟩
theorem l1All_l0 (l : List Int) (lo hi : Int) (hl : l.length ≤ 1048576) : ∀ (t : List Int) (n : Nat), l.drop n = t →
    Ev (fun k => spec_l1All.l0 k lo hi l (l.length : Int) (n : Int)) (t.all (fun x => decide (lo ≤ x) && decide (x ≤ hi)))
  | [], n, h => Ev.step (fun _ => spec_l1All.l0.eq_2 ..) (Ev.neg (by have := drop_nil h; omega) (Ev.now _))
  | c :: t, n, h => by
    obtain ⟨h1, h2, h3⟩ := drop_cons h
    have hr : rd l (n : Int) = c := by rw [rd_nat, List.getD_eq_getElem?_getD, h2]; rfl
    refine Ev.step (fun _ => spec_l1All.l0.eq_2 ..) (Ev.pos (by omega) (Ev.pos (by omega) (Ev.pos (by omega) (Ev.sm (l1In_f _ _ _) ?_))))
    rw [hr, wsucc h1 (by omega), List.all_cons]
    cases hq : (decide (lo ≤ c) && decide (c ≤ hi)) with
    | true => exact Ev.pos rfl (l1All_l0 l lo hi hl t (n + 1) h3)
    | false => exact Ev.neg (by decide) (Ev.now _)
theorem slGood_f (l : List Int) (m : Int) (hl : l.length ≤ 1048576) : Ev (fun k => spec_slGood.f k l m) (chk l m) := by
  unfold chk
  refine Ev.sm (l1In_f _ _ _) ?_
  cases h1 : (decide ((2 : Int) ≤ l.length) && decide ((l.length : Int) ≤ 12)) with
  | false => exact Ev.neg (by decide) (Ev.now _)
  | true =>
    refine Ev.pos rfl (Ev.sm (l1In_f _ _ _) ?_)
    cases h2 : (decide ((2 : Int) ≤ m) && decide (m ≤ 11)) with
    | false => exact Ev.neg (by decide) (Ev.now _)
    | true =>
      simp only [Bool.and_eq_true, decide_eq_true_eq] at h2
      refine Ev.pos rfl ?_
      rw [w64 (x := m - 1) (by omega) (by omega)]
      exact Ev.bind (l1All_l0 l 0 (m - 1) hl l 0 rfl) (Ev.now _)
/-! ## str -/
theorem tl_eq {s t : ByteArray} : s.toList = t.toList ↔ s = t := by
  rw [ByteArray.toList_eq, ByteArray.toList_eq, toList_L]
  exact ⟨L_inj, fun h => by rw [h]⟩
theorem L_extract (s : ByteArray) (a b : Nat) : L (s.extract a b) = ((L s).take b).drop a := by
  unfold L
  rw [ByteArray.data_extract]
  simp [List.map_drop, List.map_take, List.drop_take]
theorem L_nil : L (⟨#[]⟩ : ByteArray) = [] := rfl
theorem size_L (s : ByteArray) : s.size = (L s).length := (L_length s).symm
theorem size_ext (s : ByteArray) (a b : Nat) : (s.extract a b).size = min b s.size - a := by rw [size_L, L_extract, List.length_drop, List.length_take, L_length]
theorem size_app (s t : ByteArray) : (s ++ t).size = s.size + t.size := by rw [size_L, L_append, List.length_append, L_length, L_length]
/-! ## sumWD -/
/-- The sum of digits, each times its weight. -/
def sumW : List Int → List Int → Int
  | w :: ws, d :: ds => w * (d - 48) + sumW ws ds
  | _, _ => 0
theorem term_bd {w d : Int} (hw : 0 ≤ w ∧ w ≤ 11) (hd : isD d = true) : 0 ≤ w * (d - 48) ∧ w * (d - 48) ≤ 99 := by
  have hd' := isD_t.1 hd
  have h1 : 0 ≤ w * (d - 48) := Int.mul_nonneg hw.1 (by omega)
  have h2 : w * (d - 48) ≤ 11 * (d - 48) := Int.mul_le_mul_of_nonneg_right hw.2 (by omega)
  omega
theorem sumW_bd : ∀ (ws ds : List Int), (∀ x ∈ ws, 0 ≤ x ∧ x ≤ 11) → ds.all isD = true → 0 ≤ sumW ws ds ∧ sumW ws ds ≤ 99 * ws.length
  | [], _, _, _ => by simp [sumW]
  | _ :: _, [], _, _ => by simp [sumW]; omega
  | w :: ws, d :: ds, hw, hd => by
    rw [List.all_cons, Bool.and_eq_true] at hd
    have h1 := term_bd (hw w (by simp)) hd.1
    have h2 := sumW_bd ws ds (fun x hx => hw x (by simp [hx])) hd.2
    rw [sumW, List.length_cons]; omega
/-! ## slSumW -/
theorem slSum_l0 (s : ByteArray) (l : List Int) (hs : s.size = l.length) (hl : l.length ≤ 12) : ∀ (ws ds : List Int) (n : Nat) (acc : Int), l.drop n = ws → (L s).drop n = ds → (∀ x ∈ ws, 0 ≤ x ∧ x ≤ 11) → ds.all isD = true → 0 ≤ acc → acc ≤ 99 * n →
    Ev (fun k => spec_slSum.l0 k s acc l (l.length : Int) (n : Int)) (acc + sumW ws ds)
  | [], ds, n, acc, h1, _, _, _, _, _ => by
    refine Ev.step (fun _ => spec_slSum.l0.eq_2 ..) (Ev.neg (by have := drop_nil h1; omega) (Ev.eq ?_ (Ev.now _)))
    rw [sumW, Int.add_zero]
    intros; simp_all
  | w :: ws, [], n, acc, h1, h2, _, _, _, _ => by
    have := (drop_cons h1).1; have := sdrop_nil h2; omega
  | w :: ws, d :: ds, n, acc, h1, h2, hw, hd, ha, hb => by
    obtain ⟨g1, g2, g3⟩ := drop_cons h1
    obtain ⟨k1, k2, k3⟩ := sdrop_cons h2
    rw [List.all_cons, Bool.and_eq_true] at hd
    have ht := term_bd (hw w (by simp)) hd.1
    have hr : rd l (n : Int) = w := by rw [rd_nat, List.getD_eq_getElem?_getD, g2]; rfl
    refine Ev.step (fun _ => spec_slSum.l0.eq_2 ..) (Ev.pos (by omega) (Ev.pos (by omega) (Ev.pos (by omega) (Ev.pos (by omega) ?_))))
    rw [k2, hr, dig_mod hd.1, wsucc g1 (by omega), w64 (x := w * (d - 48)) (by omega) (by omega), w64 (x := acc + w * (d - 48)) (by omega) (by omega), sumW, ← Int.add_assoc]
    exact slSum_l0 s l hs hl ws ds (n + 1) _ g3 k3 (fun x hx => hw x (by simp [hx])) hd.2 (by omega) (by omega)
theorem slSum_f (s : ByteArray) (l : List Int) (m : Int) (hs : s.size = l.length) (hl : l.length ≤ 12) (hw : ∀ x ∈ l, 0 ≤ x ∧ x ≤ 11) (hd : (L s).all isD = true) : Ev (fun k => spec_slSum.f k l m s) (sumW l (L s)) := by
  have h := slSum_l0 s l hs hl l (L s) 0 0 rfl rfl hw hd (by omega) (by omega)
  rw [Int.zero_add] at h
  exact h
/-! ## sndS -/
/-- Is a number sound. -/
def snd (l : List Int) (m : Int) (s : ByteArray) : Bool := Int.tmod (sumW l (L s)) m == 0
theorem slSound_f (s : ByteArray) (l : List Int) (m : Int) (hm : 2 ≤ m) (hs : s.size = l.length) (hl : l.length ≤ 12) (hw : ∀ x ∈ l, 0 ≤ x ∧ x ≤ 11) (hd : (L s).all isD = true) : Ev (fun k => spec_slSound.f k l m s) (snd l m s) :=
  Ev.bind (slSum_f s l m hs hl hw hd) (Ev.neg (by omega) (Ev.now _))
/-! ## num -/
/-- Ten to a power. -/
def p10 (n : Nat) : Int := 10 ^ n
theorem p10_succ (n : Nat) : p10 (n + 1) = 10 * p10 n := by unfold p10; rw [Int.pow_succ, Int.mul_comm]
theorem p10_pos (n : Nat) : 1 ≤ p10 n := by
  induction n with
  | zero => decide
  | succ n ih => rw [p10_succ]; omega
theorem p10_mono {n m : Nat} (h : n ≤ m) : p10 n ≤ p10 m := by
  obtain ⟨d, rfl⟩ : ∃ d, m = n + d := ⟨m - n, by omega⟩
  clear h
  induction d with
  | zero => exact Int.le_refl _
  | succ d ih => rw [← Nat.add_assoc, p10_succ]; have := p10_pos (n + d); omega
theorem p10_9 {n : Nat} (h : n ≤ 9) : p10 n ≤ 1000000000 := p10_mono h
/-- The number that digits tell, behind what stands before them. -/
def numF (a : Int) (l : List Int) : Int := l.foldl (fun n c => 10 * n + (c - 48)) a
theorem numF_cons (a c : Int) (l : List Int) : numF a (c :: l) = numF (10 * a + (c - 48)) l := rfl
theorem numF_bd : ∀ (l : List Int) (a : Int), l.all isD = true → 0 ≤ a → a * p10 l.length ≤ numF a l ∧ numF a l < (a + 1) * p10 l.length
  | [], a, _, h => by simp [numF, p10]; omega
  | c :: l, a, hl, h => by
    rw [List.all_cons, Bool.and_eq_true] at hl
    have hc := isD_t.1 hl.1
    have ih := numF_bd l (10 * a + (c - 48)) hl.2 (by omega)
    have hp := p10_pos l.length
    rw [numF_cons, List.length_cons, p10_succ]
    have e1 : a * (10 * p10 l.length) ≤ (10 * a + (c - 48)) * p10 l.length := by
      rw [← Int.mul_assoc]; exact Int.mul_le_mul_of_nonneg_right (by omega) (by omega)
    have e2 : (10 * a + (c - 48) + 1) * p10 l.length ≤ (a + 1) * (10 * p10 l.length) := by
      rw [← Int.mul_assoc]; exact Int.mul_le_mul_of_nonneg_right (by omega) (by omega)
    omega
/-- A number with room for so many digits behind it. -/
theorem num_step {a c : Int} {n : Nat} (ha : 0 ≤ a) (hc : 48 ≤ c ∧ c ≤ 57) (h : (a + 1) * p10 (n + 1) ≤ 1000000000000000000) : 0 ≤ 10 * a + (c - 48) ∧ (10 * a + (c - 48) + 1) * p10 n ≤ 1000000000000000000 ∧ 10 * a + (c - 48) ≤ 1000000000000000000 := by
  have hp := p10_pos n
  rw [p10_succ, ← Int.mul_assoc] at h
  have e2 : (10 * a + (c - 48) + 1) * p10 n ≤ (a + 1) * 10 * p10 n := Int.mul_le_mul_of_nonneg_right (by omega) (by omega)
  have e3 : (10 * a + (c - 48) + 1) * 1 ≤ (10 * a + (c - 48) + 1) * p10 n := Int.mul_le_mul_of_nonneg_left hp (by omega)
  omega
/-! ## dec -/
/-- The decimal digits of a number, as bytes told as numbers. -/
def Dg (n : Nat) : List Int := (Go.Lib.decDigits n).map (fun c => (c.toNat : Int))
theorem u8n {n : Nat} (h : n < 256) : (((UInt8.ofNat n).toNat : Nat) : Int) = (n : Int) := by
  rw [UInt8.toNat_ofNat', Nat.mod_eq_of_lt (by omega)]
theorem Dg_small {n : Nat} (h : n < 10) : Dg n = [48 + (n : Int)] := by
  unfold Dg
  rw [Go.Lib.decDigits, dif_pos h, List.map_cons, List.map_nil, u8n (by omega)]
  rfl
theorem Dg_big {n : Nat} (h : 10 ≤ n) : Dg n = Dg (n / 10) ++ [48 + ((n % 10 : Nat) : Int)] := by
  unfold Dg
  conv => lhs; rw [Go.Lib.decDigits, dif_neg (by omega)]
  rw [List.map_append, List.map_cons, List.map_nil, u8n (by omega)]
  rfl
theorem L_itoa (n : Nat) : L (⟨(Go.Lib.itoa (n : Int)).toArray⟩ : ByteArray) = Dg n := by
  unfold L Dg Go.Lib.itoa
  rw [if_neg (by omega), Int.toNat_natCast]
theorem L_dec (n : Nat) : L (⟨(Go.Lib.decDigits n).toArray⟩ : ByteArray) = Dg n := rfl
theorem Dg_dig : ∀ b n : Nat, n ≤ b → (Dg n).all isD = true
  | 0, n, h => by
    rw [Dg_small (by omega)]
    simp [isD]; omega
  | b + 1, n, h => by
    by_cases hn : n < 10
    · rw [Dg_small hn]
      simp [isD]; omega
    · rw [Dg_big (by omega), List.all_append, Dg_dig b (n / 10) (by omega)]
      simp [isD]; omega
theorem Dg_isD (n : Nat) : (Dg n).all isD = true := Dg_dig n n (Nat.le_refl _)
theorem Dg_pos : ∀ n : Nat, 1 ≤ (Dg n).length := by
  intro n
  by_cases hn : n < 10
  · rw [Dg_small hn]; simp
  · rw [Dg_big (by omega)]; simp
theorem numF_app (a : Int) (l m : List Int) : numF a (l ++ m) = numF (numF a l) m := by unfold numF; rw [List.foldl_append]
theorem Dg_num : ∀ b n : Nat, n ≤ b → numF 0 (Dg n) = n
  | 0, n, h => by
    rw [Dg_small (by omega)]
    simp [numF]; omega
  | b + 1, n, h => by
    by_cases hn : n < 10
    · rw [Dg_small hn]
      simp [numF]; omega
    · rw [Dg_big (by omega), numF_app, Dg_num b (n / 10) (by omega)]
      simp [numF]; omega
theorem num_Dg (n : Nat) : numF 0 (Dg n) = n := Dg_num n n (Nat.le_refl _)
/-- The last k digits of a number, zeros in front. -/
def TD : Nat → Nat → List Int
  | 0, _ => []
  | k + 1, n => TD k (n / 10) ++ [48 + ((n % 10 : Nat) : Int)]
theorem TD_len : ∀ k n, (TD k n).length = k
  | 0, _ => rfl
  | k + 1, n => by rw [TD, List.length_append, TD_len k]; rfl
theorem TD_dig : ∀ k n, (TD k n).all isD = true
  | 0, _ => rfl
  | k + 1, n => by
    rw [TD, List.all_append, TD_dig k]
    simp [isD]; omega
theorem TD_num : ∀ k n : Nat, n < 10 ^ k → numF 0 (TD k n) = n
  | 0, n, h => by
    simp at h
    subst h
    rfl
  | k + 1, n, h => by
    rw [Nat.pow_succ] at h
    rw [TD, numF_app, TD_num k (n / 10) (by omega)]
    simp [numF]; omega
theorem TD_Dg : ∀ k n : Nat, n < 10 ^ (k + 1) → (Dg n).length ≤ k + 1 ∧ TD (k + 1) n = List.replicate (k + 1 - (Dg n).length) 48 ++ Dg n
  | 0, n, h => by
    have hn : n < 10 := by simpa using h
    rw [Dg_small hn]
    refine ⟨by simp, ?_⟩
    rw [TD, TD, Nat.mod_eq_of_lt hn]
    simp
  | k + 1, n, h => by
    rw [Nat.pow_succ] at h
    obtain ⟨h1, h2⟩ := TD_Dg k (n / 10) (by omega)
    rw [TD, h2]
    by_cases hn : n < 10
    · have h0 : n / 10 = 0 := by omega
      rw [h0, Dg_small hn, Dg_small (by omega), Nat.mod_eq_of_lt hn]
      refine ⟨by simp, ?_⟩
      simp only [List.length_singleton, Nat.add_sub_cancel]
      rw [List.replicate_succ']
      simp
    · rw [Dg_big (n := n) (by omega), List.length_append, List.length_singleton]
      refine ⟨by omega, ?_⟩
      rw [show k + 1 + 1 - ((Dg (n / 10)).length + 1) = k + 1 - (Dg (n / 10)).length by omega, List.append_assoc]
/-- Ten to a power in both kinds of numbers. -/
theorem p10_nat (k : Nat) : p10 k = ((10 ^ k : Nat) : Int) := by unfold p10; exact (Int.natCast_pow 10 k).symm
/-! ## strnum -/
theorem ofNat_toNat {c : Int} (h : 0 ≤ c ∧ c ≤ 255) : (((UInt8.ofNat c.toNat).toNat : Nat) : Int) = c := by
  rw [UInt8.toNat_ofNat', Nat.mod_eq_of_lt (by omega)]; omega
theorem L_strOfNums (l : List Int) (h : ∀ c ∈ l, 0 ≤ c ∧ c ≤ 255) : L (strOfNums l) = l := by
  unfold L strOfNums
  rw [List.map_map]
  conv => rhs; rw [← List.map_id l]
  exact List.map_congr_left (fun c hc => ofNat_toNat (h c hc))
/-! ## decs -/
/-- A number's decimal text. -/
def decS (n : Nat) : ByteArray := ⟨(Go.Lib.decDigits n).toArray⟩
theorem L_decS (n : Nat) : L (decS n) = Dg n := rfl
theorem Dg_le19 (n : Nat) (h : n ≤ 9223372036854775807) : (Dg n).length ≤ 19 := (TD_Dg 18 n (by omega)).1
theorem size_decS (n : Nat) : (decS n).size = (Dg n).length := by rw [size_L, L_decS]
theorem one_dig {n : Nat} (h : n < 10) : strOfNums [wrap64 (48 + (n : Int)) % 256] = decS n := by
  apply L_inj
  rw [L_decS, Dg_small h, w64 (by omega) (by omega), Int.emod_eq_of_lt (by omega) (by omega), L_strOfNums]
  intro c hc
  rw [List.mem_singleton] at hc
  omega
/-! ## l1Num -/
theorem l1Num_b : ∀ b n : Nat, n ≤ b → n ≤ 9223372036854775807 → Ev (fun k => spec_l1Num.f k (n : Int)) (decS n)
  | 0, n, h, hb => by
    refine Ev.step (fun _ => spec_l1Num.f.eq_2 ..) (Ev.pos (by omega) (Ev.eq ?_ (Ev.now _)))
    exact (one_dig (by omega)).symm
  | b + 1, n, h, hb => by
    refine Ev.step (fun _ => spec_l1Num.f.eq_2 ..) ?_
    by_cases hn : n < 10
    · exact Ev.pos (by omega) (Ev.eq (one_dig hn).symm (Ev.now _))
    · refine Ev.neg (by omega) ?_
      rw [show Int.tdiv (n : Int) 10 = ((n / 10 : Nat) : Int) from rfl, w64n (x := n / 10) (by omega), show Int.tmod (n : Int) 10 = ((n % 10 : Nat) : Int) from rfl]
      refine Ev.bind (l1Num_b b (n / 10) (by omega) (by omega)) (Ev.sm rfl ?_)
      rw [one_dig (n := n % 10) (by omega)]
      have h1 : (decS (n / 10)).size ≤ 19 := by rw [size_decS]; exact Dg_le19 _ (by omega)
      have h2 : (decS (n % 10)).size ≤ 19 := by rw [size_decS]; exact Dg_le19 _ (by omega)
      refine Ev.pos (by omega) (Ev.eq ?_ (Ev.now _))
      apply L_inj
      rw [L_append, L_decS, L_decS, L_decS, Dg_big (n := n) (by omega), Dg_small (n := n % 10) (by omega)]
theorem l1Num_f (n : Nat) (h : n ≤ 9223372036854775807) : Ev (fun k => spec_l1Num.f k (n : Int)) (decS n) := l1Num_b n n (Nat.le_refl _) h
/-! ## put -/
/-- A text with another digit at a place. -/
def putS (s : ByteArray) (p d : Nat) : ByteArray := ((s.extract 0 p) ++ decS d) ++ s.extract (p + 1) s.size
theorem L_putS (s : ByteArray) (p d : Nat) (hp : p < s.size) (hd : d < 10) : L (putS s p d) = (L s).set p (48 + (d : Int)) := by
  unfold putS
  rw [L_append, L_append, L_extract, L_extract, L_decS, Dg_small hd, List.drop_zero]
  rw [List.take_of_length_le (l := L s) (i := s.size) (by rw [L_length]; omega)]
  rw [List.set_eq_take_append_cons_drop, if_pos (by rw [L_length]; exact hp), List.append_assoc]
  rfl
theorem putS_size (s : ByteArray) (p d : Nat) (hp : p < s.size) (hd : d < 10) : (putS s p d).size = s.size := by
  rw [size_L, L_putS s p d hp hd, List.length_set, L_length]
theorem putS_dig {s : ByteArray} {p d : Nat} (hp : p < s.size) (hd : d < 10) (h : (L s).all isD = true) : (L (putS s p d)).all isD = true := by
  rw [L_putS s p d hp hd, List.all_eq_true]
  intro c hc
  rcases List.mem_or_eq_of_mem_set hc with h1 | h1
  · exact List.all_eq_true.1 h c h1
  · subst h1; rw [isD_t]; omega
theorem slPut_f (s : ByteArray) (p d : Nat) (hp : p < s.size) (hd : d < 10) (hs : s.size ≤ 140737488351232) : Ev (fun k => spec_slPut.f k s (p : Int) (d : Int)) (putS s p d) := by
  have e1 : wrap64 ((p : Int) + 1) = ((p + 1 : Nat) : Int) := by rw [w64 (by omega) (by omega)]; rfl
  have hz := putS_size s p d hp hd
  have h1 : (decS d).size = 1 := by rw [size_decS, Dg_small hd]; rfl
  unfold putS at hz
  refine Ev.pos (by omega) (Ev.pos (by omega) (Ev.bind (l1Num_f d (by omega)) ?_))
  rw [e1, Int.toNat_natCast, Int.toNat_natCast]
  refine Ev.pos (by rw [size_ext, h1]; omega) (Ev.pos (by omega) (Ev.pos (by omega) (Ev.pos ?_ (Ev.now _))))
  rw [← size_app, hz]; omega
/-! ## dist -/
/-! how many texts of digits have each rest -/
def addF (f : Nat → Int) (i : Nat) (v : Int) : Nat → Int := fun j => if j = i then f j + v else f j
def inD (M w r : Nat) (v : Int) (f : Nat → Int) : Nat → (Nat → Int)
  | 0 => f
  | d + 1 => addF (inD M w r v f d) ((r + w * d) % M) v
def inR (M w : Nat) (out : Nat → Int) : Nat → (Nat → Int)
  | 0 => fun _ => 0
  | r + 1 => inD M w r (out r) (inR M w out r) 10
def stp (M w : Nat) (out : Nat → Int) : Nat → Int := inR M w out M
def tot (f : Nat → Int) : Nat → Int
  | 0 => 0
  | n + 1 => tot f n + f n
theorem tot_addF {f : Nat → Int} {i : Nat} {v : Int} : ∀ n, tot (addF f i v) n = tot f n + (if i < n then v else 0)
  | 0 => by simp [tot]
  | n + 1 => by
    rw [tot, tot, tot_addF n]
    unfold addF
    by_cases h : n = i
    · subst h; rw [if_pos rfl, if_neg (by omega), if_pos (by omega)]; omega
    · rw [if_neg h]
      by_cases h2 : i < n
      · rw [if_pos h2, if_pos (by omega)]; omega
      · rw [if_neg h2, if_neg (by omega)]; omega
theorem tot_lo {f : Nat → Int} (h : ∀ j, 0 ≤ f j) : ∀ n, 0 ≤ tot f n
  | 0 => Int.le_refl _
  | n + 1 => by rw [tot]; have := tot_lo h n; have := h n; omega
theorem tot_ge {f : Nat → Int} (h : ∀ j, 0 ≤ f j) : ∀ n j, j < n → f j ≤ tot f n
  | n + 1, j, hj => by
    rw [tot]
    by_cases e : j = n
    · subst e; have := tot_lo h j; omega
    · have := tot_ge h n j (by omega); have := h n; omega
theorem addF_lo {f : Nat → Int} {i : Nat} {v : Int} (h : ∀ j, 0 ≤ f j) (hv : 0 ≤ v) (j : Nat) : 0 ≤ addF f i v j := by
  unfold addF; have := h j; split <;> omega
theorem inD_lo {M w r : Nat} {v : Int} {f : Nat → Int} (h : ∀ j, 0 ≤ f j) (hv : 0 ≤ v) : ∀ d j, 0 ≤ inD M w r v f d j
  | 0, j => h j
  | d + 1, j => addF_lo (inD_lo h hv d) hv j
theorem inD_tot {M w r : Nat} {v : Int} {f : Nat → Int} (hM : 0 < M) : ∀ d : Nat, tot (inD M w r v f d) M = tot f M + d * v
  | 0 => by simp [inD]
  | d + 1 => by
    rw [inD, tot_addF, inD_tot hM d, if_pos (Nat.mod_lt _ hM), Int.natCast_add, Int.add_mul]
    simp only [Int.natCast_one, Int.one_mul]
    omega
theorem inR_lo {M w : Nat} {out : Nat → Int} (h : ∀ j, 0 ≤ out j) : ∀ r j, 0 ≤ inR M w out r j
  | 0, _ => Int.le_refl _
  | r + 1, j => inD_lo (inR_lo h r) (h r) 10 j
theorem inR_tot {M w : Nat} {out : Nat → Int} (hM : 0 < M) : ∀ r : Nat, tot (inR M w out r) M = 10 * tot out r
  | 0 => by
    have : ∀ n, tot (fun _ => (0 : Int)) n = 0 := by
      intro n; induction n with
      | zero => rfl
      | succ n ih => rw [tot, ih]; rfl
    rw [inR, this]; rfl
  | r + 1 => by rw [inR, inD_tot hM, inR_tot hM r, tot]; omega
theorem tot_mono {f : Nat → Int} (h : ∀ j, 0 ≤ f j) : ∀ {n m : Nat}, n ≤ m → tot f n ≤ tot f m := by
  intro n m hnm
  obtain ⟨d, rfl⟩ : ∃ d, m = n + d := ⟨m - n, by omega⟩
  clear hnm
  induction d with
  | zero => exact Int.le_refl _
  | succ d ih => rw [← Nat.add_assoc, tot]; have := h (n + d); omega
/-- One text, of no digit, with the rest 0. -/
def e0 : Nat → Int := fun j => if j = 0 then 1 else 0
def dist (M : Nat) (ws : List Int) (out : Nat → Int) : Nat → Int := ws.foldl (fun f w => stp M w.toNat f) out
theorem e0_lo (j : Nat) : 0 ≤ e0 j := by unfold e0; split <;> omega
theorem e0_tot : ∀ n, tot e0 (n + 1) = 1
  | 0 => rfl
  | n + 1 => by rw [tot, e0_tot n]; unfold e0; rw [if_neg (by omega)]; rfl
theorem tab_e0 (n : Nat) : (tab (n + 1) (fun _ => 0)).set (0 : Int).toNat 1 = tab (n + 1) e0 := by
  rw [show (0 : Int).toNat = 0 from rfl, set_tab]; exact tab_congr (fun j _ => rfl)
/-- The place at which a digit is counted. -/
theorem place_eq {M w r d : Nat} (hM : 0 < M) (hM2 : M ≤ 11) (hw : w ≤ 11) (hr : r ≤ 11) (hd : d ≤ 10) : Int.tmod (wrap64 ((r : Int) + wrap64 ((w : Int) * (d : Int)))) (M : Int) = (((r + w * d) % M : Nat) : Int) := by
  have hb : w * d ≤ 11 * 10 := Nat.mul_le_mul hw hd
  rw [← Int.natCast_mul, w64n (by omega), ← Int.natCast_add, w64n (by omega), tmodN]
/-! ## rests -/
theorem rests_l2 {M w r : Nat} {v x18 x19 x27 : Int} {x17 x26 l : List Int} {f : Nat → Int} {res : List Int} (hM : 2 ≤ M) (hM2 : M ≤ 11) (hw : w ≤ 11) (hr : r < M) (hf : ∀ j, 0 ≤ f j) (hv : 0 ≤ v) (hb : tot f M + 10 * v ≤ 1000000000000000000)
    (h : Ev (fun k => impl_Check_rests.l1 k (w : Int) (tab M (inD M w r v f 10)) x17 x18 x19 x26 x27 (wrap64 ((r : Int) + 1)) l (M : Int)) res) : ∀ e d : Nat, d + e = 10 →
    Ev (fun k => impl_Check_rests.l2 k (w : Int) (tab M (inD M w r v f d)) (r : Int) v x17 x18 x19 x26 x27 (r : Int) (d : Int) l (M : Int)) res
  | 0, d, hd => by
    obtain rfl : d = 10 := by omega
    exact Ev.step (fun _ => impl_Check_rests.l2.eq_2 ..) (Ev.neg (by omega) h)
  | e + 1, d, hd => by
    refine Ev.step (fun _ => impl_Check_rests.l2.eq_2 ..) (Ev.pos (by omega) (Ev.neg (by omega) ?_))
    have hp : (r + w * d) % M < M := Nat.mod_lt _ (by omega)
    rw [place_eq (by omega) hM2 hw (by omega) (by omega), Int.toNat_natCast, tab_length, rd_tab hp, set_tab, wsucc (m := 10) (by omega) (by omega)]
    have hg := tot_ge (f := inD M w r v f d) (fun j => inD_lo hf hv d j) M _ hp
    have hg0 := inD_lo (M := M) (w := w) (r := r) hf hv d ((r + w * d) % M)
    have ht := inD_tot (M := M) (w := w) (r := r) (v := v) (f := f) (by omega) d
    have hdv : (d : Int) * v ≤ 9 * v := Int.mul_le_mul_of_nonneg_right (by omega) hv
    rw [w64 (x := inD M w r v f d ((r + w * d) % M) + v) (by omega) (by omega)]
    refine Ev.pos (by omega) (Ev.pos (by omega) ?_)
    rw [tab_congr (g := inD M w r v f (d + 1))]
    · exact rests_l2 hM hM2 hw hr hf hv hb h e (d + 1) (by omega)
    · intro j _
      rw [inD]; unfold addF
      by_cases e1 : j = (r + w * d) % M
      · rw [if_pos e1, if_pos e1, e1]
      · rw [if_neg e1, if_neg e1]
theorem rests_l1 {M w : Nat} {x18 x19 : Int} {x17 l : List Int} {out : Nat → Int} {res : List Int} (hM : 2 ≤ M) (hM2 : M ≤ 11) (hw : w ≤ 11) (hf : ∀ j, 0 ≤ out j) (hb : 10 * tot out M ≤ 1000000000000000000)
    (h : Ev (fun k => impl_Check_rests.l0 k (tab M (stp M w out)) x17 x18 (wrap64 (x19 + 1)) l (M : Int)) res) : ∀ e r : Nat, r + e = M →
    Ev (fun k => impl_Check_rests.l1 k (w : Int) (tab M (inR M w out r)) x17 x18 x19 (tab M out) (M : Int) (r : Int) l (M : Int)) res
  | 0, r, hr => by
    obtain rfl : r = M := by omega
    exact Ev.step (fun _ => impl_Check_rests.l1.eq_2 ..) (Ev.neg (by omega) h)
  | e + 1, r, hr => by
    refine Ev.step (fun _ => impl_Check_rests.l1.eq_2 ..) (Ev.pos (by omega) (Ev.pos (by omega) ?_))
    rw [tab_length, rd_tab (by omega)]
    have ht := inR_tot (M := M) (w := w) (out := out) (by omega) r
    have hm := tot_mono hf (n := r + 1) (m := M) (by omega)
    rw [tot] at hm
    refine Ev.pos (by omega) (rests_l2 (f := inR M w out r) (v := out r) hM hM2 hw (by omega) (fun j => inR_lo hf r j) (hf r) (by omega) ?_ 10 0 (by omega))
    rw [wsucc (m := M) (by omega) (by omega)]
    exact rests_l1 hM hM2 hw hf hb h e (r + 1) (by omega)
theorem stp_tot {M w : Nat} {out : Nat → Int} (hM : 0 < M) : tot (stp M w out) M = 10 * tot out M := inR_tot hM M
theorem rests_l0 {M : Nat} {l ws : List Int} (hM : 2 ≤ M) (hM2 : M ≤ 11) (hws : ∀ x ∈ ws, 0 ≤ x ∧ x ≤ 11) (hl : ws.length ≤ 1048576) : ∀ (t : List Int) (n : Nat) (out : Nat → Int), ws.drop n = t → (∀ j, 0 ≤ out j) → tot out M * 10 ^ t.length ≤ 1000000000000000000 →
    Ev (fun k => impl_Check_rests.l0 k (tab M out) ws (ws.length : Int) (n : Int) l (M : Int)) (tab M (dist M t out))
  | [], n, out, h, _, _ => Ev.step (fun _ => impl_Check_rests.l0.eq_2 ..) (Ev.neg (by have := drop_nil h; omega) (Ev.now _))
  | c :: t, n, out, h, hf, hb => by
    obtain ⟨h1, h2, h3⟩ := drop_cons h
    have hr : rd ws (n : Int) = c := by unfold rd; rw [Int.toNat_natCast, List.getD_eq_getElem?_getD, h2]; rfl
    have hc := hws c (List.mem_of_getElem? h2)
    refine Ev.step (fun _ => impl_Check_rests.l0.eq_2 ..) (Ev.pos (by omega) (Ev.pos (by omega) (Ev.pos (by omega) (Ev.pos (by omega) (Ev.pos (by rw [Int.toNat_natCast]; omega) ?_)))))
    rw [hr, Int.toNat_natCast, rep_tab, tab_length]
    obtain ⟨w, rfl⟩ : ∃ w : Nat, c = (w : Int) := ⟨c.toNat, by omega⟩
    have hp : (1 : Int) ≤ 10 ^ t.length := Int.pow_pos (by omega)
    have ht0 := tot_lo hf M
    rw [List.length_cons, Int.pow_succ, Int.mul_comm (10 ^ t.length) 10, ← Int.mul_assoc] at hb
    have hb1 : tot out M * 10 * 1 ≤ tot out M * 10 * 10 ^ t.length := Int.mul_le_mul_of_nonneg_left hp (by omega)
    refine rests_l1 (w := w) (out := out) hM hM2 (by omega) hf (by omega) ?_ M 0 (by omega)
    rw [wsucc h1 (by omega)]
    refine rests_l0 hM hM2 hws hl t (n + 1) (stp M w out) h3 (fun j => inR_lo hf M j) ?_
    rw [stp_tot (by omega), Int.mul_comm 10]
    exact hb
theorem rests_f (l : List Int) (M : Nat) (ws : List Int) (hM : 2 ≤ M) (hM2 : M ≤ 11) (hws : ∀ x ∈ ws, 0 ≤ x ∧ x ≤ 11) (hl : ws.length ≤ 12) :
    Ev (fun k => impl_Check_rests.f k l (M : Int) ws) (tab M (dist M ws e0)) := by
  obtain ⟨m, rfl⟩ : ∃ m, M = m + 1 := ⟨M - 1, by omega⟩
  refine Ev.pos (by omega) (Ev.pos (by rw [Int.toNat_natCast]; omega) (Ev.sm rfl ?_))
  rw [Int.toNat_natCast, rep_tab, tab_length, tab_e0]
  refine Ev.pos (by omega) (rests_l0 hM hM2 hws (by omega) ws 0 e0 rfl e0_lo ?_)
  rw [e0_tot, Int.one_mul]
  have : (10 : Int) ^ ws.length ≤ 10 ^ 12 := by exact_mod_cast Nat.pow_le_pow_right (by omega) hl
  exact Int.le_trans this (by decide)
/-! ## sums2 -/
/-- The sums that digits, each times its weight, can have. -/
def Sums : List Int → Nat → Prop
  | [], t => t = 0
  | w :: ws, t => ∃ d, d < 10 ∧ ∃ t', Sums ws t' ∧ t = w.toNat * d + t'
theorem inD_pos {M w r : Nat} {v : Int} {f : Nat → Int} (hf : ∀ j, 0 ≤ f j) (hv : 0 ≤ v) (j : Nat) : ∀ d, 0 < inD M w r v f d j ↔ 0 < f j ∨ (0 < v ∧ ∃ d', d' < d ∧ (r + w * d') % M = j)
  | 0 => by
    rw [inD]
    exact ⟨.inl, fun h => h.elim id (fun h => by obtain ⟨_, d', h1, _⟩ := h; omega)⟩
  | d + 1 => by
    have ih := inD_pos hf hv j d (M := M) (w := w) (r := r)
    have h0 := inD_lo (M := M) (w := w) (r := r) hf hv d j
    rw [inD]; unfold addF
    by_cases e : j = (r + w * d) % M
    · rw [if_pos e]
      constructor
      · intro h
        by_cases hv0 : 0 < v
        · exact .inr ⟨hv0, d, by omega, e.symm⟩
        · have : 0 < inD M w r v f d j := by omega
          rcases ih.1 this with h1 | ⟨h1, _⟩
          · exact .inl h1
          · omega
      · intro h
        rcases h with h | ⟨h, _⟩
        · have := ih.2 (.inl h); omega
        · omega
    · rw [if_neg e, ih]
      constructor
      · intro h
        rcases h with h | ⟨h1, d', h2, h3⟩
        · exact .inl h
        · exact .inr ⟨h1, d', by omega, h3⟩
      · intro h
        rcases h with h | ⟨h1, d', h2, h3⟩
        · exact .inl h
        · refine .inr ⟨h1, d', ?_, h3⟩
          by_cases e2 : d' = d
          · subst e2; exact absurd h3.symm e
          · omega
theorem inR_pos {M w : Nat} {out : Nat → Int} (hf : ∀ j, 0 ≤ out j) (j : Nat) : ∀ r, 0 < inR M w out r j ↔ ∃ r', r' < r ∧ 0 < out r' ∧ ∃ d, d < 10 ∧ (r' + w * d) % M = j
  | 0 => by
    exact ⟨fun h => absurd (show (0 : Int) < 0 from h) (by omega), fun h => by obtain ⟨r', h1, _⟩ := h; omega⟩
  | r + 1 => by
    rw [inR, inD_pos (inR_lo hf r) (hf r), inR_pos hf j r]
    constructor
    · intro h
      rcases h with ⟨r', h1, h2⟩ | ⟨h1, d, h2, h3⟩
      · exact ⟨r', by omega, h2⟩
      · exact ⟨r, by omega, h1, d, h2, h3⟩
    · intro ⟨r', h1, h2, d, h3, h4⟩
      by_cases e : r' = r
      · subst e; exact .inr ⟨h2, d, h3, h4⟩
      · exact .inl ⟨r', by omega, h2, d, h3, h4⟩
theorem dist_pos {M : Nat} (hM : 0 < M) : ∀ (ws : List Int) (out : Nat → Int), (∀ j, 0 ≤ out j) → ∀ j, j < M → (0 < dist M ws out j ↔ ∃ r, r < M ∧ 0 < out r ∧ ∃ t, Sums ws t ∧ (r + t) % M = j)
  | [], out, hf, j, hj => by
    show 0 < out j ↔ _
    constructor
    · intro h; exact ⟨j, hj, h, 0, rfl, Nat.mod_eq_of_lt hj⟩
    · intro ⟨r, h1, h2, t, h3, h4⟩
      have h3' : t = 0 := h3
      rw [h3', Nat.add_zero, Nat.mod_eq_of_lt h1] at h4
      rw [← h4]; exact h2
  | w :: ws, out, hf, j, hj => by
    show 0 < dist M ws (stp M w.toNat out) j ↔ _
    rw [dist_pos hM ws (stp M w.toNat out) (fun j => inR_lo hf M j) j hj]
    constructor
    · intro ⟨r, h1, h2, t, h3, h4⟩
      obtain ⟨r', g1, g2, d, g3, g4⟩ := (inR_pos hf r M).1 h2
      refine ⟨r', g1, g2, w.toNat * d + t, ⟨d, g3, t, h3, rfl⟩, ?_⟩
      rw [← h4, ← g4, Nat.mod_add_mod, Nat.add_assoc]
    · intro ⟨r, h1, h2, t, ⟨d, h3, t', h4, h5⟩, h6⟩
      refine ⟨(r + w.toNat * d) % M, Nat.mod_lt _ hM, (inR_pos hf _ M).2 ⟨r, h1, h2, d, h3, rfl⟩, t', h4, ?_⟩
      rw [Nat.mod_add_mod, ← h6, h5, Nat.add_assoc]
/-! the same with truth values -/
def addB (f : Nat → Bool) (i : Nat) : Nat → Bool := fun j => if j = i then true else f j
def inDB (M w r : Nat) (f : Nat → Bool) : Nat → (Nat → Bool)
  | 0 => f
  | d + 1 => addB (inDB M w r f d) ((r + w * d) % M)
def inRB (M w : Nat) (can : Nat → Bool) : Nat → (Nat → Bool)
  | 0 => fun _ => false
  | r + 1 => if can r = true then inDB M w r (inRB M w can r) 10 else inRB M w can r
def stpB (M w : Nat) (can : Nat → Bool) : Nat → Bool := inRB M w can M
def distB (M : Nat) (ws : List Int) (can : Nat → Bool) : Nat → Bool := ws.foldl (fun f w => stpB M w.toNat f) can
theorem inDB_t {M w r : Nat} {f : Nat → Bool} (j : Nat) : ∀ d, inDB M w r f d j = true ↔ f j = true ∨ ∃ d', d' < d ∧ (r + w * d') % M = j
  | 0 => by
    rw [inDB]
    exact ⟨.inl, fun h => h.elim id (fun h => by obtain ⟨d', h1, _⟩ := h; omega)⟩
  | d + 1 => by
    have ih := inDB_t j d (M := M) (w := w) (r := r) (f := f)
    rw [inDB]; unfold addB
    by_cases e : j = (r + w * d) % M
    · rw [if_pos e]
      exact ⟨fun _ => .inr ⟨d, by omega, e.symm⟩, fun _ => rfl⟩
    · rw [if_neg e, ih]
      constructor
      · intro h
        rcases h with h | ⟨d', h2, h3⟩
        · exact .inl h
        · exact .inr ⟨d', by omega, h3⟩
      · intro h
        rcases h with h | ⟨d', h2, h3⟩
        · exact .inl h
        · refine .inr ⟨d', ?_, h3⟩
          by_cases e2 : d' = d
          · subst e2; exact absurd h3.symm e
          · omega
theorem inRB_t {M w : Nat} {can : Nat → Bool} (j : Nat) : ∀ r, inRB M w can r j = true ↔ ∃ r', r' < r ∧ can r' = true ∧ ∃ d, d < 10 ∧ (r' + w * d) % M = j
  | 0 => by
    rw [inRB]
    exact ⟨fun h => by simp at h, fun h => by obtain ⟨r', h1, _⟩ := h; omega⟩
  | r + 1 => by
    have ih := inRB_t j r (M := M) (w := w) (can := can)
    rw [inRB]
    by_cases hc : can r = true
    · rw [if_pos hc, inDB_t, ih]
      constructor
      · intro h
        rcases h with ⟨r', h1, h2⟩ | ⟨d, h2, h3⟩
        · exact ⟨r', by omega, h2⟩
        · exact ⟨r, by omega, hc, d, h2, h3⟩
      · intro ⟨r', h1, h2, d, h3, h4⟩
        by_cases e : r' = r
        · subst e; exact .inr ⟨d, h3, h4⟩
        · exact .inl ⟨r', by omega, h2, d, h3, h4⟩
    · rw [if_neg hc, ih]
      constructor
      · intro ⟨r', h1, h2⟩; exact ⟨r', by omega, h2⟩
      · intro ⟨r', h1, h2, h3⟩
        by_cases e : r' = r
        · subst e; exact absurd h2 hc
        · exact ⟨r', by omega, h2, h3⟩
theorem distB_t {M : Nat} (hM : 0 < M) : ∀ (ws : List Int) (can : Nat → Bool) (j : Nat), j < M → (distB M ws can j = true ↔ ∃ r, r < M ∧ can r = true ∧ ∃ t, Sums ws t ∧ (r + t) % M = j)
  | [], can, j, hj => by
    show can j = true ↔ _
    constructor
    · intro h; exact ⟨j, hj, h, 0, rfl, Nat.mod_eq_of_lt hj⟩
    · intro ⟨r, h1, h2, t, h3, h4⟩
      have h3' : t = 0 := h3
      rw [h3', Nat.add_zero, Nat.mod_eq_of_lt h1] at h4
      rw [← h4]; exact h2
  | w :: ws, can, j, hj => by
    show distB M ws (stpB M w.toNat can) j = true ↔ _
    rw [distB_t hM ws _ j hj]
    constructor
    · intro ⟨r, h1, h2, t, h3, h4⟩
      obtain ⟨r', g1, g2, d, g3, g4⟩ := (inRB_t r M).1 h2
      refine ⟨r', g1, g2, w.toNat * d + t, ⟨d, g3, t, h3, rfl⟩, ?_⟩
      rw [← h4, ← g4, Nat.mod_add_mod, Nat.add_assoc]
    · intro ⟨r, h1, h2, t, ⟨d, h3, t', h4, h5⟩, h6⟩
      refine ⟨(r + w.toNat * d) % M, Nat.mod_lt _ hM, (inRB_t _ M).2 ⟨r, h1, h2, d, h3, rfl⟩, t', h4, ?_⟩
      rw [Nat.mod_add_mod, ← h6, h5, Nat.add_assoc]
/-- Can the others' digits make the sum a multiple of M. -/
def Madeable (M : Nat) (ws : List Int) (own : Nat) : Prop := ∃ t, Sums ws t ∧ (own + t) % M = 0
noncomputable def mad (M : Nat) (ws : List Int) (own : Nat) : Bool := @decide (Madeable M ws own) (Classical.propDecidable _)
theorem mad_t {M : Nat} {ws : List Int} {own : Nat} : mad M ws own = true ↔ Madeable M ws own := by unfold mad; exact @decide_eq_true_iff _ (Classical.propDecidable _)
theorem comp_mod {M own t : Nat} (hM : 0 < M) : t % M = (M - own % M) % M ↔ (own + t) % M = 0 := by
  have h1 := Nat.mod_lt own hM
  have h2 := Nat.mod_lt t hM
  rw [Nat.add_mod]
  by_cases h0 : own % M = 0
  · rw [h0, Nat.sub_zero, Nat.mod_self, Nat.zero_add, Nat.mod_mod]
  · rw [Nat.mod_eq_of_lt (a := M - own % M) (by omega)]
    constructor
    · intro h; rw [h, show own % M + (M - own % M) = M by omega, Nat.mod_self]
    · intro h
      by_cases h3 : own % M + t % M < M
      · rw [Nat.mod_eq_of_lt h3] at h; omega
      · rw [Nat.mod_eq_sub_mod (by omega), Nat.mod_eq_of_lt (by omega)] at h; omega
theorem rests_mad {M own : Nat} {ws : List Int} (hM : 0 < M) : 0 < dist M ws e0 ((M - own % M) % M) ↔ Madeable M ws own := by
  rw [dist_pos hM ws e0 e0_lo _ (Nat.mod_lt _ hM)]
  constructor
  · intro ⟨r, h1, h2, t, h3, h4⟩
    have hr : r = 0 := by
      unfold e0 at h2
      by_cases h : r = 0
      · exact h
      · rw [if_neg h] at h2; omega
    rw [hr, Nat.zero_add] at h4
    exact ⟨t, h3, (comp_mod hM).1 h4⟩
  · intro ⟨t, h3, h4⟩
    refine ⟨0, hM, by decide, t, h3, ?_⟩
    rw [Nat.zero_add]; exact (comp_mod hM).2 h4
theorem can_mad {M own : Nat} {ws : List Int} (hM : 0 < M) : distB M ws (fun j => if j = own % M then true else false) 0 = mad M ws own := by
  rw [Bool.eq_iff_iff, mad_t, distB_t hM ws _ 0 hM]
  constructor
  · intro ⟨r, h1, h2, t, h3, h4⟩
    have hr : r = own % M := by
      by_cases h : r = own % M
      · exact h
      · rw [if_neg h] at h2; cases h2
    rw [hr, Nat.mod_add_mod] at h4
    exact ⟨t, h3, h4⟩
  · intro ⟨t, h3, h4⟩
    exact ⟨own % M, Nat.mod_lt _ hM, if_pos rfl, t, h3, by rw [Nat.mod_add_mod]; exact h4⟩
/-- The others: what is left without the elements at p, .., p + many - 1. -/
def skipF (p many : Nat) : Nat → List Int → List Int
  | _, [] => []
  | n, w :: t => if p ≤ n ∧ n < p + many then skipF p many (n + 1) t else w :: skipF p many (n + 1) t
theorem skipF_eq (p many : Nat) : ∀ (l : List Int) (n : Nat), skipF p many n l = l.take (p - n) ++ l.drop (p + many - n)
  | [], n => by simp [skipF]
  | w :: t, n => by
    rw [skipF, skipF_eq p many t (n + 1)]
    by_cases h : p ≤ n ∧ n < p + many
    · rw [if_pos h, show p - n = 0 by omega, show p - (n + 1) = 0 by omega, show p + many - n = (p + many - (n + 1)) + 1 by omega]
      rfl
    · rw [if_neg h]
      by_cases h1 : n < p
      · rw [show p - n = (p - (n + 1)) + 1 by omega, show p + many - n = (p + many - (n + 1)) + 1 by omega]
        rfl
      · rw [show p - n = 0 by omega, show p - (n + 1) = 0 by omega, show p + many - n = 0 by omega, show p + many - (n + 1) = 0 by omega]
        rfl
theorem skipF_mem {p many : Nat} {x : Int} : ∀ {l : List Int} {n : Nat}, x ∈ skipF p many n l → x ∈ l
  | [], _, h => by simp [skipF] at h
  | w :: t, n, h => by
    rw [skipF] at h
    split at h
    · exact List.mem_cons_of_mem _ (skipF_mem h)
    · rcases List.mem_cons.1 h with h | h
      · rw [h]; simp
      · exact List.mem_cons_of_mem _ (skipF_mem h)
theorem skipF_len {p many : Nat} : ∀ (l : List Int) (n : Nat), (skipF p many n l).length ≤ l.length
  | [], _ => by simp [skipF]
  | w :: t, n => by
    rw [skipF]
    have := skipF_len (p := p) (many := many) t (n + 1)
    split <;> simp <;> omega
/-! ## bit -/
theorem bit_f (b : Bool) : impl_bit.f b = some (if b = true then 1 else 0) := by unfold impl_bit.f; split <;> rfl
/-! ## rep48 -/
theorem L_rep (r : Nat) : L (⟨(Go.Lib.repeatL [48] r).toArray⟩ : ByteArray) = List.replicate r 48 := by
  unfold L
  show (Go.Lib.repeatL [48] r).map _ = _
  induction r with
  | zero => rfl
  | succ r ih => rw [Go.Lib.repeatL, List.map_append, ih, List.replicate_succ]; rfl
/-! ## FnExactFirstSound -/
/-- The first of c numbers from d on at which there is something, and that. -/
def firstD {α : Type} (f : Nat → Option α) : Nat → Nat → Option α
  | _, 0 => none
  | d, c + 1 => match f d with
    | some x => some x
    | none => firstD f (d + 1) c
theorem firstD_some {α : Type} {f : Nat → Option α} : ∀ {c d : Nat}, (firstD f d c).isSome = true ↔ ∃ e, d ≤ e ∧ e < d + c ∧ (f e).isSome = true
  | 0, d => by simp [firstD]; omega
  | c + 1, d => by
    rw [firstD]
    cases h : f d with
    | some x => simp only [Option.isSome_some, true_iff]; exact ⟨d, by omega, by omega, by rw [h]; rfl⟩
    | none =>
      simp only
      rw [firstD_some]
      constructor
      · intro ⟨e, h1, h2, h3⟩; exact ⟨e, by omega, by omega, h3⟩
      · intro ⟨e, h1, h2, h3⟩
        by_cases he : e = d
        · subst he; rw [h] at h3; cases h3
        · exact ⟨e, by omega, by omega, h3⟩
/-- The first sound digits that begin so, e more of them. -/
def fillF (l : List Int) (M : Nat) : Nat → List Int → Option (List Int)
  | 0, pre => if (Int.tmod (sumW l pre) (M : Int) == 0) = true then some pre else none
  | e + 1, pre => firstD (fun d => fillF l M e (pre ++ [48 + (d : Int)])) 0 10
/-- What the digits make so far. -/
def ownF (l pre : List Int) : Nat := (sumW l pre).toNat
theorem sumW_snoc : ∀ (l pre : List Int) (w c : Int), l[pre.length]? = some w → sumW l (pre ++ [c]) = sumW l pre + w * (c - 48)
  | [], pre, w, c, h => by simp at h
  | x :: l, [], w, c, h => by
    simp only [List.length_nil, List.getElem?_cons_zero, Option.some.injEq] at h
    subst h
    cases l <;> simp [sumW]
  | x :: l, y :: pre, w, c, h => by
    simp only [List.length_cons, List.getElem?_cons_succ] at h
    rw [List.cons_append, sumW, sumW, sumW_snoc l pre w c h, Int.add_assoc]
structure Ctx (l : List Int) (M : Nat) : Prop where
  len : l.length ≤ 12
  two : 2 ≤ l.length
  m2 : 2 ≤ M
  m11 : M ≤ 11
  w : ∀ x ∈ l, 0 ≤ x ∧ x ≤ 11
theorem own_snoc {l : List Int} {M : Nat} (C : Ctx l M) {pre : List Int} (hp : pre.length < l.length) (hd : pre.all isD = true) (d : Nat) (h10 : d < 10) : ∃ w, l[pre.length]? = some w ∧ ownF l (pre ++ [48 + (d : Int)]) = ownF l pre + w.toNat * d ∧ (0 : Int) ≤ sumW l pre ∧ 0 ≤ w := by
  obtain ⟨w, hw⟩ : ∃ w, l[pre.length]? = some w := ⟨_, List.getElem?_eq_getElem hp⟩
  have hb := C.w w (List.mem_of_getElem? hw)
  have h1 := (sumW_bd l pre C.w hd).1
  refine ⟨w, hw, ?_, h1, hb.1⟩
  unfold ownF
  rw [sumW_snoc l pre w _ hw, show (48 : Int) + (d : Int) - 48 = d by omega]
  obtain ⟨u, rfl⟩ : ∃ u : Nat, w = u := ⟨w.toNat, by omega⟩
  rw [Int.toNat_natCast]
  have : (u : Int) * (d : Int) = ((u * d : Nat) : Int) := by rw [Int.natCast_mul]
  rw [this]; omega
theorem mad_step {l : List Int} {M : Nat} (C : Ctx l M) {pre : List Int} (hp : pre.length < l.length) (hd : pre.all isD = true) :
    mad M (l.drop pre.length) (ownF l pre) = true ↔ ∃ d : Nat, d < 10 ∧ mad M (l.drop (pre.length + 1)) (ownF l (pre ++ [48 + (d : Int)])) = true := by
  obtain ⟨w, hw, _, h0, hw0⟩ := own_snoc C hp hd 0 (by omega)
  have hdrop : l.drop pre.length = w :: l.drop (pre.length + 1) := by
    rw [List.drop_eq_getElem_cons hp]
    congr 1
    rw [List.getElem?_eq_getElem hp] at hw
    exact Option.some.inj hw
  rw [mad_t, hdrop]
  constructor
  · intro ⟨t, ⟨d, h1, t', h2, h3⟩, h4⟩
    obtain ⟨w', hw', e, _, _⟩ := own_snoc C hp hd d h1
    obtain rfl : w' = w := Option.some.inj (hw'.symm.trans hw)
    refine ⟨d, h1, mad_t.2 ⟨t', h2, ?_⟩⟩
    rw [e, Nat.add_assoc, ← h3]; exact h4
  · intro ⟨d, h1, h2⟩
    obtain ⟨t', h3, h4⟩ := mad_t.1 h2
    obtain ⟨w', hw', e, _, _⟩ := own_snoc C hp hd d h1
    obtain rfl : w' = w := Option.some.inj (hw'.symm.trans hw)
    refine ⟨w'.toNat * d + t', ⟨d, h1, t', h3, rfl⟩, ?_⟩
    rw [e, Nat.add_assoc] at h4; exact h4
theorem dig_snoc {pre : List Int} {d : Nat} (hd : pre.all isD = true) (h10 : d < 10) : (pre ++ [48 + (d : Int)]).all isD = true := by
  rw [List.all_append, hd]; simp [isD]; omega
theorem fill_mad {l : List Int} {M : Nat} (C : Ctx l M) : ∀ (e : Nat) (pre : List Int), pre.length + e = l.length → pre.all isD = true → ((fillF l M e pre).isSome = true ↔ mad M (l.drop pre.length) (ownF l pre) = true)
  | 0, pre, h, hd => by
    have h1 := (sumW_bd l pre C.w hd).1
    obtain ⟨u, hu⟩ : ∃ u : Nat, sumW l pre = u := ⟨(sumW l pre).toNat, by omega⟩
    have ho : ownF l pre = u := by unfold ownF; rw [hu]; rfl
    rw [fillF, List.drop_of_length_le (by omega), mad_t, ho, hu, tmodN]
    constructor
    · intro hh
      by_cases hc : (((u % M : Nat) : Int) == 0) = true
      · have : u % M = 0 := by have := eq_of_beq hc; omega
        exact ⟨0, rfl, by rw [Nat.add_zero]; exact this⟩
      · rw [if_neg hc] at hh; cases hh
    · intro ⟨t, h2, h3⟩
      have : t = 0 := h2
      subst this
      rw [Nat.add_zero] at h3
      rw [if_pos (by rw [h3]; rfl)]; rfl
  | e + 1, pre, h, hd => by
    rw [fillF, firstD_some, mad_step C (by omega) hd]
    constructor
    · intro ⟨d, h1, h2, h3⟩
      refine ⟨d, by omega, ?_⟩
      have := (fill_mad C e (pre ++ [48 + (d : Int)]) (by rw [List.length_append]; simp; omega) (dig_snoc hd (by omega))).1 h3
      rw [List.length_append] at this
      exact this
    · intro ⟨d, h1, h2⟩
      refine ⟨d, by omega, by omega, ?_⟩
      refine (fill_mad C e (pre ++ [48 + (d : Int)]) (by rw [List.length_append]; simp; omega) (dig_snoc hd (by omega))).2 ?_
      rw [List.length_append]
      exact h2
theorem fill_dig {l : List Int} {M : Nat} : ∀ (e : Nat) (pre t : List Int), pre.all isD = true → fillF l M e pre = some t → t.all isD = true
  | 0, pre, t, hd, h => by
    rw [fillF] at h
    split at h
    · obtain rfl := Option.some.inj h; exact hd
    · cases h
  | e + 1, pre, t, hd, h => by
    rw [fillF] at h
    have key : ∀ c d : Nat, d + c = 10 → firstD (fun d => fillF l M e (pre ++ [48 + (d : Int)])) d c = some t → t.all isD = true := by
      intro c
      induction c with
      | zero => intro d _ hh; cases hh
      | succ c ih =>
        intro d hdc hh
        rw [firstD] at hh
        cases hq : fillF l M e (pre ++ [48 + (d : Int)]) with
        | some x =>
          simp only [hq, Option.some.injEq] at hh
          subst hh
          exact fill_dig e _ _ (dig_snoc hd (by omega)) hq
        | none =>
          simp only [hq] at hh
          exact ih (d + 1) (by omega) hh
    exact key 10 0 (by omega) h
/-- What is handed back. -/
def fsR : Option (List Int) → ByteArray × Bool
  | some t => (strOfNums t, true)
  | none => (⟨#[]⟩, false)
theorem strOf_L {s : ByteArray} {t : List Int} (h : L s = t) : strOfNums t = s := by
  apply L_inj
  rw [L_strOfNums _ (fun c hc => by rw [← h] at hc; exact L_mem hc), h]
theorem L_strOf {t : List Int} (h : t.all isD = true) : L (strOfNums t) = t := L_strOfNums _ (fun c hc => by
  have := isD_t.1 (List.all_eq_true.1 h c hc); omega)
theorem take_set_succ {x : List Int} {p : Nat} {v : Int} (hp : p < x.length) : (x.set p v).take (p + 1) = x.take p ++ [v] := by
  rw [List.take_succ_eq_append_getElem (by rw [List.length_set]; exact hp), List.take_set_of_le (by omega), List.getElem_set_self]
/-- The reference's search tells the same. -/
theorem slFill_f {l : List Int} {M : Nat} (C : Ctx l M) : ∀ (e p : Nat) (s : ByteArray), p + e = l.length → s.size = l.length → (L s).all isD = true →
    ∃ r : ByteArray × Bool, Ev (fun k => spec_slFill.f k l (M : Int) s (p : Int)) r ∧ r.2 = (fillF l M e ((L s).take p)).isSome ∧ ∀ t, fillF l M e ((L s).take p) = some t → L r.1 = t
  | 0, p, s, h, hs, hd => by
    refine ⟨(s, snd l (M : Int) s), Ev.step (fun _ => spec_slFill.f.eq_2 ..) (Ev.pos (by omega) (Ev.bind (slSound_f s l (M : Int) (by have := C.m2; omega) hs C.len C.w hd) (Ev.now _))), ?_, ?_⟩
    · rw [fillF, List.take_of_length_le (by rw [L_length]; omega)]
      show snd l (M : Int) s = _
      unfold snd
      split
      · rename_i hq; rw [hq]; rfl
      · rename_i hq; rw [Bool.not_eq_true] at hq; rw [hq]; rfl
    · intro t ht
      rw [fillF, List.take_of_length_le (by rw [L_length]; omega)] at ht
      split at ht
      · exact Option.some.inj ht
      · cases ht
  | e + 1, p, s, h, hs, hd => by
    have hp : p < s.size := by omega
    have key : ∀ c d : Nat, d + c = 10 → ∃ r : ByteArray × Bool, Ev (fun k => spec_slFill.l0 k s (p : Int) (d : Int) l (M : Int)) r ∧ r.2 = (firstD (fun d => fillF l M e ((L s).take p ++ [48 + (d : Int)])) d c).isSome ∧ ∀ t, firstD (fun d => fillF l M e ((L s).take p ++ [48 + (d : Int)])) d c = some t → L r.1 = t := by
      intro c
      induction c with
      | zero =>
        intro d hdc
        exact ⟨(⟨#[]⟩, false), Ev.step (fun _ => spec_slFill.l0.eq_2 ..) (Ev.neg (by omega) (Ev.now _)), rfl, fun t ht => by cases ht⟩
      | succ c ih =>
        intro d hdc
        have hlen := C.len
        obtain ⟨r1, g1, g2, g3⟩ := slFill_f C e (p + 1) (putS s p d) (by omega) (by rw [putS_size s p d hp (by omega)]; exact hs) (putS_dig hp (by omega) hd)
        rw [L_putS s p d hp (by omega), take_set_succ (by rw [L_length]; exact hp)] at g2 g3
        obtain ⟨r2, k1, k2, k3⟩ := ih (d + 1) (by omega)
        cases hq : fillF l M e ((L s).take p ++ [48 + (d : Int)]) with
        | some x =>
          rw [hq] at g2 g3
          refine ⟨(r1.1, true), Ev.step (fun _ => spec_slFill.l0.eq_2 ..) (Ev.pos (by omega) (Ev.bind (slPut_f s p d hp (by omega) (by omega)) ?_)), ?_, ?_⟩
          · rw [wsucc (m := 12) (by omega) (by omega)]
            exact Ev.bind g1 (Ev.pos g2 (Ev.now _))
          · rw [firstD, hq]; rfl
          · intro t ht
            rw [firstD, hq] at ht
            exact g3 t ht
        | none =>
          rw [hq] at g2
          refine ⟨r2, Ev.step (fun _ => spec_slFill.l0.eq_2 ..) (Ev.pos (by omega) (Ev.bind (slPut_f s p d hp (by omega) (by omega)) ?_)), ?_, ?_⟩
          · rw [wsucc (m := 12) (by omega) (by omega), wsucc (m := 10) (by omega) (by omega)]
            exact Ev.bind g1 (Ev.neg (by rw [g2]; decide) k1)
          · rw [firstD, hq]; exact k2
          · intro t ht
            rw [firstD, hq] at ht
            exact k3 t ht
    obtain ⟨r, g1, g2, g3⟩ := key 10 0 (by omega)
    have hlen := C.len
    exact ⟨r, Ev.step (fun _ => spec_slFill.f.eq_2 ..) (Ev.neg (by omega) g1), g2, g3⟩
/-- The first sound number with so many last places at the most. -/
def fsF (l : List Int) (M : Nat) : Nat → Option (List Int)
  | 0 => none
  | p + 1 => match firstD (fun d => fillF l M (l.length - (p + 1)) (List.replicate p 48 ++ [48 + (d : Int)])) 1 9 with
    | some t => some t
    | none => fsF l M p
theorem rep_dig (n : Nat) : (List.replicate n (48 : Int)).all isD = true := by
  rw [List.all_eq_true]
  intro c hc
  rw [List.eq_of_mem_replicate hc]; decide
theorem specFS_l1 {l : List Int} {M : Nat} (C : Ctx l M) (Z : ByteArray) (hZ : L Z = List.replicate l.length 48) : ∀ p : Nat, p ≤ l.length → Ev (fun k => spec_FirstSound.l1 k Z ((p : Int) - 1) l (M : Int)) (fsR (fsF l M p))
  | 0, _ => Ev.step (fun _ => spec_FirstSound.l1.eq_2 ..) (Ev.neg (by omega) (Ev.now _))
  | p + 1, h => by
    have hZs : Z.size = l.length := by rw [size_L, hZ, List.length_replicate]
    have hlen := C.len
    have ih := specFS_l1 C Z hZ p (by omega)
    have hp : p < Z.size := by omega
    have key : ∀ c d : Nat, d + c = 10 → Ev (fun k => spec_FirstSound.l2 k Z (p : Int) (d : Int) l (M : Int)) (fsR (match firstD (fun d => fillF l M (l.length - (p + 1)) (List.replicate p 48 ++ [48 + (d : Int)])) d c with | some t => some t | none => fsF l M p)) := by
      intro c
      induction c with
      | zero =>
        intro d hdc
        refine Ev.step (fun _ => spec_FirstSound.l2.eq_2 ..) (Ev.neg (by omega) ?_)
        rw [w64 (x := (p : Int) - 1) (by omega) (by omega)]
        exact ih
      | succ c ihc =>
        intro d hdc
        obtain ⟨r1, g1, g2, g3⟩ := slFill_f C (l.length - (p + 1)) (p + 1) (putS Z p d) (by omega) (by rw [putS_size Z p d hp (by omega)]; exact hZs) (putS_dig hp (by omega) (by rw [hZ]; exact rep_dig _))
        rw [L_putS Z p d hp (by omega), take_set_succ (by rw [L_length]; exact hp), hZ, List.take_replicate, Nat.min_eq_left (by omega)] at g2 g3
        refine Ev.step (fun _ => spec_FirstSound.l2.eq_2 ..) (Ev.pos (by omega) (Ev.bind (slPut_f Z p d hp (by omega) (by omega)) ?_))
        rw [wsucc (m := 12) (by omega) (by omega), wsucc (m := 10) (by omega) (by omega), firstD]
        cases hq : fillF l M (l.length - (p + 1)) (List.replicate p 48 ++ [48 + (d : Int)]) with
        | some x =>
          rw [hq] at g2 g3
          refine Ev.bind g1 (Ev.pos g2 (Ev.eq ?_ (Ev.now _)))
          simp only [fsR]
          rw [strOf_L (g3 x rfl)]
        | none =>
          rw [hq] at g2
          exact Ev.bind g1 (Ev.neg (by rw [g2]; decide) (ihc (d + 1) (by omega)))
    rw [show ((p + 1 : Nat) : Int) - 1 = (p : Int) by omega]
    refine Ev.step (fun _ => spec_FirstSound.l1.eq_2 ..) (Ev.pos (by omega) ?_)
    exact key 9 1 (by omega)
theorem specFS_l0 {l : List Int} {M : Nat} (C : Ctx l M) : ∀ (d n : Nat) (z : ByteArray), n + d = l.length → L z = List.replicate n 48 → Ev (fun k => spec_FirstSound.l0 k z (l.length : Int) (n : Int) l (M : Int)) (fsR (fsF l M l.length))
  | 0, n, z, h, hz => by
    have hlen := C.len
    obtain rfl : n = l.length := by omega
    refine Ev.step (fun _ => spec_FirstSound.l0.eq_2 ..) (Ev.neg (by omega) ?_)
    rw [w64 (x := (l.length : Int) - 1) (by omega) (by omega)]
    exact specFS_l1 C z hz l.length (Nat.le_refl _)
  | d + 1, n, z, h, hz => by
    have hlen := C.len
    have hzs : z.size = n := by rw [size_L, hz, List.length_replicate]
    refine Ev.step (fun _ => spec_FirstSound.l0.eq_2 ..) (Ev.pos (by omega) (Ev.pos (by omega) ?_))
    rw [wsucc (m := 12) (by omega) (by omega)]
    refine specFS_l0 C d (n + 1) _ (by omega) ?_
    rw [L_append, hz, List.replicate_succ']; rfl
/-- The program's sum, and what it asks of the table. -/
theorem implFS_l3 {l : List Int} {M : Nat} (C : Ctx l M) (x4 x6 x8 : Int) (x5 x9 : ByteArray) (i : Nat) (hi : i < l.length) (hz : x9.size = i + 1) (hd : (L x9).all isD = true) (r : ByteArray × Bool)
    (hyes : mad M (l.drop (i + 1)) (ownF l (L x9)) = true → Ev (fun k => if ((x9.size : Int) = x6) then (if (x9.size : Int) = (l.length : Int) then some (x9, true) else impl_FirstSound.l0 k (wrap64 (x4 - 1)) l (M : Int)) else impl_FirstSound.l1 k x4 x9 (wrap64 (x6 + 1)) l (M : Int)) r)
    (hno : mad M (l.drop (i + 1)) (ownF l (L x9)) = false → Ev (fun k => impl_FirstSound.l2 k x4 x5 x6 (tab M (dist M (l.drop (i + 1)) e0)) (wrap64 (x8 + 1)) l (M : Int)) r) :
    ∀ (ds : List Int) (n : Nat) (a : Int), (L x9).drop n = ds → 0 ≤ a → a ≤ 99 * n → a + sumW (l.drop n) ds = sumW l (L x9) →
      Ev (fun k => impl_FirstSound.l3 k x4 x5 x6 (tab M (dist M (l.drop (i + 1)) e0)) x8 x9 a (x9.size : Int) (n : Int) l (M : Int)) r
  | [], n, a, h, ha, hb, hs => by
    have hn := sdrop_nil h
    have hM := C.m2
    have hlen := C.len
    have e : a = sumW l (L x9) := by rw [← hs]; cases l.drop n <;> simp [sumW]
    obtain ⟨u, hu⟩ : ∃ u : Nat, a = u := ⟨a.toNat, by omega⟩
    have ho : ownF l (L x9) = u := by unfold ownF; rw [← e, hu]; rfl
    rw [ho] at hyes hno
    rw [hu]
    have h1 := Nat.mod_lt u (show 0 < M by omega)
    have hlt := Nat.mod_lt (M - u % M) (show 0 < M by omega)
    have e2 : Int.tmod (wrap64 ((M : Int) - Int.tmod (u : Int) (M : Int))) (M : Int) = (((M - u % M) % M : Nat) : Int) := by
      have := C.m11
      rw [tmodN, show (M : Int) - ((u % M : Nat) : Int) = ((M - u % M : Nat) : Int) by omega, w64n (by omega), tmodN]
    refine Ev.step (fun _ => impl_FirstSound.l3.eq_2 ..) (Ev.neg (by omega) (Ev.neg (by omega) ?_))
    rw [e2, tab_length, rd_tab hlt]
    refine Ev.pos (by omega) (Ev.pos (by omega) ?_)
    by_cases hq : mad M (l.drop (i + 1)) u = true
    · exact Ev.pos ((rests_mad (by omega)).2 (mad_t.1 hq)) (hyes hq)
    · exact Ev.neg (fun hc => hq (mad_t.2 ((rests_mad (by omega)).1 hc))) (hno (by simpa using hq))
  | c :: t, n, a, h, ha, hb, hs => by
    obtain ⟨k1, k2, k3⟩ := sdrop_cons h
    have hlen := C.len
    have hnl : n < l.length := by omega
    have hcd : isD c = true := List.all_eq_true.1 hd c (by rw [← k2, bt_L, List.getD_eq_getElem?_getD, List.getElem?_eq_getElem (by rw [L_length]; exact k1)]; exact List.getElem_mem _)
    obtain ⟨w, hw⟩ : ∃ w, l[n]? = some w := ⟨_, List.getElem?_eq_getElem hnl⟩
    have hwb := C.w w (List.mem_of_getElem? hw)
    have hrd : rd l (n : Int) = w := by rw [rd_nat, List.getD_eq_getElem?_getD, hw]; rfl
    have hdr : l.drop n = w :: l.drop (n + 1) := by
      rw [List.drop_eq_getElem_cons hnl]; congr 1
      rw [List.getElem?_eq_getElem hnl] at hw; exact Option.some.inj hw
    have ht := term_bd hwb hcd
    rw [hdr, sumW, ← Int.add_assoc] at hs
    refine Ev.step (fun _ => impl_FirstSound.l3.eq_2 ..) (Ev.pos (by omega) (Ev.pos (by omega) (Ev.pos (by omega) (Ev.pos (by omega) ?_))))
    rw [k2, hrd, dig_mod hcd, wsucc k1 (by omega), w64 (x := w * (c - 48)) (by omega) (by omega), w64 (x := a + w * (c - 48)) (by omega) (by omega)]
    exact implFS_l3 C x4 x6 x8 x5 x9 i hi hz hd r hyes hno t (n + 1) _ k3 (by omega) (by omega) hs
theorem ItoaFS (n : Nat) (h : n < 10) : strconv_Itoa.f (n : Int) = some (decS n) := by
  unfold strconv_Itoa.f
  rw [if_pos (by omega), Int.toNat_natCast]; rfl
/-- The program's digits at a place. -/
theorem implFS_l2 {l : List Int} {M : Nat} (C : Ctx l M) (p i : Nat) (hi : i < l.length) (s : ByteArray) (hs : s.size = i) (hd : (L s).all isD = true) (r : ByteArray × Bool) :
    ∀ c d : Nat, d + c = 10 →
      (∀ d' : Nat, d ≤ d' → d' < 10 → ∀ t, fillF l M (l.length - (i + 1)) (L s ++ [48 + (d' : Int)]) = some t → Ev (fun k => impl_FirstSound.l1 k (p : Int) (s ++ decS d') ((i + 1 : Nat) : Int) l (M : Int)) (strOfNums t, true)) →
      (∀ t, firstD (fun d => fillF l M (l.length - (i + 1)) (L s ++ [48 + (d : Int)])) d c = some t → r = (strOfNums t, true)) →
      (firstD (fun d => fillF l M (l.length - (i + 1)) (L s ++ [48 + (d : Int)])) d c = none → Ev (fun k => impl_FirstSound.l0 k (wrap64 ((p : Int) - 1)) l (M : Int)) r) →
      Ev (fun k => impl_FirstSound.l2 k (p : Int) s (i : Int) (tab M (dist M (l.drop (i + 1)) e0)) (d : Int) l (M : Int)) r := by
  intro c
  have hlen := C.len
  induction c with
  | zero =>
    intro d hdc _ _ hno
    exact Ev.step (fun _ => impl_FirstSound.l2.eq_2 ..) (Ev.neg (by omega) (Ev.pos (by omega) (Ev.neg (by omega) (hno rfl))))
  | succ c ih =>
    intro d hdc hgo hsome hno
    have h1 : (decS d).size = 1 := by rw [size_decS, Dg_small (by omega)]; rfl
    have hL : L (s ++ decS d) = L s ++ [48 + (d : Int)] := by rw [L_append, L_decS, Dg_small (by omega)]
    have hz : (s ++ decS d).size = i + 1 := by rw [size_app, h1, hs]
    have hdd : (L (s ++ decS d)).all isD = true := by rw [hL]; exact dig_snoc hd (by omega)
    have hfm := fill_mad C (l.length - (i + 1)) (L s ++ [48 + (d : Int)]) (by rw [List.length_append, L_length]; simp; omega) (dig_snoc hd (by omega))
    rw [List.length_append, L_length, hs, List.length_singleton] at hfm
    rw [← hL] at hfm
    refine Ev.step (fun _ => impl_FirstSound.l2.eq_2 ..) (Ev.pos (by omega) (Ev.sm (ItoaFS d (by omega)) (Ev.pos (by omega) ?_)))
    refine implFS_l3 C (p : Int) (i : Int) (d : Int) s (s ++ decS d) i hi hz hdd r ?_ ?_ (L (s ++ decS d)) 0 0 rfl (by omega) (by omega) (by rw [List.drop_zero, Int.zero_add])
    · intro hm
      refine Ev.neg (by omega) ?_
      rw [wsucc (m := 12) (by omega) (by omega)]
      have hsm := hfm.2 hm
      rw [hL] at hsm
      obtain ⟨t, ht⟩ := Option.isSome_iff_exists.1 hsm
      have hr := hsome t (by rw [firstD]; simp only [ht])
      rw [hr]
      exact hgo d (Nat.le_refl _) (by omega) t ht
    · intro hm
      have hn : fillF l M (l.length - (i + 1)) (L s ++ [48 + (d : Int)]) = none := by
        rw [← hL]
        cases hq : fillF l M (l.length - (i + 1)) (L (s ++ decS d)) with
        | none => rfl
        | some t => rw [hq] at hfm; have := hfm.1 rfl; rw [hm] at this; cases this
      rw [wsucc (m := 10) (by omega) (by omega)]
      refine ih (d + 1) (by omega) (fun d' h2 h3 t ht => hgo d' (by omega) h3 t ht) ?_ ?_
      · intro t ht; exact hsome t (by rw [firstD]; simp only [hn]; exact ht)
      · intro hh; exact hno (by rw [firstD]; simp only [hn]; exact hh)
/-- The program goes on behind a place. -/
theorem implFS_l1 {l : List Int} {M : Nat} (C : Ctx l M) (p : Nat) : ∀ (e i : Nat) (s : ByteArray) (t : List Int), i + e = l.length → p < i → s.size = i → (L s).all isD = true → fillF l M e (L s) = some t →
    Ev (fun k => impl_FirstSound.l1 k (p : Int) s (i : Int) l (M : Int)) (strOfNums t, true)
  | 0, i, s, t, h, hp, hs, hd, ht => by
    rw [fillF] at ht
    split at ht
    · have e := Option.some.inj ht
      refine Ev.step (fun _ => impl_FirstSound.l1.eq_2 ..) (Ev.neg (by omega) (Ev.pos (by omega) (Ev.eq ?_ (Ev.now _))))
      rw [strOf_L e]
    · cases ht
  | e + 1, i, s, t, h, hp, hs, hd, ht => by
    have hlen := C.len
    have hM := C.m2
    refine Ev.step (fun _ => impl_FirstSound.l1.eq_2 ..) (Ev.pos (by omega) ?_)
    rw [wsucc (m := 12) (by omega) (by omega), Int.toNat_natCast]
    refine Ev.pos (by omega) (Ev.pos (by omega) (Ev.bind (rests_f l M (l.drop (i + 1)) C.m2 C.m11 (fun x hx => C.w x (List.mem_of_mem_drop hx)) (by rw [List.length_drop]; omega)) (Ev.sm (bit_f _) ?_)))
    rw [if_neg (by simp; omega)]
    rw [fillF, show e = l.length - (i + 1) by omega] at ht
    refine implFS_l2 C p i (by omega) s hs hd _ 10 0 (by omega) ?_ ?_ ?_
    · intro d' h1 h2 t' ht'
      refine implFS_l1 C p e (i + 1) (s ++ decS d') t' (by omega) (by omega) ?_ ?_ ?_
      · rw [size_app, size_decS, Dg_small (by omega), hs]; rfl
      · rw [L_append, L_decS, Dg_small (by omega)]; exact dig_snoc hd (by omega)
      · rw [L_append, L_decS, Dg_small (by omega), show e = l.length - (i + 1) by omega]; exact ht'
    · intro t' ht'
      rw [ht] at ht'
      rw [Option.some.inj ht']
    · intro hh
      rw [ht] at hh; cases hh
theorem RepeatFS (r : Nat) (h : r ≤ 1000) : strings_Repeat.f (⟨#[48]⟩ : ByteArray) (r : Int) = some ⟨(Go.Lib.repeatL [48] r).toArray⟩ := by
  unfold strings_Repeat.f
  rw [if_pos ⟨by omega, by omega, by decide⟩, Int.toNat_natCast]
theorem implFS_l0 {l : List Int} {M : Nat} (C : Ctx l M) : ∀ p : Nat, p ≤ l.length → Ev (fun k => impl_FirstSound.l0 k ((p : Int) - 1) l (M : Int)) (fsR (fsF l M p))
  | 0, _ => Ev.step (fun _ => impl_FirstSound.l0.eq_2 ..) (Ev.neg (by omega) (Ev.now _))
  | p + 1, h => by
    have hlen := C.len
    have ih := implFS_l0 C p (by omega)
    have hz : (⟨(Go.Lib.repeatL [48] p).toArray⟩ : ByteArray).size = p := by rw [size_L, L_rep, List.length_replicate]
    rw [show ((p + 1 : Nat) : Int) - 1 = (p : Int) by omega]
    refine Ev.step (fun _ => impl_FirstSound.l0.eq_2 ..) (Ev.pos (by omega) (Ev.sm (RepeatFS p (by omega)) (Ev.step (fun _ => impl_FirstSound.l1.eq_2 ..) (Ev.pos (by omega) ?_))))
    rw [wsucc (m := 12) (by omega) (by omega), Int.toNat_natCast]
    refine Ev.pos (by omega) (Ev.pos (by omega) (Ev.bind (rests_f l M (l.drop (p + 1)) C.m2 C.m11 (fun x hx => C.w x (List.mem_of_mem_drop hx)) (by rw [List.length_drop]; omega)) (Ev.sm (bit_f _) ?_)))
    rw [if_pos (by simp)]
    refine implFS_l2 C p p (by omega) _ hz (by rw [L_rep]; exact rep_dig _) _ 9 1 (by omega) ?_ ?_ ?_
    · intro d' h1 h2 t' ht'
      rw [L_rep] at ht'
      refine implFS_l1 C p (l.length - (p + 1)) (p + 1) _ t' (by omega) (by omega) ?_ ?_ ?_
      · rw [size_app, size_decS, Dg_small (by omega), hz]; rfl
      · rw [L_append, L_rep, L_decS, Dg_small (by omega)]; exact dig_snoc (rep_dig _) (by omega)
      · rw [L_append, L_rep, L_decS, Dg_small (by omega)]; exact ht'
    · intro t' ht'
      rw [L_rep] at ht'
      rw [fsF, ht']; rfl
    · intro hh
      rw [L_rep] at hh
      rw [w64 (x := (p : Int) - 1) (by omega) (by omega), fsF, hh]
      exact ih
def fsAns (l : List Int) (m : Int) : ByteArray × Bool := if chk l m = true then fsR (fsF l m.toNat l.length) else (⟨#[]⟩, false)
theorem chk_ctx {l : List Int} {m : Int} (h : chk l m = true) : Ctx l m.toNat ∧ (m.toNat : Int) = m := by
  obtain ⟨h1, h2, h3, h4, h5⟩ := chk_t h
  exact ⟨⟨h2, h1, by omega, by omega, fun x hx => by have := h5 x hx; omega⟩, by omega⟩
theorem specFS_f (l : List Int) (m : Int) (hl : l.length ≤ 1048576) : Ev (fun k => spec_FirstSound.f k l m) (fsAns l m) := by
  refine Ev.bind (slGood_f l m hl) ?_
  unfold fsAns
  by_cases h : chk l m = true
  · obtain ⟨C, hm⟩ := chk_ctx h
    refine Ev.eq (if_pos h) (Ev.pos h ?_)
    have := specFS_l0 C l.length 0 ⟨#[]⟩ (by omega) rfl
    rw [hm] at this
    exact this
  · exact Ev.eq (if_neg h) (Ev.neg h (Ev.now _))
theorem implFS_f (l : List Int) (m : Int) : Ev (fun k => impl_FirstSound.f k l m) (fsAns l m) := by
  refine Ev.sm (IsCheck_f l m) ?_
  unfold fsAns
  by_cases h : chk l m = true
  · obtain ⟨C, hm⟩ := chk_ctx h
    have hlen := C.len
    refine Ev.eq (if_pos h) (Ev.pos h ?_)
    have := implFS_l0 C l.length (Nat.le_refl _)
    rw [hm] at this
    rw [w64 (x := (l.length : Int) - 1) (by omega) (by omega)]
    exact this
  · exact Ev.eq (if_neg h) (Ev.neg h (Ev.now _))
theorem FnExactFirstSound : laws_FnExactFirstSound.Pure := by
  intro l m hl _ _
  refine Ev.rounds (g := fun k => laws_FnExactFirstSound.f k l m) ?_
  unfold laws_FnExactFirstSound.f
  refine Ev.sm (szCheck_f l m hl) ?_
  by_cases h : 1048576 - (l.length : Int) < 0
  · rw [if_pos h]; exact Ev.pos (by decide) (Ev.now _)
  · rw [if_neg h]
    have hl' : l.length ≤ 1048576 := by omega
    refine Ev.neg h (Ev.bind (toCheck_f l m hl') (Ev.bind (specFS_f l m hl') (Ev.bind (toCheck_f l m hl') (Ev.bind (implFS_f l m) ?_))))
    refine Ev.pos rfl (Ev.step (fun _ => laws_FnExactFirstSound.j0.eq_2 ..) (Ev.neg (by simp) (Ev.bind (toCheck_f l m hl') (Ev.bind (eqCheck_f l m hl') (Ev.pos rfl (Ev.now _))))))

end Go.Proofs.YthkjedplcebpjahDoor.Pure
