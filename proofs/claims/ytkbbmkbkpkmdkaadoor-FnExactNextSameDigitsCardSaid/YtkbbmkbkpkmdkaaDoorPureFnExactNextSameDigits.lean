/- The plain law of FnExactNextSameDigits: at all arguments the printed function of the law answers true after some number of rounds. Conditions: none beyond the bounds that the printed statement itself bears. -/
import Derived.Test.YtkbbmkbkpkmdkaaDoorQFnExactNextSameDigitsx3
import Derived.Lib.ItoaNum
namespace Go.Proofs.YtkbbmkbkpkmdkaaDoor.Pure
open Go.RowKit Go.Proofs.YtkbbmkbkpkmdkaaDoor.QFnExactNextSameDigits Go.Proofs.YtkbbmkbkpkmdkaaDoorW.PrintWords Go.Proofs.YtkbbmkbkpkmdkaaDoorW.PrintLast Go.Proofs.YtkbbmkbkpkmdkaaDoorW.PrintMore Go.Proofs.YtkbbmkbkpkmdkaaDoor.Ext
set_option linter.unusedVariables false

def laws_FnExactNextSameDigits.Pure : Prop := ∀ (a0 : Int), (Lit.int .i64 a0).wf = true → ∃ k, laws_FnExactNextSameDigits.f k a0 = some true
/-! ## base -/
/-! numbers in 64 bits -/
theorem w64 {x : Int} (h1 : -9223372036854775808 ≤ x) (h2 : x ≤ 9223372036854775807) : wrap64 x = x := by unfold wrap64; omega
theorem w64n {x : Nat} (h2 : x ≤ 9223372036854775807) : wrap64 (x : Int) = (x : Int) := w64 (by omega) (by omega)
theorem wf64 {x : Int} (h : (Lit.int .i64 x).wf = true) : -9223372036854775808 ≤ x ∧ x ≤ 9223372036854775807 := by
  have hmin : IntKind.i64.min = -9223372036854775808 := rfl
  have hmax : IntKind.i64.max = 9223372036854775807 := rfl
  simp only [Lit.wf, Bool.and_eq_true, decide_eq_true_eq, hmin, hmax] at h
  exact h
theorem tmodN (a b : Nat) : Int.tmod (a : Int) (b : Int) = ((a % b : Nat) : Int) := rfl
theorem tdivN (a b : Nat) : Int.tdiv (a : Int) (b : Int) = ((a / b : Nat) : Int) := rfl
theorem tmod_nn {a b : Int} (h : 0 ≤ a) : Int.tmod a b = a % b := Int.tmod_eq_emod_of_nonneg h
theorem tdiv_nn {a b : Int} (h : 0 ≤ a) : Int.tdiv a b = a / b := Int.tdiv_eq_ediv_of_nonneg h
/-! from some number of rounds on -/
theorem Ev.pos {α : Type} {c : Prop} [Decidable c] {f g : Nat → Option α} {r : α} (h : c) (e : Ev f r) : Ev (fun k => if c then f k else g k) r := by simpa only [if_pos h] using e
theorem Ev.neg {α : Type} {c : Prop} [Decidable c] {f g : Nat → Option α} {r : α} (h : ¬ c) (e : Ev g r) : Ev (fun k => if c then f k else g k) r := by simpa only [if_neg h] using e
theorem Ev.sm {α β : Type} {f : Nat → α → Option β} {a : α} {o : Option α} {r : β} (h : o = some a) (e : Ev (fun n => f n a) r) : Ev (fun n => o.bind (f n)) r := by subst h; simpa only [Option.bind_some] using e
theorem Ev.eq {α : Type} {f : Nat → Option α} {r r' : α} (h : r' = r) (e : Ev f r) : Ev f r' := h ▸ e
theorem Ev.of_some {α : Type} {o : Option α} {r : α} (h : o = some r) : Ev (fun _ => o) r := ⟨0, fun _ _ => h⟩
theorem Ev.uniq {α : Type} {g : Nat → Option α} {r q : α} (h : Ev g r) (h' : Ev g q) : r = q := by
  obtain ⟨K, h⟩ := h
  obtain ⟨K', h'⟩ := h'
  have := (h (max K K') (by omega)).symm.trans (h' (max K K') (by omega))
  exact Option.some.inj this
/-! a string as a list of numbers -/
def L (s : ByteArray) : List Int := s.data.toList.map (fun c => (c.toNat : Int))
theorem L_length (s : ByteArray) : (L s).length = s.size := by simp [L]
theorem bt_lo (s : ByteArray) (i : Int) : 0 ≤ bt s i := by unfold bt; split <;> omega
theorem bt_hi (s : ByteArray) (i : Int) : bt s i ≤ 255 := by
  unfold bt; split
  · have := UInt8.toNat_lt (s[i.toNat]); omega
  · omega
theorem bt_L (s : ByteArray) (n : Nat) : bt s (n : Int) = (L s).getD n 0 := by
  unfold bt L
  by_cases h : n < s.size
  · simp [h, List.getD_eq_getElem?_getD]; rfl
  · simp [h, List.getD_eq_getElem?_getD]
theorem L_get (s : ByteArray) (n : Nat) (h : n < s.size) : (L s)[n]? = some (bt s n) := by
  rw [bt_L, List.getD_eq_getElem?_getD]
  have : n < (L s).length := by rw [L_length]; exact h
  simp [this]
theorem L_mem {s : ByteArray} {c : Int} (h : c ∈ L s) : 0 ≤ c ∧ c ≤ 255 := by
  unfold L at h
  obtain ⟨u, _, rfl⟩ := List.mem_map.1 h
  have := UInt8.toNat_lt u
  omega
theorem map_toNat_inj : ∀ (l m : List UInt8), l.map (fun c => (c.toNat : Int)) = m.map (fun c => (c.toNat : Int)) → l = m
  | [], [], _ => rfl
  | [], _ :: _, h => by simp at h
  | _ :: _, [], h => by simp at h
  | a :: l, b :: m, h => by
    simp only [List.map_cons, List.cons.injEq] at h
    have h1 : a = b := by apply UInt8.toNat_inj.1; omega
    rw [h1, map_toNat_inj l m h.2]
theorem L_inj {s t : ByteArray} (h : L s = L t) : s = t := by
  have := map_toNat_inj _ _ h
  cases s; cases t
  congr 1
  exact Array.toList_inj.1 this
theorem toList_L {s t : ByteArray} : s.data.toList = t.data.toList ↔ L s = L t := by
  constructor
  · intro h; unfold L; rw [h]
  · intro h; exact map_toNat_inj _ _ h
theorem L_append (s t : ByteArray) : L (s ++ t) = L s ++ L t := by
  unfold L
  rw [ByteArray.data_append]
  simp
/-- The rest of a list from a place on. -/
theorem drop_cons {α : Type} {l : List α} {n : Nat} {c : α} {t : List α} (h : l.drop n = c :: t) : n < l.length ∧ l[n]? = some c ∧ l.drop (n + 1) = t := by
  have h1 : n < l.length := by
    by_cases h1 : n < l.length
    · exact h1
    · rw [List.drop_eq_nil_of_le (by omega)] at h; cases h
  rw [List.drop_eq_getElem_cons h1] at h
  simp only [List.cons.injEq] at h
  exact ⟨h1, by rw [List.getElem?_eq_getElem h1, h.1], h.2⟩
theorem drop_nil {α : Type} {l : List α} {n : Nat} (h : l.drop n = []) : l.length ≤ n := by simpa using h
theorem sdrop_cons {s : ByteArray} {n : Nat} {c : Int} {t : List Int} (h : (L s).drop n = c :: t) : n < s.size ∧ bt s n = c ∧ (L s).drop (n + 1) = t := by
  obtain ⟨h1, h2, h3⟩ := drop_cons h
  rw [L_length] at h1
  rw [L_get s n h1] at h2
  exact ⟨h1, Option.some.inj h2, h3⟩
theorem sdrop_nil {s : ByteArray} {n : Nat} (h : (L s).drop n = []) : s.size ≤ n := by have := drop_nil h; rwa [L_length] at this
theorem wsucc {n m : Nat} (h : n < m) (hm : m ≤ 140737488355328) : wrap64 ((n : Int) + 1) = ((n + 1 : Nat) : Int) := by rw [w64 (by omega) (by omega)]; rfl
/-! digits -/
def isD (c : Int) : Bool := decide (48 ≤ c) && decide (c ≤ 57)
theorem isD_t {c : Int} : isD c = true ↔ 48 ≤ c ∧ c ≤ 57 := by simp [isD]
theorem isD_f {c : Int} : isD c = false ↔ c < 48 ∨ 57 < c := by
  rw [← Bool.not_eq_true, isD_t]; omega
theorem dig_mod {c : Int} (h : isD c = true) : (c - 48) % 256 = c - 48 := by rw [isD_t] at h; omega
/-! ## tab -/
/-! a list told by a function of its places -/
def tab (n : Nat) (f : Nat → Int) : List Int := (List.range n).map f
theorem tab_length (n : Nat) (f : Nat → Int) : (tab n f).length = n := by simp [tab]
theorem tab_get {n : Nat} {f : Nat → Int} {i : Nat} (h : i < n) : (tab n f)[i]? = some (f i) := by simp [tab, h]
theorem rd_tab {n : Nat} {f : Nat → Int} {i : Nat} (h : i < n) : rd (tab n f) (i : Int) = f i := by
  unfold rd; rw [Int.toNat_natCast, List.getD_eq_getElem?_getD, tab_get h]; rfl
theorem tab_congr {n : Nat} {f g : Nat → Int} (h : ∀ j, j < n → f j = g j) : tab n f = tab n g := by
  unfold tab; exact List.map_congr_left (fun j hj => h j (List.mem_range.1 hj))
theorem set_tab {n : Nat} {f : Nat → Int} (i : Nat) (v : Int) : (tab n f).set i v = tab n (fun j => if j = i then v else f j) := by
  apply List.ext_getElem?
  intro j
  rw [List.getElem?_set]
  by_cases hj : j < n
  · rw [tab_get (f := fun j => if j = i then v else f j) hj]
    by_cases e : i = j
    · subst e; rw [if_pos rfl, if_pos (by rw [tab_length]; exact hj), if_pos rfl]
    · rw [if_neg e, tab_get hj, if_neg (fun h => e h.symm)]
  · have h1 : (tab n f)[j]? = none := List.getElem?_eq_none (by rw [tab_length]; omega)
    have h2 : (tab n (fun j => if j = i then v else f j))[j]? = none := List.getElem?_eq_none (by rw [tab_length]; omega)
    rw [h1, h2]
    by_cases e : i = j
    · subst e; rw [if_pos rfl, if_neg (by rw [tab_length]; exact hj)]
    · rw [if_neg e]
theorem rep_tab (n : Nat) : List.replicate n (0 : Int) = tab n (fun _ => 0) := by
  apply List.ext_getElem?
  intro j
  by_cases hj : j < n
  · rw [tab_get hj]; simp [hj]
  · rw [List.getElem?_eq_none (by simp; omega), List.getElem?_eq_none (by rw [tab_length]; omega)]
theorem tab_one (v : Int) : [v] = tab 1 (fun _ => v) := rfl
/-! ## rdn -/
theorem rd_nat (l : List Int) (n : Nat) : rd l (n : Int) = l.getD n 0 := by unfold rd; rw [Int.toNat_natCast]
theorem tab_self (l : List Int) : tab l.length (fun j => rd l (j : Int)) = l := by
  apply List.ext_getElem?
  intro j
  by_cases hj : j < l.length
  · rw [tab_get hj, List.getElem?_eq_getElem hj, rd_nat, List.getD_eq_getElem?_getD, List.getElem?_eq_getElem hj]; rfl
  · rw [List.getElem?_eq_none (by rw [tab_length]; omega), List.getElem?_eq_none (by omega)]
/-! ## num -/
/-- Ten to a power. -/
def p10 (n : Nat) : Int := 10 ^ n
theorem p10_succ (n : Nat) : p10 (n + 1) = 10 * p10 n := by unfold p10; rw [Int.pow_succ, Int.mul_comm]
theorem p10_pos (n : Nat) : 1 ≤ p10 n := by
  induction n with
  | zero => decide
  | succ n ih => rw [p10_succ]; omega
theorem p10_mono {n m : Nat} (h : n ≤ m) : p10 n ≤ p10 m := by
  obtain ⟨d, rfl⟩ : ∃ d, m = n + d := ⟨m - n, by omega⟩
  clear h
  induction d with
  | zero => exact Int.le_refl _
  | succ d ih => rw [← Nat.add_assoc, p10_succ]; have := p10_pos (n + d); omega
theorem p10_9 {n : Nat} (h : n ≤ 9) : p10 n ≤ 1000000000 := p10_mono h
/-- The number that digits tell, behind what stands before them. -/
def numF (a : Int) (l : List Int) : Int := l.foldl (fun n c => 10 * n + (c - 48)) a
theorem numF_cons (a c : Int) (l : List Int) : numF a (c :: l) = numF (10 * a + (c - 48)) l := rfl
theorem numF_bd : ∀ (l : List Int) (a : Int), l.all isD = true → 0 ≤ a → a * p10 l.length ≤ numF a l ∧ numF a l < (a + 1) * p10 l.length
  | [], a, _, h => by simp [numF, p10]; omega
  | c :: l, a, hl, h => by
    rw [List.all_cons, Bool.and_eq_true] at hl
    have hc := isD_t.1 hl.1
    have ih := numF_bd l (10 * a + (c - 48)) hl.2 (by omega)
    have hp := p10_pos l.length
    rw [numF_cons, List.length_cons, p10_succ]
    have e1 : a * (10 * p10 l.length) ≤ (10 * a + (c - 48)) * p10 l.length := by
      rw [← Int.mul_assoc]; exact Int.mul_le_mul_of_nonneg_right (by omega) (by omega)
    have e2 : (10 * a + (c - 48) + 1) * p10 l.length ≤ (a + 1) * (10 * p10 l.length) := by
      rw [← Int.mul_assoc]; exact Int.mul_le_mul_of_nonneg_right (by omega) (by omega)
    omega
/-- A number with room for so many digits behind it. -/
theorem num_step {a c : Int} {n : Nat} (ha : 0 ≤ a) (hc : 48 ≤ c ∧ c ≤ 57) (h : (a + 1) * p10 (n + 1) ≤ 1000000000000000000) : 0 ≤ 10 * a + (c - 48) ∧ (10 * a + (c - 48) + 1) * p10 n ≤ 1000000000000000000 ∧ 10 * a + (c - 48) ≤ 1000000000000000000 := by
  have hp := p10_pos n
  rw [p10_succ, ← Int.mul_assoc] at h
  have e2 : (10 * a + (c - 48) + 1) * p10 n ≤ (a + 1) * 10 * p10 n := Int.mul_le_mul_of_nonneg_right (by omega) (by omega)
  have e3 : (10 * a + (c - 48) + 1) * 1 ≤ (10 * a + (c - 48) + 1) * p10 n := Int.mul_le_mul_of_nonneg_left hp (by omega)
  omega
/-! ## str -/
theorem tl_eq {s t : ByteArray} : s.toList = t.toList ↔ s = t := by
  rw [ByteArray.toList_eq, ByteArray.toList_eq, toList_L]
  exact ⟨L_inj, fun h => by rw [h]⟩
theorem L_extract (s : ByteArray) (a b : Nat) : L (s.extract a b) = ((L s).take b).drop a := by
  unfold L
  rw [ByteArray.data_extract]
  simp [List.map_drop, List.map_take, List.drop_take]
theorem L_nil : L (⟨#[]⟩ : ByteArray) = [] := rfl
theorem size_L (s : ByteArray) : s.size = (L s).length := (L_length s).symm
theorem size_ext (s : ByteArray) (a b : Nat) : (s.extract a b).size = min b s.size - a := by rw [size_L, L_extract, List.length_drop, List.length_take, L_length]
theorem size_app (s t : ByteArray) : (s ++ t).size = s.size + t.size := by rw [size_L, L_append, List.length_append, L_length, L_length]
/-! ## dec -/
/-- The decimal digits of a number, as bytes told as numbers. -/
def Dg (n : Nat) : List Int := (Go.Lib.decDigits n).map (fun c => (c.toNat : Int))
theorem u8n {n : Nat} (h : n < 256) : (((UInt8.ofNat n).toNat : Nat) : Int) = (n : Int) := by
  rw [UInt8.toNat_ofNat', Nat.mod_eq_of_lt (by omega)]
theorem Dg_small {n : Nat} (h : n < 10) : Dg n = [48 + (n : Int)] := by
  unfold Dg
  rw [Go.Lib.decDigits, dif_pos h, List.map_cons, List.map_nil, u8n (by omega)]
  rfl
theorem Dg_big {n : Nat} (h : 10 ≤ n) : Dg n = Dg (n / 10) ++ [48 + ((n % 10 : Nat) : Int)] := by
  unfold Dg
  conv => lhs; rw [Go.Lib.decDigits, dif_neg (by omega)]
  rw [List.map_append, List.map_cons, List.map_nil, u8n (by omega)]
  rfl
theorem L_itoa (n : Nat) : L (⟨(Go.Lib.itoa (n : Int)).toArray⟩ : ByteArray) = Dg n := by
  unfold L Dg Go.Lib.itoa
  rw [if_neg (by omega), Int.toNat_natCast]
theorem L_dec (n : Nat) : L (⟨(Go.Lib.decDigits n).toArray⟩ : ByteArray) = Dg n := rfl
theorem Dg_dig : ∀ b n : Nat, n ≤ b → (Dg n).all isD = true
  | 0, n, h => by
    rw [Dg_small (by omega)]
    simp [isD]; omega
  | b + 1, n, h => by
    by_cases hn : n < 10
    · rw [Dg_small hn]
      simp [isD]; omega
    · rw [Dg_big (by omega), List.all_append, Dg_dig b (n / 10) (by omega)]
      simp [isD]; omega
theorem Dg_isD (n : Nat) : (Dg n).all isD = true := Dg_dig n n (Nat.le_refl _)
theorem Dg_pos : ∀ n : Nat, 1 ≤ (Dg n).length := by
  intro n
  by_cases hn : n < 10
  · rw [Dg_small hn]; simp
  · rw [Dg_big (by omega)]; simp
theorem numF_app (a : Int) (l m : List Int) : numF a (l ++ m) = numF (numF a l) m := by unfold numF; rw [List.foldl_append]
theorem Dg_num : ∀ b n : Nat, n ≤ b → numF 0 (Dg n) = n
  | 0, n, h => by
    rw [Dg_small (by omega)]
    simp [numF]; omega
  | b + 1, n, h => by
    by_cases hn : n < 10
    · rw [Dg_small hn]
      simp [numF]; omega
    · rw [Dg_big (by omega), numF_app, Dg_num b (n / 10) (by omega)]
      simp [numF]; omega
theorem num_Dg (n : Nat) : numF 0 (Dg n) = n := Dg_num n n (Nat.le_refl _)
/-- The last k digits of a number, zeros in front. -/
def TD : Nat → Nat → List Int
  | 0, _ => []
  | k + 1, n => TD k (n / 10) ++ [48 + ((n % 10 : Nat) : Int)]
theorem TD_len : ∀ k n, (TD k n).length = k
  | 0, _ => rfl
  | k + 1, n => by rw [TD, List.length_append, TD_len k]; rfl
theorem TD_dig : ∀ k n, (TD k n).all isD = true
  | 0, _ => rfl
  | k + 1, n => by
    rw [TD, List.all_append, TD_dig k]
    simp [isD]; omega
theorem TD_num : ∀ k n : Nat, n < 10 ^ k → numF 0 (TD k n) = n
  | 0, n, h => by
    simp at h
    subst h
    rfl
  | k + 1, n, h => by
    rw [Nat.pow_succ] at h
    rw [TD, numF_app, TD_num k (n / 10) (by omega)]
    simp [numF]; omega
theorem TD_Dg : ∀ k n : Nat, n < 10 ^ (k + 1) → (Dg n).length ≤ k + 1 ∧ TD (k + 1) n = List.replicate (k + 1 - (Dg n).length) 48 ++ Dg n
  | 0, n, h => by
    have hn : n < 10 := by simpa using h
    rw [Dg_small hn]
    refine ⟨by simp, ?_⟩
    rw [TD, TD, Nat.mod_eq_of_lt hn]
    simp
  | k + 1, n, h => by
    rw [Nat.pow_succ] at h
    obtain ⟨h1, h2⟩ := TD_Dg k (n / 10) (by omega)
    rw [TD, h2]
    by_cases hn : n < 10
    · have h0 : n / 10 = 0 := by omega
      rw [h0, Dg_small hn, Dg_small (by omega), Nat.mod_eq_of_lt hn]
      refine ⟨by simp, ?_⟩
      simp only [List.length_singleton, Nat.add_sub_cancel]
      rw [List.replicate_succ']
      simp
    · rw [Dg_big (n := n) (by omega), List.length_append, List.length_singleton]
      refine ⟨by omega, ?_⟩
      rw [show k + 1 + 1 - ((Dg (n / 10)).length + 1) = k + 1 - (Dg (n / 10)).length by omega, List.append_assoc]
/-- Ten to a power in both kinds of numbers. -/
theorem p10_nat (k : Nat) : p10 k = ((10 ^ k : Nat) : Int) := by unfold p10; exact (Int.natCast_pow 10 k).symm
/-! ## strnum -/
theorem ofNat_toNat {c : Int} (h : 0 ≤ c ∧ c ≤ 255) : (((UInt8.ofNat c.toNat).toNat : Nat) : Int) = c := by
  rw [UInt8.toNat_ofNat', Nat.mod_eq_of_lt (by omega)]; omega
theorem L_strOfNums (l : List Int) (h : ∀ c ∈ l, 0 ≤ c ∧ c ≤ 255) : L (strOfNums l) = l := by
  unfold L strOfNums
  rw [List.map_map]
  conv => rhs; rw [← List.map_id l]
  exact List.map_congr_left (fun c hc => ofNat_toNat (h c hc))
/-! ## decs -/
/-- A number's decimal text. -/
def decS (n : Nat) : ByteArray := ⟨(Go.Lib.decDigits n).toArray⟩
theorem L_decS (n : Nat) : L (decS n) = Dg n := rfl
theorem Dg_le19 (n : Nat) (h : n ≤ 9223372036854775807) : (Dg n).length ≤ 19 := (TD_Dg 18 n (by omega)).1
theorem size_decS (n : Nat) : (decS n).size = (Dg n).length := by rw [size_L, L_decS]
theorem one_dig {n : Nat} (h : n < 10) : strOfNums [wrap64 (48 + (n : Int)) % 256] = decS n := by
  apply L_inj
  rw [L_decS, Dg_small h, w64 (by omega) (by omega), Int.emod_eq_of_lt (by omega) (by omega), L_strOfNums]
  intro c hc
  rw [List.mem_singleton] at hc
  omega
/-! ## leList -/
/-- The digits of a number. -/
def DgV (n : Nat) : List Int := (Dg n).map (fun c => c - 48)
theorem DgV_small {n : Nat} (h : n < 10) : DgV n = [(n : Int)] := by
  unfold DgV; rw [Dg_small h, List.map_cons, List.map_nil]; congr 1; omega
theorem DgV_big {n : Nat} (h : 10 ≤ n) : DgV n = DgV (n / 10) ++ [((n % 10 : Nat) : Int)] := by
  unfold DgV
  rw [Dg_big h, List.map_append, List.map_cons, List.map_nil]
  congr 2; omega
theorem DgV_len (n : Nat) : (DgV n).length = (Dg n).length := by unfold DgV; rw [List.length_map]
theorem DgV_mem {n : Nat} {x : Int} (h : x ∈ DgV n) : 0 ≤ x ∧ x ≤ 9 := by
  unfold DgV at h
  obtain ⟨c, hc, rfl⟩ := List.mem_map.1 h
  have := isD_t.1 (List.all_eq_true.1 (Dg_isD n) c hc)
  omega
theorem leList_l0 : ∀ (b n : Nat) (acc : List Int), n ≤ b → n ≤ 9223372036854775807 → acc.length + (Dg n).length ≤ 1000 →
    Ev (fun k => spec_leList.l0 k (n : Int) acc) ((if n = 0 then [] else DgV n) ++ acc)
  | 0, n, acc, h, _, _ => by
    obtain rfl : n = 0 := by omega
    exact Ev.step (fun _ => spec_leList.l0.eq_2 ..) (Ev.neg (by omega) (Ev.now _))
  | b + 1, n, acc, h, hn, ha => by
    by_cases h0 : n = 0
    · subst h0
      exact Ev.step (fun _ => spec_leList.l0.eq_2 ..) (Ev.neg (by omega) (Ev.now _))
    · have hl : (Dg n).length ≤ 1000 := by omega
      refine Ev.step (fun _ => spec_leList.l0.eq_2 ..) (Ev.pos (by omega) (Ev.sm rfl (Ev.pos (by rw [List.length_singleton]; omega) ?_)))
      rw [show Int.tmod (n : Int) 10 = ((n % 10 : Nat) : Int) from rfl, show Int.tdiv (n : Int) 10 = ((n / 10 : Nat) : Int) from rfl, w64n (x := n / 10) (by omega)]
      by_cases hs : n < 10
      · obtain ⟨b', hb'⟩ : ∃ b', n / 10 = 0 := ⟨0, by omega⟩
        rw [hb']
        refine Ev.eq ?_ (Ev.step (fun _ => spec_leList.l0.eq_2 ..) (Ev.neg (by omega) (Ev.now _)))
        rw [if_neg h0, DgV_small hs, Nat.mod_eq_of_lt hs]
      · rw [Dg_big (n := n) (by omega), List.length_append, List.length_singleton] at ha
        refine Ev.eq ?_ (leList_l0 b (n / 10) ([((n % 10 : Nat) : Int)] ++ acc) (by omega) (by omega) (by rw [List.length_append, List.length_singleton]; omega))
        rw [if_neg h0, DgV_big (n := n) (by omega), if_neg (by omega), List.append_assoc]
theorem leList_f (n : Nat) (hn : n ≤ 9223372036854775807) : Ev (fun k => spec_leList.f k (n : Int)) (DgV n) := by
  show Ev (fun k => spec_leList.l0 k (wrap64 (Int.tdiv (n : Int) 10)) [Int.tmod (n : Int) 10]) _
  rw [show Int.tmod (n : Int) 10 = ((n % 10 : Nat) : Int) from rfl, show Int.tdiv (n : Int) 10 = ((n / 10 : Nat) : Int) from rfl, w64n (x := n / 10) (by omega)]
  have hl := Dg_le19 (n / 10) (by omega)
  refine Ev.eq ?_ (leList_l0 (n / 10) (n / 10) [((n % 10 : Nat) : Int)] (Nat.le_refl _) (by omega) (by rw [List.length_singleton]; omega))
  by_cases hs : n < 10
  · rw [DgV_small hs, if_pos (by omega), List.nil_append, Nat.mod_eq_of_lt hs]
  · rw [DgV_big (n := n) (by omega), if_neg (by omega)]
/-! ## room18 -/
theorem room18 {n : Nat} (h : n ≤ 18) : ((0 : Int) + 1) * p10 n ≤ 1000000000000000000 := by
  rw [Int.zero_add, Int.one_mul]; exact p10_mono (m := 18) h
/-! ## numberOf -/
theorem numberOf_l0 (s : ByteArray) (hs : s.size ≤ 18) : ∀ (l : List Int) (n : Nat) (a : Int), (L s).drop n = l → l.all isD = true → 0 ≤ a → (a + 1) * p10 l.length ≤ 1000000000000000000 →
    Ev (fun k => impl_numberOf.l0 k s a (s.size : Int) (n : Int)) (numF a l) := by
  intro l
  induction l with
  | nil =>
    intro n a h _ _ _
    have h1 := sdrop_nil h
    exact Ev.step (fun _ => impl_numberOf.l0.eq_2 ..) (Ev.neg (by omega) (Ev.now _))
  | cons c t ih =>
    intro n a h hl ha hb
    obtain ⟨h1, h2, h3⟩ := sdrop_cons h
    rw [List.all_cons, Bool.and_eq_true] at hl
    have hc := isD_t.1 hl.1
    obtain ⟨g1, g2, g3⟩ := num_step ha hc hb
    refine Ev.step (fun _ => impl_numberOf.l0.eq_2 ..) (Ev.pos (by omega) (Ev.pos (by omega) (Ev.pos (by omega) ?_)))
    rw [h2, dig_mod hl.1, wsucc h1 (by omega), w64 (x := 10 * a) (by omega) (by omega), w64 (x := 10 * a + (c - 48)) (by omega) (by omega)]
    exact ih (n + 1) _ h3 hl.2 g1 g2
theorem numberOf_f (s : ByteArray) (hd : (L s).all isD = true) (hs : s.size ≤ 18) : Ev (fun k => impl_numberOf.f k s) (numF 0 (L s)) :=
  numberOf_l0 s hs (L s) 0 0 rfl hd (by omega) (room18 (by rw [L_length]; exact hs))
/-! ## within -/
theorem within_f (a b c : Int) : impl_within.f a b c = some (decide (b ≤ a) && decide (a ≤ c)) := by
  unfold impl_within.f; by_cases h : b ≤ a <;> simp [h]
/-! ## l1In -/
theorem l1In_f (a b c : Int) : spec_l1In.f a b c = some (decide (b ≤ a) && decide (a ≤ c)) := by
  unfold spec_l1In.f; by_cases h : b ≤ a <;> simp [h]
/-! ## sameTurn -/
/-! the next, or the last, order of digits -/
def qI (down : Bool) (l : List Int) : Nat → Option Nat
  | 0 => none
  | m + 1 => if befB down (rd l (m : Int)) (rd l ((m + 1 : Nat) : Int)) = true then some m else qI down l m
def qK (down : Bool) (l : List Int) (i : Nat) : Nat → Option Nat
  | 0 => none
  | m + 1 => if befB down (rd l (i : Int)) (rd l (m : Int)) = true then some m else qK down l i m
def swL (l : List Int) (i k : Nat) : List Int := (l.set i (rd l (k : Int))).set k (rd l (i : Int))
def turnL (down : Bool) (l : List Int) : List Int × Bool :=
  match qI down l (l.length - 1) with
  | none => ([], false)
  | some i => match qK down l i l.length with
    | none => ([], false)
    | some k => (revTail (swL l i k) i, true)
theorem swL_len (l : List Int) (i k : Nat) : (swL l i k).length = l.length := by simp [swL]
theorem qI_some {down : Bool} {l : List Int} : ∀ {m i : Nat}, qI down l m = some i → i < m ∧ befB down (rd l (i : Int)) (rd l ((i + 1 : Nat) : Int)) = true
  | 0, i, h => by cases h
  | m + 1, i, h => by
    rw [qI] at h
    split at h
    · rename_i c
      obtain rfl := Option.some.inj h
      exact ⟨by omega, c⟩
    · have := qI_some h
      exact ⟨by omega, this.2⟩
theorem qK_some {down : Bool} {l : List Int} {i : Nat} : ∀ {m k : Nat}, qK down l i m = some k → k < m
  | 0, k, h => by cases h
  | m + 1, k, h => by
    rw [qK] at h
    split at h
    · obtain rfl := Option.some.inj h; omega
    · have := qK_some h; omega
theorem qK_ex {down : Bool} {l : List Int} {i : Nat} : ∀ (m j : Nat), j < m → befB down (rd l (i : Int)) (rd l (j : Int)) = true → ∃ k, qK down l i m = some k
  | 0, j, h, _ => by omega
  | m + 1, j, h, hb => by
    rw [qK]
    by_cases c : befB down (rd l (i : Int)) (rd l (m : Int)) = true
    · exact ⟨m, if_pos c⟩
    · rw [if_neg c]
      have hne : j ≠ m := fun e => c (e ▸ hb)
      exact qK_ex m j (by omega) hb
/-! the reference's way -/
theorem befB_next {x y : Int} : (x ≥ y) ↔ ¬ befB false x y = true := by unfold befB; by_cases h : x = y <;> simp [h] <;> omega
theorem befB_last {x y : Int} : (x ≤ y) ↔ ¬ befB true x y = true := by unfold befB; by_cases h : x = y <;> simp [h] <;> omega
theorem revTail_tab {Z : List Int} {m : Nat} (hm : m + 1 ≤ Z.length) : revTail Z m = tab Z.length (fun p => if p ≤ m then rd Z (p : Int) else rd Z ((Z.length + m - p : Nat) : Int)) := by
  unfold revTail
  apply List.ext_getElem?
  intro p
  by_cases hp : p < Z.length
  · rw [tab_get hp]
    by_cases c : p ≤ m
    · rw [if_pos c, List.getElem?_append_left (by rw [List.length_take]; omega), List.getElem?_take, if_pos (by omega), rd_nat, List.getD_eq_getElem?_getD, List.getElem?_eq_getElem hp]; rfl
    · rw [if_neg c, List.getElem?_append_right (by rw [List.length_take]; omega), List.length_take, Nat.min_eq_left hm, List.getElem?_reverse (by rw [List.length_drop]; omega), List.length_drop, List.getElem?_drop, show m + 1 + (Z.length - (m + 1) - 1 - (p - (m + 1))) = Z.length + m - p by omega, rd_nat, List.getD_eq_getElem?_getD, List.getElem?_eq_getElem (by omega)]; rfl
  · rw [List.getElem?_eq_none (by simp; omega), List.getElem?_eq_none (by rw [tab_length]; omega)]
theorem turn_l2 {Z : List Int} {m : Nat} (hm : m + 1 ≤ Z.length) (hn : Z.length ≤ 1000) : ∀ e t : Nat, 2 * (m + 1 + t) + e = Z.length + m + 1 ∨ (e = 0 ∧ 2 * (m + 1 + t) ≥ Z.length + m) → t ≤ Z.length →
    Ev (fun k => spec_leTurn.l2 k (tab Z.length (fun p => if p < m + 1 + t ∨ Z.length - 1 < p + t then (if p ≤ m then rd Z (p : Int) else rd Z ((Z.length + m - p : Nat) : Int)) else rd Z (p : Int))) ((m + 1 + t : Nat) : Int) ((Z.length : Int) - 1 - (t : Int))) (revTail Z m, true) := by
  intro e
  induction e using Nat.strongRecOn with
  | ind e ih =>
    intro t he ht
    refine Ev.step (fun _ => spec_leTurn.l2.eq_2 ..) ?_
    by_cases hlt : ((m + 1 + t : Nat) : Int) < (Z.length : Int) - 1 - (t : Int)
    · refine Ev.pos hlt ?_
      rw [tab_length, show (Z.length : Int) - 1 - (t : Int) = ((Z.length - 1 - t : Nat) : Int) by omega, rd_tab (by omega), rd_tab (by omega), Int.toNat_natCast, Int.toNat_natCast, set_tab, set_tab, wsucc (m := Z.length) (by omega) (by omega), w64 (x := ((Z.length - 1 - t : Nat) : Int) - 1) (by omega) (by omega)]
      refine Ev.pos (by omega) (Ev.pos (by omega) (Ev.pos (by omega) (Ev.pos (by omega) ?_)))
      have h := ih (e - 2) (by omega) (t + 1) (by omega) (by omega)
      rw [show m + 1 + t + 1 = m + 1 + (t + 1) by omega, show ((Z.length - 1 - t : Nat) : Int) - 1 = (Z.length : Int) - 1 - ((t + 1 : Nat) : Int) by omega]
      rw [tab_congr (g := fun p => if p < m + 1 + (t + 1) ∨ Z.length - 1 < p + (t + 1) then (if p ≤ m then rd Z (p : Int) else rd Z ((Z.length + m - p : Nat) : Int)) else rd Z (p : Int))]
      · exact h
      · intro p hp
        by_cases e1 : p = Z.length - 1 - t
        · subst e1
          rw [if_pos rfl, if_neg (by omega), if_pos (by omega), if_neg (by omega), show Z.length + m - (Z.length - 1 - t) = m + 1 + t by omega]
        · rw [if_neg e1]
          by_cases e2 : p = m + 1 + t
          · subst e2
            rw [if_pos rfl, if_neg (by omega), if_pos (by omega), if_neg (by omega), show Z.length + m - (m + 1 + t) = Z.length - 1 - t by omega]
          · rw [if_neg e2]
            by_cases e3 : p < m + 1 + t ∨ Z.length - 1 < p + t
            · rw [if_pos e3, if_pos (show p < m + 1 + (t + 1) ∨ Z.length - 1 < p + (t + 1) from by omega)]
            · rw [if_neg e3, if_neg (show ¬ (p < m + 1 + (t + 1) ∨ Z.length - 1 < p + (t + 1)) from by omega)]
    · refine Ev.neg hlt (Ev.eq ?_ (Ev.now _))
      rw [revTail_tab hm]
      congr 1
      apply tab_congr
      intro p hp
      by_cases c : p < m + 1 + t ∨ Z.length - 1 < p + t
      · rw [if_pos c]
      · rw [if_neg c, if_neg (by omega), show Z.length + m - p = p by omega]
theorem turn_j3 {D : List Int} {i k : Nat} (hi : i < D.length) (hk : k < D.length) (hn : D.length ≤ 1000) : Ev (fun r => spec_leTurn.j3 r D (i : Int) (k : Int)) (revTail (swL D i k) i, true) := by
  refine Ev.step (fun _ => spec_leTurn.j3.eq_2 ..) (Ev.pos (by omega) (Ev.pos (by omega) (Ev.pos (by omega) (Ev.pos (by omega) ?_))))
  rw [Int.toNat_natCast, Int.toNat_natCast, wsucc (m := D.length) (by omega) (by omega), w64 (x := (D.length : Int) - 1) (by omega) (by omega)]
  have hz : (swL D i k).length = D.length := swL_len _ _ _
  have h := turn_l2 (Z := swL D i k) (m := i) (by omega) (by omega) (D.length + i + 1 - 2 * (i + 1)) 0 (by omega) (by omega)
  rw [hz] at h
  rw [tab_congr (g := fun p => rd (swL D i k) (p : Int)) (fun p hp => by
    by_cases c : p < i + 1 + 0 ∨ D.length - 1 < p + 0
    · rw [if_pos c, if_pos (by omega)]
    · rw [if_neg c]), show tab D.length (fun p => rd (swL D i k) (p : Int)) = swL D i k by rw [← hz]; exact tab_self _] at h
  have h2 : ((D.length : Int) - 1 - ((0 : Nat) : Int)) = (D.length : Int) - 1 := by omega
  rw [h2] at h
  exact h
theorem turn_l1 {down : Bool} {D : List Int} {i k0 : Nat} (hi : i < D.length) (hn : D.length ≤ 1000) : ∀ m : Nat, m ≤ D.length → qK down D i m = some k0 → Ev (fun r => spec_leTurn.l1 r (!down) D (i : Int) ((m : Int) - 1)) (revTail (swL D i k0) i, true)
  | 0, _, h => by cases h
  | m + 1, hm, h => by
    rw [qK] at h
    have ih := fun h2 => turn_l1 (down := down) (k0 := k0) hi hn m (by omega) h2
    have e1 : ((m + 1 : Nat) : Int) - 1 = (m : Int) := by omega
    refine Ev.step (fun _ => spec_leTurn.l1.eq_2 ..) ?_
    rw [e1, w64 (x := (m : Int) - 1) (by omega) (by omega)]
    by_cases c : befB down (rd D (i : Int)) (rd D (m : Int)) = true
    · rw [if_pos c] at h
      obtain rfl := Option.some.inj h
      have hj := turn_j3 hi (show m < D.length by omega) hn
      cases down with
      | false => exact Ev.pos rfl (Ev.pos (by omega) (Ev.pos (by omega) (Ev.pos (by omega) (Ev.pos (by omega) (Ev.neg (fun h2 => befB_next.1 h2 c) hj)))))
      | true => exact Ev.neg (by decide) (Ev.pos (by omega) (Ev.pos (by omega) (Ev.pos (by omega) (Ev.pos (by omega) (Ev.neg (fun h2 => befB_last.1 h2 c) hj)))))
    · rw [if_neg c] at h
      cases down with
      | false => exact Ev.pos rfl (Ev.pos (by omega) (Ev.pos (by omega) (Ev.pos (by omega) (Ev.pos (by omega) (Ev.pos (befB_next.2 c) (ih h))))))
      | true => exact Ev.neg (by decide) (Ev.pos (by omega) (Ev.pos (by omega) (Ev.pos (by omega) (Ev.pos (by omega) (Ev.pos (befB_last.2 c) (ih h))))))
def turnM (down : Bool) (l : List Int) (m : Nat) : List Int × Bool :=
  match qI down l m with
  | none => ([], false)
  | some i => match qK down l i l.length with
    | none => ([], false)
    | some k => (revTail (swL l i k) i, true)
theorem turn_l0 {down : Bool} {D : List Int} (hn : D.length ≤ 1000) : ∀ m : Nat, m + 1 ≤ D.length ∨ m = 0 → Ev (fun r => spec_leTurn.l0 r (!down) D ((m : Int) - 1)) (turnM down D m)
  | 0, _ => Ev.step (fun _ => spec_leTurn.l0.eq_2 ..) (Ev.neg (by omega) (Ev.now _))
  | m + 1, hm => by
    have ih := turn_l0 (down := down) hn m (by omega)
    have e1 : ((m + 1 : Nat) : Int) - 1 = (m : Int) := by omega
    have hj1 : ∀ b : Bool, b = (!befB down (rd D (m : Int)) (rd D ((m + 1 : Nat) : Int))) → Ev (fun r => spec_leTurn.j1 r (!down) D (m : Int) b) (turnM down D (m + 1)) := by
      intro b hb
      unfold turnM
      rw [qI]
      refine Ev.step (fun _ => spec_leTurn.j1.eq_2 ..) ?_
      rw [w64 (x := (m : Int) - 1) (by omega) (by omega), w64 (x := (D.length : Int) - 1) (by omega) (by omega)]
      by_cases c : befB down (rd D (m : Int)) (rd D ((m + 1 : Nat) : Int)) = true
      · rw [if_pos c]
        rw [c] at hb
        obtain ⟨k, hk⟩ := qK_ex (down := down) (l := D) (i := m) D.length (m + 1) (by omega) c
        rw [hb]
        refine Ev.neg (by decide) (Ev.eq ?_ (turn_l1 (down := down) (k0 := k) (by omega) hn D.length (Nat.le_refl _) hk))
        show (match qK down D m D.length with | none => ([], false) | some k => (revTail (swL D m k) m, true)) = _
        rw [hk]
      · rw [if_neg c]
        rw [Bool.eq_false_iff.2 c] at hb
        rw [hb]
        exact Ev.pos rfl ih
    refine Ev.step (fun _ => spec_leTurn.l0.eq_2 ..) ?_
    rw [e1, wsucc (m := D.length) (by omega) (by omega)]
    refine Ev.pos (by omega) ?_
    cases down with
    | false =>
      refine Ev.pos rfl (Ev.pos (by omega) (Ev.pos (by omega) (Ev.pos (by omega) (Ev.pos (by omega) ?_))))
      by_cases c : rd D (m : Int) ≥ rd D ((m + 1 : Nat) : Int)
      · exact Ev.pos c (hj1 true (by rw [Bool.eq_false_iff.2 (befB_next.1 c)]; rfl))
      · exact Ev.neg c (hj1 false (by rw [Classical.not_not.1 (fun h => c (befB_next.2 h))]; rfl))
    | true =>
      refine Ev.neg (by decide) (Ev.pos (by omega) (Ev.pos (by omega) (Ev.pos (by omega) (Ev.pos (by omega) (hj1 _ ?_)))))
      by_cases c : rd D (m : Int) ≤ rd D ((m + 1 : Nat) : Int)
      · rw [decide_eq_true c, Bool.eq_false_iff.2 (befB_last.1 c)]; rfl
      · rw [decide_eq_false c, Classical.not_not.1 (fun h => c (befB_last.2 h))]; rfl
theorem leTurn_f {down : Bool} {D : List Int} (h1 : 1 ≤ D.length) (hn : D.length ≤ 1000) : Ev (fun r => spec_leTurn.f r D (!down)) (turnL down D) := by
  refine Ev.sm (show spec_l1Own.f D = some D from ?_) ?_
  · unfold spec_l1Own.f
    rw [Option.bind_some, if_pos (by rw [List.length_nil]; omega), List.nil_append]
  · have h := turn_l0 (down := down) hn (D.length - 1) (by omega)
    rw [w64 (x := (D.length : Int) - 2) (by omega) (by omega), show (D.length : Int) - 2 = ((D.length - 1 : Nat) : Int) - 1 by omega]
    exact h
/-! the program's way -/
theorem arr_get (l : List Int) (m : Nat) (h : m < l.length) : l.toArray[m]! = rd l (m : Int) := by
  rw [getElem!_pos l.toArray m (by simpa using h), rd_nat, List.getD_eq_getElem?_getD, List.getElem?_eq_getElem h]
  simp
theorem pI_qI (down : Bool) (l : List Int) : ∀ m, m + 1 ≤ l.length ∨ m = 0 → pI down l.toArray m = qI down l m
  | 0, _ => rfl
  | m + 1, h => by rw [pI, qI, arr_get l m (by omega), arr_get l (m + 1) (by omega), pI_qI down l m (by omega)]
theorem pK_qK (down : Bool) (l : List Int) {i : Nat} (hi : i < l.length) : ∀ m, m ≤ l.length → pK down l.toArray i m = qK down l i m
  | 0, _ => rfl
  | m + 1, h => by rw [pK, qK, arr_get l i hi, arr_get l m (by omega), pK_qK down l hi m (by omega)]
theorem swp_swL (l : List Int) {i k : Nat} (hi : i < l.length) (hk : k < l.length) : (Go.Sort.swp l.toArray i k).toList = swL l i k := by
  unfold Go.Sort.swp swL
  rw [arr_get l i hi, arr_get l k hk]
  simp
def ansS (p : List Int × Bool) : ByteArray × Bool := if p.2 = true then (strOfNums p.1, true) else (⟨#[]⟩, false)
theorem step_f (s : ByteArray) (down : Bool) (h1 : 1 ≤ s.size) (h2 : s.size ≤ 100) : impl_step.f s down = some (ansS (turnL down (L s))) := by
  unfold impl_step.f turnL
  rw [if_pos ⟨h1, h2⟩, show bytesOf s = L s from rfl, L_length, pI_qI down (L s) (s.size - 1) (by rw [L_length]; omega)]
  cases hI : qI down (L s) (s.size - 1) with
  | none => rfl
  | some i =>
    obtain ⟨hi, hb⟩ := qI_some hI
    obtain ⟨k, hk⟩ := qK_ex (down := down) (l := L s) (i := i) s.size (i + 1) (by omega) hb
    have hkl := qK_some hk
    simp only
    rw [pK_qK down (L s) (by rw [L_length]; omega) s.size (by rw [L_length]; omega), hk]
    simp only
    rw [swp_swL (L s) (by rw [L_length]; omega) (by rw [L_length]; omega)]
    rfl
/-! digits and their letters -/
theorem rd_map (l : List Int) (m : Nat) (h : m < l.length) : rd (l.map (fun c => c - 48)) (m : Int) = rd l (m : Int) - 48 := by
  rw [rd_nat, rd_nat, List.getD_eq_getElem?_getD, List.getD_eq_getElem?_getD, List.getElem?_map, List.getElem?_eq_getElem h]; rfl
theorem befB_shift (down : Bool) (x y : Int) : befB down (x - 48) (y - 48) = befB down x y := by
  unfold befB
  congr 1
  · rw [Bool.eq_iff_iff, bne_iff_ne, bne_iff_ne]; omega
  · congr 1
    rw [Bool.eq_iff_iff, decide_eq_true_eq, decide_eq_true_eq]; omega
theorem qI_map (down : Bool) (l : List Int) : ∀ m, m + 1 ≤ l.length ∨ m = 0 → qI down (l.map (fun c => c - 48)) m = qI down l m
  | 0, _ => rfl
  | m + 1, h => by rw [qI, qI, rd_map l m (by omega), rd_map l (m + 1) (by omega), befB_shift, qI_map down l m (by omega)]
theorem qK_map (down : Bool) (l : List Int) {i : Nat} (hi : i < l.length) : ∀ m, m ≤ l.length → qK down (l.map (fun c => c - 48)) i m = qK down l i m
  | 0, _ => rfl
  | m + 1, h => by rw [qK, qK, rd_map l i hi, rd_map l m (by omega), befB_shift, qK_map down l hi m (by omega)]
theorem turnL_map (down : Bool) (l : List Int) : turnL down (l.map (fun c => c - 48)) = ((turnL down l).1.map (fun c => c - 48), (turnL down l).2) := by
  unfold turnL
  rw [List.length_map, qI_map down l _ (by omega)]
  cases hI : qI down l (l.length - 1) with
  | none => rfl
  | some i =>
    have hi := (qI_some hI).1
    simp only
    rw [qK_map down l (by omega) l.length (Nat.le_refl _)]
    cases hK : qK down l i l.length with
    | none => rfl
    | some k =>
      have hk := qK_some hK
      simp only
      congr 1
      unfold swL revTail
      rw [rd_map l k hk, rd_map l i (by omega)]
      simp [List.map_set, List.map_take, List.map_drop]
theorem turnL_mem {down : Bool} {l : List Int} {x : Int} (h : x ∈ (turnL down l).1) : x ∈ l ∨ False := by
  unfold turnL at h
  cases hI : qI down l (l.length - 1) with
  | none => rw [hI] at h; cases h
  | some i =>
    rw [hI] at h
    simp only at h
    have hi := (qI_some hI).1
    cases hK : qK down l i l.length with
    | none => rw [hK] at h; cases h
    | some k =>
      rw [hK] at h
      have hk := qK_some hK
      simp only at h
      left
      have hin : ∀ m, m < l.length → rd l (m : Int) ∈ l := by
        intro m hm
        rw [rd_nat, List.getD_eq_getElem?_getD, List.getElem?_eq_getElem hm]
        exact List.getElem_mem hm
      have h2 : x ∈ swL l i k := by
        unfold revTail at h
        rcases List.mem_append.1 h with h | h
        · exact List.mem_of_mem_take h
        · exact List.mem_of_mem_drop (List.mem_reverse.1 h)
      unfold swL at h2
      rcases List.mem_or_eq_of_mem_set h2 with h3 | h3
      · rcases List.mem_or_eq_of_mem_set h3 with h4 | h4
        · exact h4
        · rw [h4]; exact hin k hk
      · rw [h3]; exact hin i (by omega)
theorem turnL_len {down : Bool} {l : List Int} (h : (turnL down l).2 = true) : (turnL down l).1.length = l.length := by
  unfold turnL at h ⊢
  cases hI : qI down l (l.length - 1) with
  | none => rw [hI] at h; cases h
  | some i =>
    rw [hI] at h
    simp only at h ⊢
    cases hK : qK down l i l.length with
    | none => rw [hK] at h; cases h
    | some k => simp only; rw [revTail_len, swL_len]
/-! numbers out of digits -/
theorem leOf_l0 (l : List Int) (hl : l.length ≤ 18) : ∀ (t : List Int) (n : Nat) (a : Int), (l.map (fun c => c - 48)).drop n = t.map (fun c => c - 48) → t.all isD = true → 0 ≤ a → (a + 1) * p10 t.length ≤ 1000000000000000000 →
    Ev (fun k => spec_leOf.l0 k a (l.map (fun c => c - 48)) (l.length : Int) (n : Int)) (numF a t) := by
  intro t
  induction t with
  | nil =>
    intro n a h _ _ _
    have h1 := drop_nil h
    rw [List.length_map] at h1
    exact Ev.step (fun _ => spec_leOf.l0.eq_2 ..) (Ev.neg (by omega) (Ev.now _))
  | cons c t ih =>
    intro n a h hd ha hb
    rw [List.map_cons] at h
    obtain ⟨h1, h2, h3⟩ := drop_cons h
    rw [List.length_map] at h1
    rw [List.all_cons, Bool.and_eq_true] at hd
    have hc := isD_t.1 hd.1
    obtain ⟨g1, g2, g3⟩ := num_step ha hc hb
    have hr : rd (l.map (fun c => c - 48)) (n : Int) = c - 48 := by rw [rd_nat, List.getD_eq_getElem?_getD, h2]; rfl
    refine Ev.step (fun _ => spec_leOf.l0.eq_2 ..) ?_
    rw [List.length_map, hr, wsucc h1 (by omega), w64 (x := 10 * a) (by omega) (by omega), w64 (x := 10 * a + (c - 48)) (by omega) (by omega)]
    exact Ev.pos (by omega) (Ev.pos (by omega) (Ev.pos (by omega) (ih (n + 1) _ h3 hd.2 g1 g2)))
theorem leOf_f (l : List Int) (hd : l.all isD = true) (hl : l.length ≤ 18) : Ev (fun k => spec_leOf.f k (l.map (fun c => c - 48))) (numF 0 l) := by
  have h := leOf_l0 l hl l 0 0 rfl hd (by omega) (room18 hl)
  show Ev (fun k => spec_leOf.l0 k 0 (l.map (fun c => c - 48)) (((l.map (fun c => c - 48)).length : Nat) : Int) 0) _
  rw [List.length_map]
  exact h
theorem Itoa_f (n : Nat) (h : n ≤ 9223372036854775807) : strconv_Itoa.f (n : Int) = some (decS n) := by
  unfold strconv_Itoa.f
  rw [if_pos ⟨by omega, by omega⟩]
  exact congrArg some (L_inj (by rw [L_itoa, L_decS]))
theorem turn_dig {down : Bool} (n : Nat) : ((turnL down (Dg n)).1).all isD = true := by
  rw [List.all_eq_true]
  intro x hx
  rcases turnL_mem hx with h | h
  · exact List.all_eq_true.1 (Dg_isD n) x h
  · exact h.elim
theorem num_out {down : Bool} {n : Nat} (hn : n ≤ 1000000000000) (h : (turnL down (Dg n)).2 = true) : (strOfNums (turnL down (Dg n)).1).size = (Dg n).length ∧ (Dg n).length ≤ 13 ∧ L (strOfNums (turnL down (Dg n)).1) = (turnL down (Dg n)).1 := by
  have h13 := (TD_Dg 12 n (by omega)).1
  have hL : L (strOfNums (turnL down (Dg n)).1) = (turnL down (Dg n)).1 := L_strOfNums _ (fun c hc => by have := isD_t.1 (List.all_eq_true.1 (turn_dig n) c hc); omega)
  refine ⟨?_, h13, hL⟩
  rw [size_L, hL, turnL_len h]
/-! ## tdnum -/
theorem TD_numF : ∀ (k : Nat) (l : List Int), l.length = k → l.all isD = true → TD k (numF 0 l).toNat = l
  | 0, l, h, _ => by
    obtain rfl : l = [] := List.length_eq_zero_iff.1 h
    rfl
  | k + 1, l, h, hd => by
    obtain ⟨l', c, rfl⟩ : ∃ l' c, l = l' ++ [c] := ⟨l.dropLast, l.getLast (by intro e; simp [e] at h), (List.dropLast_concat_getLast _).symm⟩
    rw [List.all_append, Bool.and_eq_true] at hd
    have hc : isD c = true := by simpa using hd.2
    have hc' := isD_t.1 hc
    have hb := (numF_bd l' 0 hd.1 (by omega)).1
    have ih := TD_numF k l' (by simpa using h) hd.1
    have e : numF 0 (l' ++ [c]) = 10 * numF 0 l' + (c - 48) := by rw [numF_app]; rfl
    rw [Int.zero_mul] at hb
    rw [e, TD, show (10 * numF 0 l' + (c - 48)).toNat / 10 = (numF 0 l').toNat by omega, ih, show ((((10 * numF 0 l' + (c - 48)).toNat % 10 : Nat) : Int)) = c - 48 by omega]
    congr 2
    omega
theorem num_lt {l : List Int} (hd : l.all isD = true) : 0 ≤ numF 0 l ∧ (numF 0 l).toNat < 10 ^ l.length ∧ numF 0 l < p10 l.length := by
  obtain ⟨h1, h2⟩ := numF_bd l 0 hd (by omega)
  rw [Int.zero_mul] at h1
  rw [show ((0 : Int) + 1) * p10 l.length = p10 l.length by rw [Int.zero_add, Int.one_mul]] at h2
  refine ⟨h1, ?_, h2⟩
  rw [p10_nat] at h2
  omega
/-! ## FnExactNextSameDigits -/
def nsAns (a : Int) : Int × Bool := if 0 ≤ a ∧ a ≤ 1000000000000 then (if (turnL false (Dg a.toNat)).2 = true then (numF 0 (turnL false (Dg a.toNat)).1, true) else (0, false)) else (0, false)
theorem spec_ns (a : Int) : Ev (fun k => spec_NextSameDigits.f k a) (nsAns a) := by
  refine Ev.sm (show spec_leNumber.f a = some (decide (0 ≤ a) && decide (a ≤ 1000000000000)) by unfold spec_leNumber.f; rw [l1In_f]; rfl) ?_
  unfold nsAns
  by_cases h : 0 ≤ a ∧ a ≤ 1000000000000
  · refine Ev.eq (if_pos h) (Ev.pos (by simp; omega) ?_)
    obtain ⟨n, rfl⟩ : ∃ n : Nat, a = (n : Int) := ⟨a.toNat, by omega⟩
    rw [Int.toNat_natCast]
    have hlen := (TD_Dg 12 n (by omega)).1
    have hpos := Dg_pos n
    have ht := leTurn_f (down := false) (D := DgV n) (by rw [DgV_len]; omega) (by rw [DgV_len]; omega)
    have hm : turnL false (DgV n) = ((turnL false (Dg n)).1.map (fun c => c - 48), (turnL false (Dg n)).2) := turnL_map false (Dg n)
    rw [hm] at ht
    refine Ev.bind (leList_f n (by omega)) (Ev.bind ht ?_)
    by_cases hb : (turnL false (Dg n)).2 = true
    · refine Ev.eq (if_pos hb) (Ev.pos hb ?_)
      have hl := turnL_len hb
      exact Ev.bind (leOf_f _ (turn_dig n) (by omega)) (Ev.now _)
    · exact Ev.eq (if_neg hb) (Ev.neg hb (Ev.now _))
  · exact Ev.eq (if_neg h) (Ev.neg (by simp; omega) (Ev.now _))
theorem Dg_top : Dg 1000000000000 = [49,48,48,48,48,48,48,48,48,48,48,48,48] := by
  have h := (TD_Dg 12 1000000000000 (by decide)).2
  have h0 := (TD_Dg 12 1000000000000 (by decide)).1
  have h9 : TD 13 1000000000000 = [49,48,48,48,48,48,48,48,48,48,48,48,48] := by decide
  rw [h9] at h
  by_cases e : (Dg 1000000000000).length = 13
  · rw [e] at h
    exact h.symm
  · obtain ⟨q, hq⟩ : ∃ q, 12 + 1 - (Dg 1000000000000).length = q + 1 := ⟨12 - (Dg 1000000000000).length, by omega⟩
    rw [hq, List.replicate_succ, List.cons_append] at h
    injection h with h1 _
    omega
theorem turn_top : (turnL false (Dg 1000000000000)).2 = false := by rw [Dg_top]; decide
theorem turn_lt {n : Nat} (hn : n ≤ 1000000000000) (hb : (turnL false (Dg n)).2 = true) : 0 ≤ numF 0 (turnL false (Dg n)).1 ∧ numF 0 (turnL false (Dg n)).1 ≤ 1000000000000 := by
  obtain ⟨h1, h2, _⟩ := num_lt (turn_dig (down := false) n)
  refine ⟨h1, ?_⟩
  by_cases e : n = 1000000000000
  · subst e
    rw [turn_top] at hb
    cases hb
  · have hlen := (TD_Dg 11 n (by omega)).1
    rw [turnL_len hb] at h2
    have h3 := Nat.pow_le_pow_right (n := 10) (by omega) hlen
    have h4 : (10 : Nat) ^ (11 + 1) = 1000000000000 := by decide
    rw [h4] at h3
    clear h4
    omega
theorem impl_ns (a : Int) : Ev (fun k => impl_NextSameDigits.f k a) (nsAns a) := by
  refine Ev.sm (show impl_isLeast.f a = some (decide (0 ≤ a) && decide (a ≤ 1000000000000)) by unfold impl_isLeast.f; rw [within_f]; rfl) ?_
  unfold nsAns
  by_cases h : 0 ≤ a ∧ a ≤ 1000000000000
  · refine Ev.eq (if_pos h) (Ev.pos (by simp; omega) ?_)
    obtain ⟨n, rfl⟩ : ∃ n : Nat, a = (n : Int) := ⟨a.toNat, by omega⟩
    rw [Int.toNat_natCast]
    have hlen := (TD_Dg 12 n (by omega)).1
    have hpos := Dg_pos n
    refine Ev.sm (Itoa_f n (by omega)) (Ev.sm (step_f (decS n) false (by rw [size_decS]; omega) (by rw [size_decS]; omega)) ?_)
    rw [L_decS]
    unfold ansS
    by_cases hb : (turnL false (Dg n)).2 = true
    · obtain ⟨hz, _, hL⟩ := num_out (down := false) (by omega) hb
      rw [if_pos hb, if_pos hb]
      have hn := numberOf_f (strOfNums (turnL false (Dg n)).1) (by rw [hL]; exact turn_dig n) (by rw [hz]; omega)
      rw [hL] at hn
      have hlt := turn_lt (n := n) (by omega) hb
      refine Ev.pos rfl (Ev.bind hn (Ev.sm (show impl_isLeast.f _ = some (decide (0 ≤ numF 0 (turnL false (Dg n)).1) && decide (numF 0 (turnL false (Dg n)).1 ≤ 1000000000000)) by unfold impl_isLeast.f; rw [within_f]; rfl) ?_))
      exact Ev.pos (by rw [decide_eq_true hlt.1, decide_eq_true hlt.2]; rfl) (Ev.bind hn (Ev.now _))
    · rw [if_neg hb, if_neg hb]
      exact Ev.neg (by decide) (Ev.now _)
  · exact Ev.eq (if_neg h) (Ev.neg (by simp; omega) (Ev.now _))
theorem FnExactNextSameDigits : laws_FnExactNextSameDigits.Pure := by
  intro a _
  exact Ev.rounds (g := fun k => laws_FnExactNextSameDigits.f k a) (Ev.bind (spec_ns a) (Ev.bind (impl_ns a) (Ev.pos rfl (Ev.neg (by simp) (Ev.now _)))))

end Go.Proofs.YtkbbmkbkpkmdkaaDoor.Pure
