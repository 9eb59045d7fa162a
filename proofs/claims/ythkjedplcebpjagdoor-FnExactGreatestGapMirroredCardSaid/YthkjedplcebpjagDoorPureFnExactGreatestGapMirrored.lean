/- The plain law of FnExactGreatestGapMirrored: at all arguments the printed function of the law answers true after some number of rounds. Conditions: none beyond the bounds that the printed statement itself bears. -/
import Derived.Test.YthkjedplcebpjagDoorQFnExactGreatestGapMirroredx2
namespace Go.Proofs.YthkjedplcebpjagDoor.Pure
open Go.RowKit Go.Proofs.YthkjedplcebpjagDoor.QFnExactGreatestGapMirrored Go.Proofs.YthkjedplcebpjagDoorW.PrintWords Go.Proofs.YthkjedplcebpjagDoorW.PrintLast Go.Proofs.YthkjedplcebpjagDoorW.PrintMore Go.Proofs.YthkjedplcebpjagDoor.Ext
set_option linter.unusedVariables false

def laws_FnExactGreatestGapMirrored.Pure : Prop := ∀ (a0 : Int), (Lit.int .i64 a0).wf = true → ∃ k, laws_FnExactGreatestGapMirrored.f k a0 = some true
/-! ## base -/
/-! numbers in 64 bits -/
theorem w64 {x : Int} (h1 : -9223372036854775808 ≤ x) (h2 : x ≤ 9223372036854775807) : wrap64 x = x := by unfold wrap64; omega
theorem w64n {x : Nat} (h2 : x ≤ 9223372036854775807) : wrap64 (x : Int) = (x : Int) := w64 (by omega) (by omega)
theorem wf64 {x : Int} (h : (Lit.int .i64 x).wf = true) : -9223372036854775808 ≤ x ∧ x ≤ 9223372036854775807 := by
  have hmin : IntKind.i64.min = -9223372036854775808 := rfl
  have hmax : IntKind.i64.max = 9223372036854775807 := rfl
  simp only [Lit.wf, Bool.and_eq_true, decide_eq_true_eq, hmin, hmax] at h
  exact h
theorem tmodN (a b : Nat) : Int.tmod (a : Int) (b : Int) = ((a % b : Nat) : Int) := rfl
theorem tdivN (a b : Nat) : Int.tdiv (a : Int) (b : Int) = ((a / b : Nat) : Int) := rfl
theorem tmod_nn {a b : Int} (h : 0 ≤ a) : Int.tmod a b = a % b := Int.tmod_eq_emod_of_nonneg h
theorem tdiv_nn {a b : Int} (h : 0 ≤ a) : Int.tdiv a b = a / b := Int.tdiv_eq_ediv_of_nonneg h
/-! from some number of rounds on -/
theorem Ev.pos {α : Type} {c : Prop} [Decidable c] {f g : Nat → Option α} {r : α} (h : c) (e : Ev f r) : Ev (fun k => if c then f k else g k) r := by simpa only [if_pos h] using e
theorem Ev.neg {α : Type} {c : Prop} [Decidable c] {f g : Nat → Option α} {r : α} (h : ¬ c) (e : Ev g r) : Ev (fun k => if c then f k else g k) r := by simpa only [if_neg h] using e
theorem Ev.sm {α β : Type} {f : Nat → α → Option β} {a : α} {o : Option α} {r : β} (h : o = some a) (e : Ev (fun n => f n a) r) : Ev (fun n => o.bind (f n)) r := by subst h; simpa only [Option.bind_some] using e
theorem Ev.eq {α : Type} {f : Nat → Option α} {r r' : α} (h : r' = r) (e : Ev f r) : Ev f r' := h ▸ e
theorem Ev.of_some {α : Type} {o : Option α} {r : α} (h : o = some r) : Ev (fun _ => o) r := ⟨0, fun _ _ => h⟩
theorem Ev.uniq {α : Type} {g : Nat → Option α} {r q : α} (h : Ev g r) (h' : Ev g q) : r = q := by
  obtain ⟨K, h⟩ := h
  obtain ⟨K', h'⟩ := h'
  have := (h (max K K') (by omega)).symm.trans (h' (max K K') (by omega))
  exact Option.some.inj this
/-! a string as a list of numbers -/
def L (s : ByteArray) : List Int := s.data.toList.map (fun c => (c.toNat : Int))
theorem L_length (s : ByteArray) : (L s).length = s.size := by simp [L]
theorem bt_lo (s : ByteArray) (i : Int) : 0 ≤ bt s i := by unfold bt; split <;> omega
theorem bt_hi (s : ByteArray) (i : Int) : bt s i ≤ 255 := by
  unfold bt; split
  · have := UInt8.toNat_lt (s[i.toNat]); omega
  · omega
theorem bt_L (s : ByteArray) (n : Nat) : bt s (n : Int) = (L s).getD n 0 := by
  unfold bt L
  by_cases h : n < s.size
  · simp [h, List.getD_eq_getElem?_getD]; rfl
  · simp [h, List.getD_eq_getElem?_getD]
theorem L_get (s : ByteArray) (n : Nat) (h : n < s.size) : (L s)[n]? = some (bt s n) := by
  rw [bt_L, List.getD_eq_getElem?_getD]
  have : n < (L s).length := by rw [L_length]; exact h
  simp [this]
theorem L_mem {s : ByteArray} {c : Int} (h : c ∈ L s) : 0 ≤ c ∧ c ≤ 255 := by
  unfold L at h
  obtain ⟨u, _, rfl⟩ := List.mem_map.1 h
  have := UInt8.toNat_lt u
  omega
theorem map_toNat_inj : ∀ (l m : List UInt8), l.map (fun c => (c.toNat : Int)) = m.map (fun c => (c.toNat : Int)) → l = m
  | [], [], _ => rfl
  | [], _ :: _, h => by simp at h
  | _ :: _, [], h => by simp at h
  | a :: l, b :: m, h => by
    simp only [List.map_cons, List.cons.injEq] at h
    have h1 : a = b := by apply UInt8.toNat_inj.1; omega
    rw [h1, map_toNat_inj l m h.2]
theorem L_inj {s t : ByteArray} (h : L s = L t) : s = t := by
  have := map_toNat_inj _ _ h
  cases s; cases t
  congr 1
  exact Array.toList_inj.1 this
theorem toList_L {s t : ByteArray} : s.data.toList = t.data.toList ↔ L s = L t := by
  constructor
  · intro h; unfold L; rw [h]
  · intro h; exact map_toNat_inj _ _ h
theorem L_append (s t : ByteArray) : L (s ++ t) = L s ++ L t := by
  unfold L
  rw [ByteArray.data_append]
  simp
/-- The rest of a list from a place on. -/
theorem drop_cons {α : Type} {l : List α} {n : Nat} {c : α} {t : List α} (h : l.drop n = c :: t) : n < l.length ∧ l[n]? = some c ∧ l.drop (n + 1) = t := by
  have h1 : n < l.length := by
    by_cases h1 : n < l.length
    · exact h1
    · rw [List.drop_eq_nil_of_le (by omega)] at h; cases h
  rw [List.drop_eq_getElem_cons h1] at h
  simp only [List.cons.injEq] at h
  exact ⟨h1, by rw [List.getElem?_eq_getElem h1, h.1], h.2⟩
theorem drop_nil {α : Type} {l : List α} {n : Nat} (h : l.drop n = []) : l.length ≤ n := by simpa using h
theorem sdrop_cons {s : ByteArray} {n : Nat} {c : Int} {t : List Int} (h : (L s).drop n = c :: t) : n < s.size ∧ bt s n = c ∧ (L s).drop (n + 1) = t := by
  obtain ⟨h1, h2, h3⟩ := drop_cons h
  rw [L_length] at h1
  rw [L_get s n h1] at h2
  exact ⟨h1, Option.some.inj h2, h3⟩
theorem sdrop_nil {s : ByteArray} {n : Nat} (h : (L s).drop n = []) : s.size ≤ n := by have := drop_nil h; rwa [L_length] at this
theorem wsucc {n m : Nat} (h : n < m) (hm : m ≤ 140737488355328) : wrap64 ((n : Int) + 1) = ((n + 1 : Nat) : Int) := by rw [w64 (by omega) (by omega)]; rfl
/-! digits -/
def isD (c : Int) : Bool := decide (48 ≤ c) && decide (c ≤ 57)
theorem isD_t {c : Int} : isD c = true ↔ 48 ≤ c ∧ c ≤ 57 := by simp [isD]
theorem isD_f {c : Int} : isD c = false ↔ c < 48 ∨ 57 < c := by
  rw [← Bool.not_eq_true, isD_t]; omega
theorem dig_mod {c : Int} (h : isD c = true) : (c - 48) % 256 = c - 48 := by rw [isD_t] at h; omega
/-! ## num -/
/-- Ten to a power. -/
def p10 (n : Nat) : Int := 10 ^ n
theorem p10_succ (n : Nat) : p10 (n + 1) = 10 * p10 n := by unfold p10; rw [Int.pow_succ, Int.mul_comm]
theorem p10_pos (n : Nat) : 1 ≤ p10 n := by
  induction n with
  | zero => decide
  | succ n ih => rw [p10_succ]; omega
theorem p10_mono {n m : Nat} (h : n ≤ m) : p10 n ≤ p10 m := by
  obtain ⟨d, rfl⟩ : ∃ d, m = n + d := ⟨m - n, by omega⟩
  clear h
  induction d with
  | zero => exact Int.le_refl _
  | succ d ih => rw [← Nat.add_assoc, p10_succ]; have := p10_pos (n + d); omega
theorem p10_9 {n : Nat} (h : n ≤ 9) : p10 n ≤ 1000000000 := p10_mono h
/-- The number that digits tell, behind what stands before them. -/
def numF (a : Int) (l : List Int) : Int := l.foldl (fun n c => 10 * n + (c - 48)) a
theorem numF_cons (a c : Int) (l : List Int) : numF a (c :: l) = numF (10 * a + (c - 48)) l := rfl
theorem numF_bd : ∀ (l : List Int) (a : Int), l.all isD = true → 0 ≤ a → a * p10 l.length ≤ numF a l ∧ numF a l < (a + 1) * p10 l.length
  | [], a, _, h => by simp [numF, p10]; omega
  | c :: l, a, hl, h => by
    rw [List.all_cons, Bool.and_eq_true] at hl
    have hc := isD_t.1 hl.1
    have ih := numF_bd l (10 * a + (c - 48)) hl.2 (by omega)
    have hp := p10_pos l.length
    rw [numF_cons, List.length_cons, p10_succ]
    have e1 : a * (10 * p10 l.length) ≤ (10 * a + (c - 48)) * p10 l.length := by
      rw [← Int.mul_assoc]; exact Int.mul_le_mul_of_nonneg_right (by omega) (by omega)
    have e2 : (10 * a + (c - 48) + 1) * p10 l.length ≤ (a + 1) * (10 * p10 l.length) := by
      rw [← Int.mul_assoc]; exact Int.mul_le_mul_of_nonneg_right (by omega) (by omega)
    omega
/-- A number with room for so many digits behind it. -/
theorem num_step {a c : Int} {n : Nat} (ha : 0 ≤ a) (hc : 48 ≤ c ∧ c ≤ 57) (h : (a + 1) * p10 (n + 1) ≤ 1000000000000000000) : 0 ≤ 10 * a + (c - 48) ∧ (10 * a + (c - 48) + 1) * p10 n ≤ 1000000000000000000 ∧ 10 * a + (c - 48) ≤ 1000000000000000000 := by
  have hp := p10_pos n
  rw [p10_succ, ← Int.mul_assoc] at h
  have e2 : (10 * a + (c - 48) + 1) * p10 n ≤ (a + 1) * 10 * p10 n := Int.mul_le_mul_of_nonneg_right (by omega) (by omega)
  have e3 : (10 * a + (c - 48) + 1) * 1 ≤ (10 * a + (c - 48) + 1) * p10 n := Int.mul_le_mul_of_nonneg_left hp (by omega)
  omega
/-! ## str -/
theorem tl_eq {s t : ByteArray} : s.toList = t.toList ↔ s = t := by
  rw [ByteArray.toList_eq, ByteArray.toList_eq, toList_L]
  exact ⟨L_inj, fun h => by rw [h]⟩
theorem L_extract (s : ByteArray) (a b : Nat) : L (s.extract a b) = ((L s).take b).drop a := by
  unfold L
  rw [ByteArray.data_extract]
  simp [List.map_drop, List.map_take, List.drop_take]
theorem L_nil : L (⟨#[]⟩ : ByteArray) = [] := rfl
theorem size_L (s : ByteArray) : s.size = (L s).length := (L_length s).symm
theorem size_ext (s : ByteArray) (a b : Nat) : (s.extract a b).size = min b s.size - a := by rw [size_L, L_extract, List.length_drop, List.length_take, L_length]
theorem size_app (s t : ByteArray) : (s ++ t).size = s.size + t.size := by rw [size_L, L_append, List.length_append, L_length, L_length]
/-! ## dec -/
/-- The decimal digits of a number, as bytes told as numbers. -/
def Dg (n : Nat) : List Int := (Go.Lib.decDigits n).map (fun c => (c.toNat : Int))
theorem u8n {n : Nat} (h : n < 256) : (((UInt8.ofNat n).toNat : Nat) : Int) = (n : Int) := by
  rw [UInt8.toNat_ofNat', Nat.mod_eq_of_lt (by omega)]
theorem Dg_small {n : Nat} (h : n < 10) : Dg n = [48 + (n : Int)] := by
  unfold Dg
  rw [Go.Lib.decDigits, dif_pos h, List.map_cons, List.map_nil, u8n (by omega)]
  rfl
theorem Dg_big {n : Nat} (h : 10 ≤ n) : Dg n = Dg (n / 10) ++ [48 + ((n % 10 : Nat) : Int)] := by
  unfold Dg
  conv => lhs; rw [Go.Lib.decDigits, dif_neg (by omega)]
  rw [List.map_append, List.map_cons, List.map_nil, u8n (by omega)]
  rfl
theorem L_itoa (n : Nat) : L (⟨(Go.Lib.itoa (n : Int)).toArray⟩ : ByteArray) = Dg n := by
  unfold L Dg Go.Lib.itoa
  rw [if_neg (by omega), Int.toNat_natCast]
theorem L_dec (n : Nat) : L (⟨(Go.Lib.decDigits n).toArray⟩ : ByteArray) = Dg n := rfl
theorem Dg_dig : ∀ b n : Nat, n ≤ b → (Dg n).all isD = true
  | 0, n, h => by
    rw [Dg_small (by omega)]
    simp [isD]; omega
  | b + 1, n, h => by
    by_cases hn : n < 10
    · rw [Dg_small hn]
      simp [isD]; omega
    · rw [Dg_big (by omega), List.all_append, Dg_dig b (n / 10) (by omega)]
      simp [isD]; omega
theorem Dg_isD (n : Nat) : (Dg n).all isD = true := Dg_dig n n (Nat.le_refl _)
theorem Dg_pos : ∀ n : Nat, 1 ≤ (Dg n).length := by
  intro n
  by_cases hn : n < 10
  · rw [Dg_small hn]; simp
  · rw [Dg_big (by omega)]; simp
theorem numF_app (a : Int) (l m : List Int) : numF a (l ++ m) = numF (numF a l) m := by unfold numF; rw [List.foldl_append]
theorem Dg_num : ∀ b n : Nat, n ≤ b → numF 0 (Dg n) = n
  | 0, n, h => by
    rw [Dg_small (by omega)]
    simp [numF]; omega
  | b + 1, n, h => by
    by_cases hn : n < 10
    · rw [Dg_small hn]
      simp [numF]; omega
    · rw [Dg_big (by omega), numF_app, Dg_num b (n / 10) (by omega)]
      simp [numF]; omega
theorem num_Dg (n : Nat) : numF 0 (Dg n) = n := Dg_num n n (Nat.le_refl _)
/-- The last k digits of a number, zeros in front. -/
def TD : Nat → Nat → List Int
  | 0, _ => []
  | k + 1, n => TD k (n / 10) ++ [48 + ((n % 10 : Nat) : Int)]
theorem TD_len : ∀ k n, (TD k n).length = k
  | 0, _ => rfl
  | k + 1, n => by rw [TD, List.length_append, TD_len k]; rfl
theorem TD_dig : ∀ k n, (TD k n).all isD = true
  | 0, _ => rfl
  | k + 1, n => by
    rw [TD, List.all_append, TD_dig k]
    simp [isD]; omega
theorem TD_num : ∀ k n : Nat, n < 10 ^ k → numF 0 (TD k n) = n
  | 0, n, h => by
    simp at h
    subst h
    rfl
  | k + 1, n, h => by
    rw [Nat.pow_succ] at h
    rw [TD, numF_app, TD_num k (n / 10) (by omega)]
    simp [numF]; omega
theorem TD_Dg : ∀ k n : Nat, n < 10 ^ (k + 1) → (Dg n).length ≤ k + 1 ∧ TD (k + 1) n = List.replicate (k + 1 - (Dg n).length) 48 ++ Dg n
  | 0, n, h => by
    have hn : n < 10 := by simpa using h
    rw [Dg_small hn]
    refine ⟨by simp, ?_⟩
    rw [TD, TD, Nat.mod_eq_of_lt hn]
    simp
  | k + 1, n, h => by
    rw [Nat.pow_succ] at h
    obtain ⟨h1, h2⟩ := TD_Dg k (n / 10) (by omega)
    rw [TD, h2]
    by_cases hn : n < 10
    · have h0 : n / 10 = 0 := by omega
      rw [h0, Dg_small hn, Dg_small (by omega), Nat.mod_eq_of_lt hn]
      refine ⟨by simp, ?_⟩
      simp only [List.length_singleton, Nat.add_sub_cancel]
      rw [List.replicate_succ']
      simp
    · rw [Dg_big (n := n) (by omega), List.length_append, List.length_singleton]
      refine ⟨by omega, ?_⟩
      rw [show k + 1 + 1 - ((Dg (n / 10)).length + 1) = k + 1 - (Dg (n / 10)).length by omega, List.append_assoc]
/-- Ten to a power in both kinds of numbers. -/
theorem p10_nat (k : Nat) : p10 k = ((10 ^ k : Nat) : Int) := by unfold p10; exact (Int.natCast_pow 10 k).symm
/-! ## strnum -/
theorem ofNat_toNat {c : Int} (h : 0 ≤ c ∧ c ≤ 255) : (((UInt8.ofNat c.toNat).toNat : Nat) : Int) = c := by
  rw [UInt8.toNat_ofNat', Nat.mod_eq_of_lt (by omega)]; omega
theorem L_strOfNums (l : List Int) (h : ∀ c ∈ l, 0 ≤ c ∧ c ≤ 255) : L (strOfNums l) = l := by
  unfold L strOfNums
  rw [List.map_map]
  conv => rhs; rw [← List.map_id l]
  exact List.map_congr_left (fun c hc => ofNat_toNat (h c hc))
/-! ## l1Num -/
/-- A number's decimal text. -/
def decS (n : Nat) : ByteArray := ⟨(Go.Lib.decDigits n).toArray⟩
theorem L_decS (n : Nat) : L (decS n) = Dg n := rfl
theorem Dg_le19 (n : Nat) (h : n ≤ 9223372036854775807) : (Dg n).length ≤ 19 := (TD_Dg 18 n (by omega)).1
theorem size_decS (n : Nat) : (decS n).size = (Dg n).length := by rw [size_L, L_decS]
theorem one_dig {n : Nat} (h : n < 10) : strOfNums [wrap64 (48 + (n : Int)) % 256] = decS n := by
  apply L_inj
  rw [L_decS, Dg_small h, w64 (by omega) (by omega), Int.emod_eq_of_lt (by omega) (by omega), L_strOfNums]
  intro c hc
  rw [List.mem_singleton] at hc
  omega
theorem l1Num_b : ∀ b n : Nat, n ≤ b → n ≤ 9223372036854775807 → Ev (fun k => spec_l1Num.f k (n : Int)) (decS n)
  | 0, n, h, hb => by
    refine Ev.step (fun _ => spec_l1Num.f.eq_2 ..) (Ev.pos (by omega) (Ev.eq ?_ (Ev.now _)))
    exact (one_dig (by omega)).symm
  | b + 1, n, h, hb => by
    refine Ev.step (fun _ => spec_l1Num.f.eq_2 ..) ?_
    by_cases hn : n < 10
    · exact Ev.pos (by omega) (Ev.eq (one_dig hn).symm (Ev.now _))
    · refine Ev.neg (by omega) ?_
      rw [show Int.tdiv (n : Int) 10 = ((n / 10 : Nat) : Int) from rfl, w64n (x := n / 10) (by omega), show Int.tmod (n : Int) 10 = ((n % 10 : Nat) : Int) from rfl]
      refine Ev.bind (l1Num_b b (n / 10) (by omega) (by omega)) (Ev.sm rfl ?_)
      rw [one_dig (n := n % 10) (by omega)]
      have h1 : (decS (n / 10)).size ≤ 19 := by rw [size_decS]; exact Dg_le19 _ (by omega)
      have h2 : (decS (n % 10)).size ≤ 19 := by rw [size_decS]; exact Dg_le19 _ (by omega)
      refine Ev.pos (by omega) (Ev.eq ?_ (Ev.now _))
      apply L_inj
      rw [L_append, L_decS, L_decS, L_decS, Dg_big (n := n) (by omega), Dg_small (n := n % 10) (by omega)]
theorem l1Num_f (n : Nat) (h : n ≤ 9223372036854775807) : Ev (fun k => spec_l1Num.f k (n : Int)) (decS n) := l1Num_b n n (Nat.le_refl _) h
/-! ## padded -/
/-- The text of so many digits with a number. -/
def TS (k n : Nat) : ByteArray := strOfNums (TD k n)
theorem TD_byte (k n : Nat) : ∀ c ∈ TD k n, 0 ≤ c ∧ c ≤ 255 := by
  intro c hc
  have := isD_t.1 (List.all_eq_true.1 (TD_dig k n) c hc)
  omega
theorem L_TS (k n : Nat) : L (TS k n) = TD k n := L_strOfNums _ (TD_byte k n)
theorem TS_size (k n : Nat) : (TS k n).size = k := by rw [size_L, L_TS, TD_len]
theorem L_rep (r : Nat) : L (⟨(Go.Lib.repeatL [48] r).toArray⟩ : ByteArray) = List.replicate r 48 := by
  unfold L
  show (Go.Lib.repeatL [48] r).map _ = _
  induction r with
  | zero => rfl
  | succ r ih => rw [Go.Lib.repeatL, List.map_append, ih, List.replicate_succ]; rfl
theorem Repeat_f (r : Nat) (h : r ≤ 1000) : strings_Repeat.f (⟨#[48]⟩ : ByteArray) (r : Int) = some ⟨(Go.Lib.repeatL [48] r).toArray⟩ := by
  unfold strings_Repeat.f
  rw [if_pos ⟨by omega, by omega, by decide⟩, Int.toNat_natCast]
theorem Itoa_f (n : Nat) (h : n ≤ 9223372036854775807) : strconv_Itoa.f (n : Int) = some (decS n) := by
  unfold strconv_Itoa.f
  rw [if_pos ⟨by omega, by omega⟩]
  exact congrArg some (L_inj (by rw [L_itoa, L_decS]))
theorem padded_f (k n : Nat) (hk : k ≤ 17) (h : n < 10 ^ (k + 1)) : impl_padded.f (n : Int) ((k + 1 : Nat) : Int) = some (TS (k + 1) n) := by
  obtain ⟨h1, h2⟩ := TD_Dg k n h
  have hb : n ≤ 9223372036854775807 := by
    have : (10 : Nat) ^ (k + 1) ≤ 10 ^ 18 := Nat.pow_le_pow_right (by omega) (by omega)
    omega
  unfold impl_padded.f
  rw [Itoa_f n hb, Option.bind_some, size_decS]
  have e : mx 0 (wrap64 (((k + 1 : Nat) : Int) - ((Dg n).length : Int))) = ((k + 1 - (Dg n).length : Nat) : Int) := by
    rw [w64 (by omega) (by omega)]; unfold mx; split <;> omega
  rw [e, Repeat_f _ (by omega), Option.bind_some]
  have hz : (⟨(Go.Lib.repeatL [48] (k + 1 - (Dg n).length)).toArray⟩ : ByteArray).size = k + 1 - (Dg n).length := by rw [size_L, L_rep, List.length_replicate]
  rw [if_pos (by rw [hz]; omega)]
  congr 1
  apply L_inj
  rw [L_append, L_rep, L_decS, L_TS, h2]
/-! ## miText -/
theorem miText_l0 (d : Nat) (hd : d ≤ 1000) : ∀ (e i n : Nat) (acc t : ByteArray), i + e = d → n ≤ 9223372036854775807 → acc.size ≤ 100000 + i → L t = TD e n ++ L acc →
    Ev (fun k => spec_miText.l0 k (d : Int) (n : Int) acc (i : Int)) t
  | 0, i, n, acc, t, h, _, _, ht => by
    refine Ev.step (fun _ => spec_miText.l0.eq_2 ..) (Ev.neg (by omega) (Ev.eq ?_ (Ev.now _)))
    exact L_inj ht
  | e + 1, i, n, acc, t, h, hn, ha, ht => by
    refine Ev.step (fun _ => spec_miText.l0.eq_2 ..) (Ev.pos (by omega) ?_)
    rw [show Int.tmod (n : Int) 10 = ((n % 10 : Nat) : Int) from rfl, show Int.tdiv (n : Int) 10 = ((n / 10 : Nat) : Int) from rfl, w64n (x := n / 10) (by omega), wsucc (m := d) (by omega) (by omega)]
    have h1 : (decS (n % 10)).size = 1 := by rw [size_decS, Dg_small (by omega)]; rfl
    refine Ev.bind (l1Num_f (n % 10) (by omega)) (Ev.pos (by omega) ?_)
    refine miText_l0 d hd e (i + 1) (n / 10) _ t (by omega) (by omega) (by rw [size_app]; omega) ?_
    rw [ht, L_append, L_decS, Dg_small (by omega), TD, List.append_assoc]
theorem miText_f (d n : Nat) (hd : d ≤ 1000) (hn : n ≤ 9223372036854775807) : Ev (fun k => spec_miText.f k (d : Int) (n : Int)) (TS d n) :=
  miText_l0 d hd d 0 n ⟨#[]⟩ (TS d n) (by omega) hn (Nat.zero_le _) (by rw [L_TS, L_nil, List.append_nil])
/-! ## turned -/
theorem L_bytesOf (s : ByteArray) : bytesOf s = L s := rfl
theorem L_revB (s : ByteArray) : L (revB s) = (L s).reverse := by
  unfold revB
  rw [L_strOfNums, L_bytesOf]
  intro c hc
  rw [List.mem_reverse, L_bytesOf] at hc
  exact L_mem hc
theorem size_revB (s : ByteArray) : (revB s).size = s.size := by rw [size_L, L_revB, List.length_reverse, L_length]
theorem turned_f (s : ByteArray) (h : s.size ≤ 1000) : impl_turned.f s = some (revB s) := if_pos h
/-! ## miTurn -/
theorem miTurn_l0 (s : ByteArray) (hs : s.size ≤ 1000) : ∀ (n : Nat) (acc t : ByteArray), n ≤ s.size → acc.size ≤ 1000000 - n → L t = L acc ++ ((L s).take n).reverse →
    Ev (fun k => spec_miTurn.l0 k s acc ((n : Int) - 1)) t
  | 0, acc, t, _, _, h => by
    refine Ev.step (fun _ => spec_miTurn.l0.eq_2 ..) (Ev.neg (by omega) (Ev.eq ?_ (Ev.now _)))
    rw [List.take_zero, List.reverse_nil, List.append_nil] at h
    exact L_inj h
  | n + 1, acc, t, hn, ha, h => by
    have e1 : ((n + 1 : Nat) : Int) - 1 = (n : Int) := by omega
    refine Ev.step (fun _ => spec_miTurn.l0.eq_2 ..) ?_
    rw [e1, wsucc (m := s.size) (by omega) (by omega), Int.toNat_natCast, Int.toNat_natCast, w64 (x := (n : Int) - 1) (by omega) (by omega)]
    refine Ev.pos (by omega) (Ev.pos (by omega) (Ev.pos (by omega) (Ev.pos (by omega) (Ev.pos ?_ ?_))))
    · rw [size_ext]; omega
    · refine miTurn_l0 s hs n _ t (by omega) ?_ ?_
      · rw [size_app, size_ext]; omega
      · have hl : n < (L s).length := by rw [L_length]; omega
        rw [h, L_append, L_extract, List.take_succ_eq_append_getElem hl, List.reverse_append]
        rw [List.drop_append_of_le_length (by rw [List.length_take]; omega), List.drop_of_length_le (by rw [List.length_take]; omega)]
        simp
theorem miTurn_f (s : ByteArray) (hs : s.size ≤ 1000) : Ev (fun k => spec_miTurn.f k s) (revB s) := by
  have h := miTurn_l0 s hs s.size ⟨#[]⟩ (revB s) (Nat.le_refl _) (Nat.zero_le _) (by rw [L_revB, L_nil, List.nil_append, List.take_of_length_le (by rw [L_length]; omega)])
  show Ev (fun k => spec_miTurn.l0 k s ⟨#[]⟩ (wrap64 ((s.size : Int) - 1))) _
  rw [w64 (by omega) (by omega)]
  exact h
/-! ## mirror -/
/-- The mirrored reading of d digits with a first half. -/
def mirS (d n : Nat) : ByteArray := TS ((d + 1) / 2) n ++ revB ((TS ((d + 1) / 2) n).extract 0 (d / 2))
theorem half_w (d : Nat) (h : d ≤ 100) : wrap64 (Int.tdiv (wrap64 ((d : Int) + 1)) 2) = (((d + 1) / 2 : Nat) : Int) := by
  rw [wsucc (m := d + 1) (by omega) (by omega), show Int.tdiv ((d + 1 : Nat) : Int) 2 = (((d + 1) / 2 : Nat) : Int) from rfl, w64n (by omega)]
theorem half_d (d : Nat) (h : d ≤ 100) : wrap64 (Int.tdiv (d : Int) 2) = ((d / 2 : Nat) : Int) := by
  rw [show Int.tdiv (d : Int) 2 = ((d / 2 : Nat) : Int) from rfl, w64n (by omega)]
theorem ext_size {s : ByteArray} {b : Nat} (h : b ≤ s.size) : (s.extract 0 b).size = b := by rw [size_ext]; omega
/-- A first half, and what stands across from it. -/
def mirT (d : Nat) (t : ByteArray) : ByteArray := t ++ revB (t.extract 0 (d / 2))
theorem miMirrored_t (d : Nat) (t : ByteArray) (hd : d ≤ 18) (ht : t.size = (d + 1) / 2) : Ev (fun k => spec_miMirrored.f k (d : Int) t) (mirT d t) := by
  unfold spec_miMirrored.f
  rw [half_d d (by omega), Int.toNat_natCast, ht]
  have hz : (t.extract 0 (d / 2)).size = d / 2 := ext_size (by omega)
  refine Ev.pos (by omega) (Ev.pos (by omega) (Ev.bind (miTurn_f _ (by omega)) (Ev.pos ?_ (Ev.now _))))
  rw [size_revB, hz]; omega
theorem miMirrored_f (d n : Nat) (hd : d ≤ 18) : Ev (fun k => spec_miMirrored.f k (d : Int) (TS ((d + 1) / 2) n)) (mirS d n) := miMirrored_t d _ hd (TS_size _ _)
theorem mirS_size (d n : Nat) : (mirS d n).size = d := by
  have hz : ((TS ((d + 1) / 2) n).extract 0 (d / 2)).size = d / 2 := ext_size (by rw [TS_size]; omega)
  unfold mirS
  rw [size_app, size_revB, hz, TS_size]; omega
theorem mirS_dig (d n : Nat) : (L (mirS d n)).all isD = true := by
  unfold mirS
  rw [L_append, L_revB, L_extract, L_TS, List.drop_zero, List.all_append, List.all_reverse, TD_dig, Bool.true_and, List.all_eq_true]
  intro c hc
  exact List.all_eq_true.1 (TD_dig _ n) c (List.mem_of_mem_take hc)
theorem mirrored_f (d n : Nat) (hd1 : 1 ≤ d) (hd : d ≤ 18) (hn : n < 10 ^ ((d + 1) / 2)) : impl_mirrored.f (d : Int) (n : Int) = some (mirS d n) := by
  unfold impl_mirrored.f
  have hp := padded_f ((d + 1) / 2 - 1) n (by omega) (by rw [show (d + 1) / 2 - 1 + 1 = (d + 1) / 2 by omega]; exact hn)
  rw [show (d + 1) / 2 - 1 + 1 = (d + 1) / 2 by omega] at hp
  have hz : ((TS ((d + 1) / 2) n).extract 0 (d / 2)).size = d / 2 := ext_size (by rw [TS_size]; omega)
  rw [half_w d (by omega), hp, Option.bind_some, half_d d (by omega), Int.toNat_natCast, TS_size, if_pos (by omega), if_pos (by omega), turned_f _ (by omega), Option.bind_some, if_pos (by rw [size_revB, hz]; omega)]
  rfl
/-! ## miAll -/
theorem miAll_l0 : ∀ (n : Nat) (a : Int), 0 ≤ a → n ≤ 18 → a * p10 n ≤ 1000000000000000000 → Ev (fun k => spec_miAll.l0 k (n : Int) a) (a * p10 n)
  | 0, a, _, _, _ => Ev.step (fun _ => spec_miAll.l0.eq_2 ..) (Ev.neg (by omega) (Ev.eq (by simp [p10]) (Ev.now _)))
  | n + 1, a, h0, hn, h => by
    refine Ev.step (fun _ => spec_miAll.l0.eq_2 ..) (Ev.pos (by omega) ?_)
    have hp := p10_pos n
    have e : a * p10 (n + 1) = a * 10 * p10 n := by rw [p10_succ, Int.mul_assoc]
    have e3 : a * 10 * 1 ≤ a * 10 * p10 n := Int.mul_le_mul_of_nonneg_left hp (by omega)
    rw [e] at h ⊢
    rw [w64 (x := a * 10) (by omega) (by omega), w64 (by omega) (by omega), show ((n + 1 : Nat) : Int) - 1 = (n : Int) by omega]
    exact miAll_l0 n (a * 10) (by omega) (by omega) h
theorem miAll_f (n : Nat) (h : n ≤ 18) : Ev (fun k => spec_miAll.f k (n : Int)) (p10 n) := by
  have h1 := miAll_l0 n 1 (by omega) h (by rw [Int.one_mul]; exact p10_mono (m := 18) h)
  rw [Int.one_mul] at h1
  exact h1
/-! ## round -/
theorem round_l0 (n : Nat) (hn : n ≤ 18) : ∀ (d i : Nat), i + d = n → Ev (fun k => impl_round.l0 k (p10 i) (n : Int) (i : Int)) (p10 n)
  | 0, i, h => by
    obtain rfl : i = n := by omega
    exact Ev.step (fun _ => impl_round.l0.eq_2 ..) (Ev.neg (by omega) (Ev.now _))
  | d + 1, i, h => by
    refine Ev.step (fun _ => impl_round.l0.eq_2 ..) (Ev.pos (by omega) ?_)
    have hp := p10_pos i
    have hq : p10 (i + 1) ≤ 1000000000000000000 := p10_mono (m := 18) (by omega)
    rw [p10_succ] at hq
    rw [w64 (x := p10 i * 10) (by omega) (by omega), wsucc (m := n) (by omega) (by omega), Int.mul_comm, ← p10_succ]
    exact round_l0 n hn d (i + 1) (by omega)
theorem round_f (n : Nat) (h : n ≤ 18) : Ev (fun k => impl_round.f k (n : Int)) (p10 n) := round_l0 n h n 0 (by omega)
/-! ## room18 -/
theorem room18 {n : Nat} (h : n ≤ 18) : ((0 : Int) + 1) * p10 n ≤ 1000000000000000000 := by
  rw [Int.zero_add, Int.one_mul]; exact p10_mono (m := 18) h
/-! ## tkNumber -/
theorem tkNumber_l0 (s : ByteArray) (hs : s.size ≤ 18) : ∀ (l : List Int) (n : Nat) (a : Int), (L s).drop n = l → l.all isD = true → 0 ≤ a → (a + 1) * p10 l.length ≤ 1000000000000000000 →
    Ev (fun k => spec_tkNumber.l0 k s a (n : Int)) (numF a l) := by
  intro l
  induction l with
  | nil =>
    intro n a h _ _ _
    have h1 := sdrop_nil h
    exact Ev.step (fun _ => spec_tkNumber.l0.eq_2 ..) (Ev.neg (by omega) (Ev.now _))
  | cons c t ih =>
    intro n a h hl ha hb
    obtain ⟨h1, h2, h3⟩ := sdrop_cons h
    rw [List.all_cons, Bool.and_eq_true] at hl
    have hc := isD_t.1 hl.1
    obtain ⟨g1, g2, g3⟩ := num_step ha hc hb
    refine Ev.step (fun _ => spec_tkNumber.l0.eq_2 ..) (Ev.pos (by omega) (Ev.pos (by omega) ?_))
    rw [h2, dig_mod hl.1, wsucc h1 (by omega), w64 (x := a * 10) (by omega) (by omega), Int.mul_comm a 10, w64 (x := 10 * a + (c - 48)) (by omega) (by omega)]
    exact ih (n + 1) _ h3 hl.2 g1 g2
theorem tkNumber_f (s : ByteArray) (hd : (L s).all isD = true) (hs : s.size ≤ 18) : Ev (fun k => spec_tkNumber.f k s) (numF 0 (L s)) :=
  tkNumber_l0 s hs (L s) 0 0 rfl hd (by omega) (room18 (by rw [L_length]; exact hs))
/-! ## numberOf -/
theorem numberOf_l0 (s : ByteArray) (hs : s.size ≤ 18) : ∀ (l : List Int) (n : Nat) (a : Int), (L s).drop n = l → l.all isD = true → 0 ≤ a → (a + 1) * p10 l.length ≤ 1000000000000000000 →
    Ev (fun k => impl_numberOf.l0 k s a (s.size : Int) (n : Int)) (numF a l) := by
  intro l
  induction l with
  | nil =>
    intro n a h _ _ _
    have h1 := sdrop_nil h
    exact Ev.step (fun _ => impl_numberOf.l0.eq_2 ..) (Ev.neg (by omega) (Ev.now _))
  | cons c t ih =>
    intro n a h hl ha hb
    obtain ⟨h1, h2, h3⟩ := sdrop_cons h
    rw [List.all_cons, Bool.and_eq_true] at hl
    have hc := isD_t.1 hl.1
    obtain ⟨g1, g2, g3⟩ := num_step ha hc hb
    refine Ev.step (fun _ => impl_numberOf.l0.eq_2 ..) (Ev.pos (by omega) (Ev.pos (by omega) (Ev.pos (by omega) ?_)))
    rw [h2, dig_mod hl.1, wsucc h1 (by omega), w64 (x := 10 * a) (by omega) (by omega), w64 (x := 10 * a + (c - 48)) (by omega) (by omega)]
    exact ih (n + 1) _ h3 hl.2 g1 g2
theorem numberOf_f (s : ByteArray) (hd : (L s).all isD = true) (hs : s.size ≤ 18) : Ev (fun k => impl_numberOf.f k s) (numF 0 (L s)) :=
  numberOf_l0 s hs (L s) 0 0 rfl hd (by omega) (room18 (by rw [L_length]; exact hs))
/-! ## miToT -/
/-- From one number to another one on a dial of n digits. -/
def toGo (a b : ByteArray) : Int := Int.tmod (wrap64 ((wrap64 (numF 0 (L b) - numF 0 (L a))) + p10 a.size)) (p10 a.size)
theorem miTo_f (a b : ByteArray) (ha : (L a).all isD = true) (hb : (L b).all isD = true) (ha9 : a.size ≤ 9) (hb9 : b.size ≤ 9) : Ev (fun k => spec_miTo.f k a b) (toGo a b) :=
  Ev.bind (miAll_f a.size (by omega)) (Ev.bind (tkNumber_f b hb (by omega)) (Ev.bind (tkNumber_f a ha (by omega)) (Ev.neg (by have := p10_pos a.size; omega) (Ev.now _))))
theorem milesTo_f (a b : ByteArray) (ha : (L a).all isD = true) (hb : (L b).all isD = true) (ha9 : a.size ≤ 9) (hb9 : b.size ≤ 9) : Ev (fun k => impl_milesTo.f k a b) (toGo a b) :=
  Ev.bind (round_f a.size (by omega)) (Ev.bind (numberOf_f b hb (by omega)) (Ev.bind (numberOf_f a ha (by omega)) (Ev.neg (by have := p10_pos a.size; omega) (Ev.now _))))
/-! ## l1In -/
theorem l1In_f (a b c : Int) : spec_l1In.f a b c = some (decide (b ≤ a) && decide (a ≤ c)) := by
  unfold spec_l1In.f; by_cases h : b ≤ a <;> simp [h]
/-! ## within -/
theorem within_f (a b c : Int) : impl_within.f a b c = some (decide (b ≤ a) && decide (a ≤ c)) := by
  unfold impl_within.f; by_cases h : b ≤ a <;> simp [h]
/-! ## FnExactGreatestGapMirrored -/
/-- The gap behind the mirrored reading with a first half. -/
def gapF (d x : Nat) : Int := toGo (mirS d x) (mirS d ((x + 1) % 10 ^ ((d + 1) / 2)))
/-- Of e halves from x on: the first with the greatest gap, as good as what is known or better. -/
def ggF (d : Nat) : Nat → Nat → ByteArray → Int → ByteArray × Int × Bool
  | 0, _, b, m => (b, m, true)
  | e + 1, x, b, m => if gapF d x > m then ggF d e (x + 1) (mirS d x) (gapF d x) else ggF d e (x + 1) b m
theorem nxt (d x : Nat) (hd : d ≤ 9) (hx : x < 10 ^ ((d + 1) / 2)) : Int.tmod (wrap64 ((x : Int) + 1)) (p10 ((d + 1) / 2)) = (((x + 1) % 10 ^ ((d + 1) / 2) : Nat) : Int) ∧ x ≤ 1000000000 ∧ (x + 1) % 10 ^ ((d + 1) / 2) < 10 ^ ((d + 1) / 2) ∧ (x + 1) % 10 ^ ((d + 1) / 2) ≤ 1000000000 := by
  have hq : 10 ^ ((d + 1) / 2) ≤ 10 ^ 9 := Nat.pow_le_pow_right (by omega) (by omega)
  have hp : 0 < 10 ^ ((d + 1) / 2) := Nat.pow_pos (by omega)
  have hm := Nat.mod_lt (x + 1) hp
  rw [wsucc (m := 10 ^ 9) (by omega) (by decide), p10_nat]
  exact ⟨rfl, by omega, hm, by omega⟩
theorem specGG_l0 (d : Nat) (hd1 : 1 ≤ d) (hd : d ≤ 9) : ∀ (e x : Nat) (b : ByteArray) (m : Int), x + e = 10 ^ ((d + 1) / 2) →
    Ev (fun k => spec_GreatestGapMirrored.l0 k (d : Int) (((d + 1) / 2 : Nat) : Int) b m (x : Int)) (ggF d e x b m)
  | 0, x, b, m, h => by
    refine Ev.step (fun _ => spec_GreatestGapMirrored.l0.eq_2 ..) (Ev.bind (miAll_f ((d + 1) / 2) (by omega)) (Ev.neg (by rw [p10_nat]; omega) (Ev.now _)))
  | e + 1, x, b, m, h => by
    obtain ⟨h1, h2, h3, h4⟩ := nxt d x hd (by omega)
    refine Ev.step (fun _ => spec_GreatestGapMirrored.l0.eq_2 ..) (Ev.bind (miAll_f ((d + 1) / 2) (by omega)) (Ev.pos (by rw [p10_nat]; omega) ?_))
    refine Ev.bind (miText_f ((d + 1) / 2) x (by omega) (by omega)) (Ev.bind (miMirrored_f d x (by omega)) (Ev.bind (miAll_f ((d + 1) / 2) (by omega)) (Ev.neg (by have := p10_pos ((d + 1) / 2); omega) ?_)))
    rw [h1]
    refine Ev.bind (miText_f ((d + 1) / 2) _ (by omega) (by omega)) (Ev.bind (miMirrored_f d _ (by omega)) (Ev.bind (miTo_f _ _ (mirS_dig _ _) (mirS_dig _ _) (by rw [mirS_size]; exact hd) (by rw [mirS_size]; exact hd)) ?_))
    rw [wsucc (m := 1000000001) (by omega) (by decide), ggF]
    by_cases c : gapF d x > m
    · rw [if_pos c]
      exact Ev.pos c (specGG_l0 d hd1 hd e (x + 1) _ _ (by omega))
    · rw [if_neg c]
      exact Ev.neg c (specGG_l0 d hd1 hd e (x + 1) _ _ (by omega))
theorem implGG_l0 (d : Nat) (hd1 : 1 ≤ d) (hd : d ≤ 9) : ∀ (e x : Nat) (b : ByteArray) (m : Int), x + e = 10 ^ ((d + 1) / 2) →
    Ev (fun k => impl_GreatestGapMirrored.l0 k (d : Int) b m (p10 ((d + 1) / 2)) (p10 ((d + 1) / 2)) (x : Int)) (ggF d e x b m)
  | 0, x, b, m, h => Ev.step (fun _ => impl_GreatestGapMirrored.l0.eq_2 ..) (Ev.neg (by rw [p10_nat]; omega) (Ev.now _))
  | e + 1, x, b, m, h => by
    obtain ⟨h1, h2, h3, h4⟩ := nxt d x hd (by omega)
    refine Ev.step (fun _ => impl_GreatestGapMirrored.l0.eq_2 ..) (Ev.pos (by rw [p10_nat]; omega) (Ev.sm (mirrored_f d x hd1 (by omega) (by omega)) (Ev.neg (by have := p10_pos ((d + 1) / 2); omega) ?_)))
    rw [h1]
    refine Ev.sm (mirrored_f d _ hd1 (by omega) h3) (Ev.bind (milesTo_f _ _ (mirS_dig _ _) (mirS_dig _ _) (by rw [mirS_size]; exact hd) (by rw [mirS_size]; exact hd)) ?_)
    rw [wsucc (m := 1000000001) (by omega) (by decide), ggF]
    by_cases c : gapF d x > m
    · rw [if_pos c]
      exact Ev.pos c (implGG_l0 d hd1 hd e (x + 1) _ _ (by omega))
    · rw [if_neg c]
      exact Ev.neg c (implGG_l0 d hd1 hd e (x + 1) _ _ (by omega))
def ggAns (a : Int) : ByteArray × Int × Bool := if 1 ≤ a ∧ a ≤ 9 then ggF a.toNat (10 ^ ((a.toNat + 1) / 2)) 0 ⟨#[]⟩ 0 else (⟨#[]⟩, 0, false)
theorem specGG_f (a : Int) : Ev (fun k => spec_GreatestGapMirrored.f k a) (ggAns a) := by
  refine Ev.sm (show spec_miSize.f a = some (decide (1 ≤ a) && decide (a ≤ 9)) from by unfold spec_miSize.f; rw [l1In_f]; rfl) ?_
  unfold ggAns
  by_cases h : 1 ≤ a ∧ a ≤ 9
  · obtain ⟨d, rfl⟩ : ∃ d : Nat, a = d := ⟨a.toNat, by omega⟩
    refine Ev.eq (if_pos h) (Ev.pos (by simp; omega) ?_)
    rw [half_w d (by omega), Int.toNat_natCast]
    exact specGG_l0 d (by omega) (by omega) _ 0 _ _ (by omega)
  · exact Ev.eq (if_neg h) (Ev.neg (by simp; omega) (Ev.now _))
theorem implGG_f (a : Int) : Ev (fun k => impl_GreatestGapMirrored.f k a) (ggAns a) := by
  refine Ev.sm (show impl_isDial.f a = some (decide (1 ≤ a) && decide (a ≤ 9)) from by unfold impl_isDial.f; rw [within_f]; rfl) ?_
  unfold ggAns
  by_cases h : 1 ≤ a ∧ a ≤ 9
  · obtain ⟨d, rfl⟩ : ∃ d : Nat, a = d := ⟨a.toNat, by omega⟩
    refine Ev.eq (if_pos h) (Ev.pos (by simp; omega) ?_)
    rw [half_w d (by omega), Int.toNat_natCast]
    exact Ev.bind (round_f ((d + 1) / 2) (by omega)) (implGG_l0 d (by omega) (by omega) _ 0 _ _ (by omega))
  · exact Ev.eq (if_neg h) (Ev.neg (by simp; omega) (Ev.now _))
theorem FnExactGreatestGapMirrored : laws_FnExactGreatestGapMirrored.Pure := by
  intro a _
  refine Ev.rounds (g := fun k => laws_FnExactGreatestGapMirrored.f k a) ?_
  exact Ev.bind (specGG_f a) (Ev.bind (implGG_f a) (Ev.pos rfl (Ev.pos rfl (Ev.neg (by simp) (Ev.now _)))))

end Go.Proofs.YthkjedplcebpjagDoor.Pure
