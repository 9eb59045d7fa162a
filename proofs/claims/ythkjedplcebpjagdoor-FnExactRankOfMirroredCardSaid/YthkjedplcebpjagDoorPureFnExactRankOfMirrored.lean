/- The plain law of FnExactRankOfMirrored: at all arguments the printed function of the law answers true after some number of rounds. Conditions: none beyond the bounds that the printed statement itself bears. -/
import Derived.Test.YthkjedplcebpjagDoorQFnExactRankOfMirroredx2
namespace Go.Proofs.YthkjedplcebpjagDoor.Pure
open Go.RowKit Go.Proofs.YthkjedplcebpjagDoor.QFnExactRankOfMirrored Go.Proofs.YthkjedplcebpjagDoorW.PrintWords Go.Proofs.YthkjedplcebpjagDoorW.PrintLast Go.Proofs.YthkjedplcebpjagDoorW.PrintMore Go.Proofs.YthkjedplcebpjagDoor.Ext
set_option linter.unusedVariables false

def laws_FnExactRankOfMirrored.Pure : Prop := ∀ (a0 : ByteArray), a0.size ≤ 140737488351232 → ∃ k, laws_FnExactRankOfMirrored.f k a0 = some true
/-! ## base -/
/-! numbers in 64 bits -/
theorem w64 {x : Int} (h1 : -9223372036854775808 ≤ x) (h2 : x ≤ 9223372036854775807) : wrap64 x = x := by unfold wrap64; omega
theorem w64n {x : Nat} (h2 : x ≤ 9223372036854775807) : wrap64 (x : Int) = (x : Int) := w64 (by omega) (by omega)
theorem wf64 {x : Int} (h : (Lit.int .i64 x).wf = true) : -9223372036854775808 ≤ x ∧ x ≤ 9223372036854775807 := by
  have hmin : IntKind.i64.min = -9223372036854775808 := rfl
  have hmax : IntKind.i64.max = 9223372036854775807 := rfl
  simp only [Lit.wf, Bool.and_eq_true, decide_eq_true_eq, hmin, hmax] at h
  exact h
theorem tmodN (a b : Nat) : Int.tmod (a : Int) (b : Int) = ((a % b : Nat) : Int) := rfl
theorem tdivN (a b : Nat) : Int.tdiv (a : Int) (b : Int) = ((a / b : Nat) : Int) := rfl
theorem tmod_nn {a b : Int} (h : 0 ≤ a) : Int.tmod a b = a % b := Int.tmod_eq_emod_of_nonneg h
theorem tdiv_nn {a b : Int} (h : 0 ≤ a) : Int.tdiv a b = a / b := Int.tdiv_eq_ediv_of_nonneg h
/-! from some number of rounds on -/
theorem Ev.pos {α : Type} {c : Prop} [Decidable c] {f g : Nat → Option α} {r : α} (h : c) (e : Ev f r) : Ev (fun k => if c then f k else g k) r := by simpa only [if_pos h] using e
theorem Ev.neg {α : Type} {c : Prop} [Decidable c] {f g : Nat → Option α} {r : α} (h : ¬ c) (e : Ev g r) : Ev (fun k => if c then f k else g k) r := by simpa only [if_neg h] using e
theorem Ev.sm {α β : Type} {f : Nat → α → Option β} {a : α} {o : Option α} {r : β} (h : o = some a) (e : Ev (fun n => f n a) r) : Ev (fun n => o.bind (f n)) r := by subst h; simpa only [Option.bind_some] using e
theorem Ev.eq {α : Type} {f : Nat → Option α} {r r' : α} (h : r' = r) (e : Ev f r) : Ev f r' := h ▸ e
theorem Ev.of_some {α : Type} {o : Option α} {r : α} (h : o = some r) : Ev (fun _ => o) r := ⟨0, fun _ _ => h⟩
theorem Ev.uniq {α : Type} {g : Nat → Option α} {r q : α} (h : Ev g r) (h' : Ev g q) : r = q := by
  obtain ⟨K, h⟩ := h
  obtain ⟨K', h'⟩ := h'
  have := (h (max K K') (by omega)).symm.trans (h' (max K K') (by omega))
  exact Option.some.inj this
/-! a string as a list of numbers -/
def L (s : ByteArray) : List Int := s.data.toList.map (fun c => (c.toNat : Int))
theorem L_length (s : ByteArray) : (L s).length = s.size := by simp [L]
theorem bt_lo (s : ByteArray) (i : Int) : 0 ≤ bt s i := by unfold bt; split <;> omega
theorem bt_hi (s : ByteArray) (i : Int) : bt s i ≤ 255 := by
  unfold bt; split
  · have := UInt8.toNat_lt (s[i.toNat]); omega
  · omega
theorem bt_L (s : ByteArray) (n : Nat) : bt s (n : Int) = (L s).getD n 0 := by
  unfold bt L
  by_cases h : n < s.size
  · simp [h, List.getD_eq_getElem?_getD]; rfl
  · simp [h, List.getD_eq_getElem?_getD]
theorem L_get (s : ByteArray) (n : Nat) (h : n < s.size) : (L s)[n]? = some (bt s n) := by
  rw [bt_L, List.getD_eq_getElem?_getD]
  have : n < (L s).length := by rw [L_length]; exact h
  simp [this]
theorem L_mem {s : ByteArray} {c : Int} (h : c ∈ L s) : 0 ≤ c ∧ c ≤ 255 := by
  unfold L at h
  obtain ⟨u, _, rfl⟩ := List.mem_map.1 h
  have := UInt8.toNat_lt u
  omega
theorem map_toNat_inj : ∀ (l m : List UInt8), l.map (fun c => (c.toNat : Int)) = m.map (fun c => (c.toNat : Int)) → l = m
  | [], [], _ => rfl
  | [], _ :: _, h => by simp at h
  | _ :: _, [], h => by simp at h
  | a :: l, b :: m, h => by
    simp only [List.map_cons, List.cons.injEq] at h
    have h1 : a = b := by apply UInt8.toNat_inj.1; omega
    rw [h1, map_toNat_inj l m h.2]
theorem L_inj {s t : ByteArray} (h : L s = L t) : s = t := by
  have := map_toNat_inj _ _ h
  cases s; cases t
  congr 1
  exact Array.toList_inj.1 this
theorem toList_L {s t : ByteArray} : s.data.toList = t.data.toList ↔ L s = L t := by
  constructor
  · intro h; unfold L; rw [h]
  · intro h; exact map_toNat_inj _ _ h
theorem L_append (s t : ByteArray) : L (s ++ t) = L s ++ L t := by
  unfold L
  rw [ByteArray.data_append]
  simp
/-- The rest of a list from a place on. -/
theorem drop_cons {α : Type} {l : List α} {n : Nat} {c : α} {t : List α} (h : l.drop n = c :: t) : n < l.length ∧ l[n]? = some c ∧ l.drop (n + 1) = t := by
  have h1 : n < l.length := by
    by_cases h1 : n < l.length
    · exact h1
    · rw [List.drop_eq_nil_of_le (by omega)] at h; cases h
  rw [List.drop_eq_getElem_cons h1] at h
  simp only [List.cons.injEq] at h
  exact ⟨h1, by rw [List.getElem?_eq_getElem h1, h.1], h.2⟩
theorem drop_nil {α : Type} {l : List α} {n : Nat} (h : l.drop n = []) : l.length ≤ n := by simpa using h
theorem sdrop_cons {s : ByteArray} {n : Nat} {c : Int} {t : List Int} (h : (L s).drop n = c :: t) : n < s.size ∧ bt s n = c ∧ (L s).drop (n + 1) = t := by
  obtain ⟨h1, h2, h3⟩ := drop_cons h
  rw [L_length] at h1
  rw [L_get s n h1] at h2
  exact ⟨h1, Option.some.inj h2, h3⟩
theorem sdrop_nil {s : ByteArray} {n : Nat} (h : (L s).drop n = []) : s.size ≤ n := by have := drop_nil h; rwa [L_length] at this
theorem wsucc {n m : Nat} (h : n < m) (hm : m ≤ 140737488355328) : wrap64 ((n : Int) + 1) = ((n + 1 : Nat) : Int) := by rw [w64 (by omega) (by omega)]; rfl
/-! digits -/
def isD (c : Int) : Bool := decide (48 ≤ c) && decide (c ≤ 57)
theorem isD_t {c : Int} : isD c = true ↔ 48 ≤ c ∧ c ≤ 57 := by simp [isD]
theorem isD_f {c : Int} : isD c = false ↔ c < 48 ∨ 57 < c := by
  rw [← Bool.not_eq_true, isD_t]; omega
theorem dig_mod {c : Int} (h : isD c = true) : (c - 48) % 256 = c - 48 := by rw [isD_t] at h; omega
/-! ## num -/
/-- Ten to a power. -/
def p10 (n : Nat) : Int := 10 ^ n
theorem p10_succ (n : Nat) : p10 (n + 1) = 10 * p10 n := by unfold p10; rw [Int.pow_succ, Int.mul_comm]
theorem p10_pos (n : Nat) : 1 ≤ p10 n := by
  induction n with
  | zero => decide
  | succ n ih => rw [p10_succ]; omega
theorem p10_mono {n m : Nat} (h : n ≤ m) : p10 n ≤ p10 m := by
  obtain ⟨d, rfl⟩ : ∃ d, m = n + d := ⟨m - n, by omega⟩
  clear h
  induction d with
  | zero => exact Int.le_refl _
  | succ d ih => rw [← Nat.add_assoc, p10_succ]; have := p10_pos (n + d); omega
theorem p10_9 {n : Nat} (h : n ≤ 9) : p10 n ≤ 1000000000 := p10_mono h
/-- The number that digits tell, behind what stands before them. -/
def numF (a : Int) (l : List Int) : Int := l.foldl (fun n c => 10 * n + (c - 48)) a
theorem numF_cons (a c : Int) (l : List Int) : numF a (c :: l) = numF (10 * a + (c - 48)) l := rfl
theorem numF_bd : ∀ (l : List Int) (a : Int), l.all isD = true → 0 ≤ a → a * p10 l.length ≤ numF a l ∧ numF a l < (a + 1) * p10 l.length
  | [], a, _, h => by simp [numF, p10]; omega
  | c :: l, a, hl, h => by
    rw [List.all_cons, Bool.and_eq_true] at hl
    have hc := isD_t.1 hl.1
    have ih := numF_bd l (10 * a + (c - 48)) hl.2 (by omega)
    have hp := p10_pos l.length
    rw [numF_cons, List.length_cons, p10_succ]
    have e1 : a * (10 * p10 l.length) ≤ (10 * a + (c - 48)) * p10 l.length := by
      rw [← Int.mul_assoc]; exact Int.mul_le_mul_of_nonneg_right (by omega) (by omega)
    have e2 : (10 * a + (c - 48) + 1) * p10 l.length ≤ (a + 1) * (10 * p10 l.length) := by
      rw [← Int.mul_assoc]; exact Int.mul_le_mul_of_nonneg_right (by omega) (by omega)
    omega
/-- A number with room for so many digits behind it. -/
theorem num_step {a c : Int} {n : Nat} (ha : 0 ≤ a) (hc : 48 ≤ c ∧ c ≤ 57) (h : (a + 1) * p10 (n + 1) ≤ 1000000000000000000) : 0 ≤ 10 * a + (c - 48) ∧ (10 * a + (c - 48) + 1) * p10 n ≤ 1000000000000000000 ∧ 10 * a + (c - 48) ≤ 1000000000000000000 := by
  have hp := p10_pos n
  rw [p10_succ, ← Int.mul_assoc] at h
  have e2 : (10 * a + (c - 48) + 1) * p10 n ≤ (a + 1) * 10 * p10 n := Int.mul_le_mul_of_nonneg_right (by omega) (by omega)
  have e3 : (10 * a + (c - 48) + 1) * 1 ≤ (10 * a + (c - 48) + 1) * p10 n := Int.mul_le_mul_of_nonneg_left hp (by omega)
  omega
/-! ## str -/
theorem tl_eq {s t : ByteArray} : s.toList = t.toList ↔ s = t := by
  rw [ByteArray.toList_eq, ByteArray.toList_eq, toList_L]
  exact ⟨L_inj, fun h => by rw [h]⟩
theorem L_extract (s : ByteArray) (a b : Nat) : L (s.extract a b) = ((L s).take b).drop a := by
  unfold L
  rw [ByteArray.data_extract]
  simp [List.map_drop, List.map_take, List.drop_take]
theorem L_nil : L (⟨#[]⟩ : ByteArray) = [] := rfl
theorem size_L (s : ByteArray) : s.size = (L s).length := (L_length s).symm
theorem size_ext (s : ByteArray) (a b : Nat) : (s.extract a b).size = min b s.size - a := by rw [size_L, L_extract, List.length_drop, List.length_take, L_length]
theorem size_app (s t : ByteArray) : (s ++ t).size = s.size + t.size := by rw [size_L, L_append, List.length_append, L_length, L_length]
/-! ## dec -/
/-- The decimal digits of a number, as bytes told as numbers. -/
def Dg (n : Nat) : List Int := (Go.Lib.decDigits n).map (fun c => (c.toNat : Int))
theorem u8n {n : Nat} (h : n < 256) : (((UInt8.ofNat n).toNat : Nat) : Int) = (n : Int) := by
  rw [UInt8.toNat_ofNat', Nat.mod_eq_of_lt (by omega)]
theorem Dg_small {n : Nat} (h : n < 10) : Dg n = [48 + (n : Int)] := by
  unfold Dg
  rw [Go.Lib.decDigits, dif_pos h, List.map_cons, List.map_nil, u8n (by omega)]
  rfl
theorem Dg_big {n : Nat} (h : 10 ≤ n) : Dg n = Dg (n / 10) ++ [48 + ((n % 10 : Nat) : Int)] := by
  unfold Dg
  conv => lhs; rw [Go.Lib.decDigits, dif_neg (by omega)]
  rw [List.map_append, List.map_cons, List.map_nil, u8n (by omega)]
  rfl
theorem L_itoa (n : Nat) : L (⟨(Go.Lib.itoa (n : Int)).toArray⟩ : ByteArray) = Dg n := by
  unfold L Dg Go.Lib.itoa
  rw [if_neg (by omega), Int.toNat_natCast]
theorem L_dec (n : Nat) : L (⟨(Go.Lib.decDigits n).toArray⟩ : ByteArray) = Dg n := rfl
theorem Dg_dig : ∀ b n : Nat, n ≤ b → (Dg n).all isD = true
  | 0, n, h => by
    rw [Dg_small (by omega)]
    simp [isD]; omega
  | b + 1, n, h => by
    by_cases hn : n < 10
    · rw [Dg_small hn]
      simp [isD]; omega
    · rw [Dg_big (by omega), List.all_append, Dg_dig b (n / 10) (by omega)]
      simp [isD]; omega
theorem Dg_isD (n : Nat) : (Dg n).all isD = true := Dg_dig n n (Nat.le_refl _)
theorem Dg_pos : ∀ n : Nat, 1 ≤ (Dg n).length := by
  intro n
  by_cases hn : n < 10
  · rw [Dg_small hn]; simp
  · rw [Dg_big (by omega)]; simp
theorem numF_app (a : Int) (l m : List Int) : numF a (l ++ m) = numF (numF a l) m := by unfold numF; rw [List.foldl_append]
theorem Dg_num : ∀ b n : Nat, n ≤ b → numF 0 (Dg n) = n
  | 0, n, h => by
    rw [Dg_small (by omega)]
    simp [numF]; omega
  | b + 1, n, h => by
    by_cases hn : n < 10
    · rw [Dg_small hn]
      simp [numF]; omega
    · rw [Dg_big (by omega), numF_app, Dg_num b (n / 10) (by omega)]
      simp [numF]; omega
theorem num_Dg (n : Nat) : numF 0 (Dg n) = n := Dg_num n n (Nat.le_refl _)
/-- The last k digits of a number, zeros in front. -/
def TD : Nat → Nat → List Int
  | 0, _ => []
  | k + 1, n => TD k (n / 10) ++ [48 + ((n % 10 : Nat) : Int)]
theorem TD_len : ∀ k n, (TD k n).length = k
  | 0, _ => rfl
  | k + 1, n => by rw [TD, List.length_append, TD_len k]; rfl
theorem TD_dig : ∀ k n, (TD k n).all isD = true
  | 0, _ => rfl
  | k + 1, n => by
    rw [TD, List.all_append, TD_dig k]
    simp [isD]; omega
theorem TD_num : ∀ k n : Nat, n < 10 ^ k → numF 0 (TD k n) = n
  | 0, n, h => by
    simp at h
    subst h
    rfl
  | k + 1, n, h => by
    rw [Nat.pow_succ] at h
    rw [TD, numF_app, TD_num k (n / 10) (by omega)]
    simp [numF]; omega
theorem TD_Dg : ∀ k n : Nat, n < 10 ^ (k + 1) → (Dg n).length ≤ k + 1 ∧ TD (k + 1) n = List.replicate (k + 1 - (Dg n).length) 48 ++ Dg n
  | 0, n, h => by
    have hn : n < 10 := by simpa using h
    rw [Dg_small hn]
    refine ⟨by simp, ?_⟩
    rw [TD, TD, Nat.mod_eq_of_lt hn]
    simp
  | k + 1, n, h => by
    rw [Nat.pow_succ] at h
    obtain ⟨h1, h2⟩ := TD_Dg k (n / 10) (by omega)
    rw [TD, h2]
    by_cases hn : n < 10
    · have h0 : n / 10 = 0 := by omega
      rw [h0, Dg_small hn, Dg_small (by omega), Nat.mod_eq_of_lt hn]
      refine ⟨by simp, ?_⟩
      simp only [List.length_singleton, Nat.add_sub_cancel]
      rw [List.replicate_succ']
      simp
    · rw [Dg_big (n := n) (by omega), List.length_append, List.length_singleton]
      refine ⟨by omega, ?_⟩
      rw [show k + 1 + 1 - ((Dg (n / 10)).length + 1) = k + 1 - (Dg (n / 10)).length by omega, List.append_assoc]
/-- Ten to a power in both kinds of numbers. -/
theorem p10_nat (k : Nat) : p10 k = ((10 ^ k : Nat) : Int) := by unfold p10; exact (Int.natCast_pow 10 k).symm
/-! ## strnum -/
theorem ofNat_toNat {c : Int} (h : 0 ≤ c ∧ c ≤ 255) : (((UInt8.ofNat c.toNat).toNat : Nat) : Int) = c := by
  rw [UInt8.toNat_ofNat', Nat.mod_eq_of_lt (by omega)]; omega
theorem L_strOfNums (l : List Int) (h : ∀ c ∈ l, 0 ≤ c ∧ c ≤ 255) : L (strOfNums l) = l := by
  unfold L strOfNums
  rw [List.map_map]
  conv => rhs; rw [← List.map_id l]
  exact List.map_congr_left (fun c hc => ofNat_toNat (h c hc))
/-! ## decs -/
/-- A number's decimal text. -/
def decS (n : Nat) : ByteArray := ⟨(Go.Lib.decDigits n).toArray⟩
theorem L_decS (n : Nat) : L (decS n) = Dg n := rfl
theorem Dg_le19 (n : Nat) (h : n ≤ 9223372036854775807) : (Dg n).length ≤ 19 := (TD_Dg 18 n (by omega)).1
theorem size_decS (n : Nat) : (decS n).size = (Dg n).length := by rw [size_L, L_decS]
theorem one_dig {n : Nat} (h : n < 10) : strOfNums [wrap64 (48 + (n : Int)) % 256] = decS n := by
  apply L_inj
  rw [L_decS, Dg_small h, w64 (by omega) (by omega), Int.emod_eq_of_lt (by omega) (by omega), L_strOfNums]
  intro c hc
  rw [List.mem_singleton] at hc
  omega
/-! ## padded -/
/-- The text of so many digits with a number. -/
def TS (k n : Nat) : ByteArray := strOfNums (TD k n)
theorem TD_byte (k n : Nat) : ∀ c ∈ TD k n, 0 ≤ c ∧ c ≤ 255 := by
  intro c hc
  have := isD_t.1 (List.all_eq_true.1 (TD_dig k n) c hc)
  omega
theorem L_TS (k n : Nat) : L (TS k n) = TD k n := L_strOfNums _ (TD_byte k n)
theorem TS_size (k n : Nat) : (TS k n).size = k := by rw [size_L, L_TS, TD_len]
theorem L_rep (r : Nat) : L (⟨(Go.Lib.repeatL [48] r).toArray⟩ : ByteArray) = List.replicate r 48 := by
  unfold L
  show (Go.Lib.repeatL [48] r).map _ = _
  induction r with
  | zero => rfl
  | succ r ih => rw [Go.Lib.repeatL, List.map_append, ih, List.replicate_succ]; rfl
theorem Repeat_f (r : Nat) (h : r ≤ 1000) : strings_Repeat.f (⟨#[48]⟩ : ByteArray) (r : Int) = some ⟨(Go.Lib.repeatL [48] r).toArray⟩ := by
  unfold strings_Repeat.f
  rw [if_pos ⟨by omega, by omega, by decide⟩, Int.toNat_natCast]
theorem Itoa_f (n : Nat) (h : n ≤ 9223372036854775807) : strconv_Itoa.f (n : Int) = some (decS n) := by
  unfold strconv_Itoa.f
  rw [if_pos ⟨by omega, by omega⟩]
  exact congrArg some (L_inj (by rw [L_itoa, L_decS]))
theorem padded_f (k n : Nat) (hk : k ≤ 17) (h : n < 10 ^ (k + 1)) : impl_padded.f (n : Int) ((k + 1 : Nat) : Int) = some (TS (k + 1) n) := by
  obtain ⟨h1, h2⟩ := TD_Dg k n h
  have hb : n ≤ 9223372036854775807 := by
    have : (10 : Nat) ^ (k + 1) ≤ 10 ^ 18 := Nat.pow_le_pow_right (by omega) (by omega)
    omega
  unfold impl_padded.f
  rw [Itoa_f n hb, Option.bind_some, size_decS]
  have e : mx 0 (wrap64 (((k + 1 : Nat) : Int) - ((Dg n).length : Int))) = ((k + 1 - (Dg n).length : Nat) : Int) := by
    rw [w64 (by omega) (by omega)]; unfold mx; split <;> omega
  rw [e, Repeat_f _ (by omega), Option.bind_some]
  have hz : (⟨(Go.Lib.repeatL [48] (k + 1 - (Dg n).length)).toArray⟩ : ByteArray).size = k + 1 - (Dg n).length := by rw [size_L, L_rep, List.length_replicate]
  rw [if_pos (by rw [hz]; omega)]
  congr 1
  apply L_inj
  rw [L_append, L_rep, L_decS, L_TS, h2]
/-! ## turned -/
theorem L_bytesOf (s : ByteArray) : bytesOf s = L s := rfl
theorem L_revB (s : ByteArray) : L (revB s) = (L s).reverse := by
  unfold revB
  rw [L_strOfNums, L_bytesOf]
  intro c hc
  rw [List.mem_reverse, L_bytesOf] at hc
  exact L_mem hc
theorem size_revB (s : ByteArray) : (revB s).size = s.size := by rw [size_L, L_revB, List.length_reverse, L_length]
theorem turned_f (s : ByteArray) (h : s.size ≤ 1000) : impl_turned.f s = some (revB s) := if_pos h
/-! ## miTurn -/
theorem miTurn_l0 (s : ByteArray) (hs : s.size ≤ 1000) : ∀ (n : Nat) (acc t : ByteArray), n ≤ s.size → acc.size ≤ 1000000 - n → L t = L acc ++ ((L s).take n).reverse →
    Ev (fun k => spec_miTurn.l0 k s acc ((n : Int) - 1)) t
  | 0, acc, t, _, _, h => by
    refine Ev.step (fun _ => spec_miTurn.l0.eq_2 ..) (Ev.neg (by omega) (Ev.eq ?_ (Ev.now _)))
    rw [List.take_zero, List.reverse_nil, List.append_nil] at h
    exact L_inj h
  | n + 1, acc, t, hn, ha, h => by
    have e1 : ((n + 1 : Nat) : Int) - 1 = (n : Int) := by omega
    refine Ev.step (fun _ => spec_miTurn.l0.eq_2 ..) ?_
    rw [e1, wsucc (m := s.size) (by omega) (by omega), Int.toNat_natCast, Int.toNat_natCast, w64 (x := (n : Int) - 1) (by omega) (by omega)]
    refine Ev.pos (by omega) (Ev.pos (by omega) (Ev.pos (by omega) (Ev.pos (by omega) (Ev.pos ?_ ?_))))
    · rw [size_ext]; omega
    · refine miTurn_l0 s hs n _ t (by omega) ?_ ?_
      · rw [size_app, size_ext]; omega
      · have hl : n < (L s).length := by rw [L_length]; omega
        rw [h, L_append, L_extract, List.take_succ_eq_append_getElem hl, List.reverse_append]
        rw [List.drop_append_of_le_length (by rw [List.length_take]; omega), List.drop_of_length_le (by rw [List.length_take]; omega)]
        simp
theorem miTurn_f (s : ByteArray) (hs : s.size ≤ 1000) : Ev (fun k => spec_miTurn.f k s) (revB s) := by
  have h := miTurn_l0 s hs s.size ⟨#[]⟩ (revB s) (Nat.le_refl _) (Nat.zero_le _) (by rw [L_revB, L_nil, List.nil_append, List.take_of_length_le (by rw [L_length]; omega)])
  show Ev (fun k => spec_miTurn.l0 k s ⟨#[]⟩ (wrap64 ((s.size : Int) - 1))) _
  rw [w64 (by omega) (by omega)]
  exact h
/-! ## mirror -/
/-- The mirrored reading of d digits with a first half. -/
def mirS (d n : Nat) : ByteArray := TS ((d + 1) / 2) n ++ revB ((TS ((d + 1) / 2) n).extract 0 (d / 2))
theorem half_w (d : Nat) (h : d ≤ 100) : wrap64 (Int.tdiv (wrap64 ((d : Int) + 1)) 2) = (((d + 1) / 2 : Nat) : Int) := by
  rw [wsucc (m := d + 1) (by omega) (by omega), show Int.tdiv ((d + 1 : Nat) : Int) 2 = (((d + 1) / 2 : Nat) : Int) from rfl, w64n (by omega)]
theorem half_d (d : Nat) (h : d ≤ 100) : wrap64 (Int.tdiv (d : Int) 2) = ((d / 2 : Nat) : Int) := by
  rw [show Int.tdiv (d : Int) 2 = ((d / 2 : Nat) : Int) from rfl, w64n (by omega)]
theorem ext_size {s : ByteArray} {b : Nat} (h : b ≤ s.size) : (s.extract 0 b).size = b := by rw [size_ext]; omega
/-- A first half, and what stands across from it. -/
def mirT (d : Nat) (t : ByteArray) : ByteArray := t ++ revB (t.extract 0 (d / 2))
theorem miMirrored_t (d : Nat) (t : ByteArray) (hd : d ≤ 18) (ht : t.size = (d + 1) / 2) : Ev (fun k => spec_miMirrored.f k (d : Int) t) (mirT d t) := by
  unfold spec_miMirrored.f
  rw [half_d d (by omega), Int.toNat_natCast, ht]
  have hz : (t.extract 0 (d / 2)).size = d / 2 := ext_size (by omega)
  refine Ev.pos (by omega) (Ev.pos (by omega) (Ev.bind (miTurn_f _ (by omega)) (Ev.pos ?_ (Ev.now _))))
  rw [size_revB, hz]; omega
theorem miMirrored_f (d n : Nat) (hd : d ≤ 18) : Ev (fun k => spec_miMirrored.f k (d : Int) (TS ((d + 1) / 2) n)) (mirS d n) := miMirrored_t d _ hd (TS_size _ _)
theorem mirS_size (d n : Nat) : (mirS d n).size = d := by
  have hz : ((TS ((d + 1) / 2) n).extract 0 (d / 2)).size = d / 2 := ext_size (by rw [TS_size]; omega)
  unfold mirS
  rw [size_app, size_revB, hz, TS_size]; omega
theorem mirS_dig (d n : Nat) : (L (mirS d n)).all isD = true := by
  unfold mirS
  rw [L_append, L_revB, L_extract, L_TS, List.drop_zero, List.all_append, List.all_reverse, TD_dig, Bool.true_and, List.all_eq_true]
  intro c hc
  exact List.all_eq_true.1 (TD_dig _ n) c (List.mem_of_mem_take hc)
theorem mirrored_f (d n : Nat) (hd1 : 1 ≤ d) (hd : d ≤ 18) (hn : n < 10 ^ ((d + 1) / 2)) : impl_mirrored.f (d : Int) (n : Int) = some (mirS d n) := by
  unfold impl_mirrored.f
  have hp := padded_f ((d + 1) / 2 - 1) n (by omega) (by rw [show (d + 1) / 2 - 1 + 1 = (d + 1) / 2 by omega]; exact hn)
  rw [show (d + 1) / 2 - 1 + 1 = (d + 1) / 2 by omega] at hp
  have hz : ((TS ((d + 1) / 2) n).extract 0 (d / 2)).size = d / 2 := ext_size (by rw [TS_size]; omega)
  rw [half_w d (by omega), hp, Option.bind_some, half_d d (by omega), Int.toNat_natCast, TS_size, if_pos (by omega), if_pos (by omega), turned_f _ (by omega), Option.bind_some, if_pos (by rw [size_revB, hz]; omega)]
  rfl
/-! ## tdnum -/
theorem TD_numF : ∀ (k : Nat) (l : List Int), l.length = k → l.all isD = true → TD k (numF 0 l).toNat = l
  | 0, l, h, _ => by
    obtain rfl : l = [] := List.length_eq_zero_iff.1 h
    rfl
  | k + 1, l, h, hd => by
    obtain ⟨l', c, rfl⟩ : ∃ l' c, l = l' ++ [c] := ⟨l.dropLast, l.getLast (by intro e; simp [e] at h), (List.dropLast_concat_getLast _).symm⟩
    rw [List.all_append, Bool.and_eq_true] at hd
    have hc : isD c = true := by simpa using hd.2
    have hc' := isD_t.1 hc
    have hb := (numF_bd l' 0 hd.1 (by omega)).1
    have ih := TD_numF k l' (by simpa using h) hd.1
    have e : numF 0 (l' ++ [c]) = 10 * numF 0 l' + (c - 48) := by rw [numF_app]; rfl
    rw [Int.zero_mul] at hb
    rw [e, TD, show (10 * numF 0 l' + (c - 48)).toNat / 10 = (numF 0 l').toNat by omega, ih, show ((((10 * numF 0 l' + (c - 48)).toNat % 10 : Nat) : Int)) = c - 48 by omega]
    congr 2
    omega
theorem num_lt {l : List Int} (hd : l.all isD = true) : 0 ≤ numF 0 l ∧ (numF 0 l).toNat < 10 ^ l.length ∧ numF 0 l < p10 l.length := by
  obtain ⟨h1, h2⟩ := numF_bd l 0 hd (by omega)
  rw [Int.zero_mul] at h1
  rw [show ((0 : Int) + 1) * p10 l.length = p10 l.length by rw [Int.zero_add, Int.one_mul]] at h2
  refine ⟨h1, ?_, h2⟩
  rw [p10_nat] at h2
  omega
/-! ## room18 -/
theorem room18 {n : Nat} (h : n ≤ 18) : ((0 : Int) + 1) * p10 n ≤ 1000000000000000000 := by
  rw [Int.zero_add, Int.one_mul]; exact p10_mono (m := 18) h
/-! ## tkNumber -/
theorem tkNumber_l0 (s : ByteArray) (hs : s.size ≤ 18) : ∀ (l : List Int) (n : Nat) (a : Int), (L s).drop n = l → l.all isD = true → 0 ≤ a → (a + 1) * p10 l.length ≤ 1000000000000000000 →
    Ev (fun k => spec_tkNumber.l0 k s a (n : Int)) (numF a l) := by
  intro l
  induction l with
  | nil =>
    intro n a h _ _ _
    have h1 := sdrop_nil h
    exact Ev.step (fun _ => spec_tkNumber.l0.eq_2 ..) (Ev.neg (by omega) (Ev.now _))
  | cons c t ih =>
    intro n a h hl ha hb
    obtain ⟨h1, h2, h3⟩ := sdrop_cons h
    rw [List.all_cons, Bool.and_eq_true] at hl
    have hc := isD_t.1 hl.1
    obtain ⟨g1, g2, g3⟩ := num_step ha hc hb
    refine Ev.step (fun _ => spec_tkNumber.l0.eq_2 ..) (Ev.pos (by omega) (Ev.pos (by omega) ?_))
    rw [h2, dig_mod hl.1, wsucc h1 (by omega), w64 (x := a * 10) (by omega) (by omega), Int.mul_comm a 10, w64 (x := 10 * a + (c - 48)) (by omega) (by omega)]
    exact ih (n + 1) _ h3 hl.2 g1 g2
theorem tkNumber_f (s : ByteArray) (hd : (L s).all isD = true) (hs : s.size ≤ 18) : Ev (fun k => spec_tkNumber.f k s) (numF 0 (L s)) :=
  tkNumber_l0 s hs (L s) 0 0 rfl hd (by omega) (room18 (by rw [L_length]; exact hs))
/-! ## numberOf -/
theorem numberOf_l0 (s : ByteArray) (hs : s.size ≤ 18) : ∀ (l : List Int) (n : Nat) (a : Int), (L s).drop n = l → l.all isD = true → 0 ≤ a → (a + 1) * p10 l.length ≤ 1000000000000000000 →
    Ev (fun k => impl_numberOf.l0 k s a (s.size : Int) (n : Int)) (numF a l) := by
  intro l
  induction l with
  | nil =>
    intro n a h _ _ _
    have h1 := sdrop_nil h
    exact Ev.step (fun _ => impl_numberOf.l0.eq_2 ..) (Ev.neg (by omega) (Ev.now _))
  | cons c t ih =>
    intro n a h hl ha hb
    obtain ⟨h1, h2, h3⟩ := sdrop_cons h
    rw [List.all_cons, Bool.and_eq_true] at hl
    have hc := isD_t.1 hl.1
    obtain ⟨g1, g2, g3⟩ := num_step ha hc hb
    refine Ev.step (fun _ => impl_numberOf.l0.eq_2 ..) (Ev.pos (by omega) (Ev.pos (by omega) (Ev.pos (by omega) ?_)))
    rw [h2, dig_mod hl.1, wsucc h1 (by omega), w64 (x := 10 * a) (by omega) (by omega), w64 (x := 10 * a + (c - 48)) (by omega) (by omega)]
    exact ih (n + 1) _ h3 hl.2 g1 g2
theorem numberOf_f (s : ByteArray) (hd : (L s).all isD = true) (hs : s.size ≤ 18) : Ev (fun k => impl_numberOf.f k s) (numF 0 (L s)) :=
  numberOf_l0 s hs (L s) 0 0 rfl hd (by omega) (room18 (by rw [L_length]; exact hs))
/-! ## l1In -/
theorem l1In_f (a b c : Int) : spec_l1In.f a b c = some (decide (b ≤ a) && decide (a ≤ c)) := by
  unfold spec_l1In.f; by_cases h : b ≤ a <;> simp [h]
/-! ## miGood -/
theorem miGood_l0 (s : ByteArray) (hs : s.size ≤ 140737488351232) : ∀ (l : List Int) (n : Nat), (L s).drop n = l →
    Ev (fun k => spec_miGood.l0 k s (n : Int)) (l.all isD) := by
  intro l
  induction l with
  | nil =>
    intro n h
    have h1 := sdrop_nil h
    exact Ev.step (spec_miGood.l0.eq_2 s (n : Int)) (Ev.neg (by omega) (Ev.now _))
  | cons c t ih =>
    intro n h
    obtain ⟨h1, h2, h3⟩ := sdrop_cons h
    refine Ev.step (spec_miGood.l0.eq_2 s (n : Int)) (Ev.pos (by omega) (Ev.pos (by omega) ?_))
    rw [h2, wsucc h1 (by omega)]
    by_cases hc : isD c = true
    · have hc' := isD_t.1 hc
      refine Ev.neg (by omega) (Ev.neg (by omega) (Ev.eq ?_ (ih (n + 1) h3)))
      simp [hc]
    · have hc' := isD_f.1 (by simpa using hc)
      by_cases h48 : c < 48
      · exact Ev.pos h48 (Ev.eq (by simp [hc]) (Ev.now _))
      · exact Ev.neg h48 (Ev.pos (by omega) (Ev.eq (by simp [hc]) (Ev.now _)))
theorem miGood_f (s : ByteArray) (hs : s.size ≤ 140737488351232) :
    Ev (fun k => spec_miGood.f k s) ((L s).all isD && (decide ((1 : Int) ≤ s.size) && decide ((s.size : Int) ≤ 9))) := by
  refine Ev.sm (l1In_f _ _ _) ?_
  by_cases h : (decide ((1 : Int) ≤ s.size) && decide ((s.size : Int) ≤ 9)) = true
  · exact Ev.pos h (Ev.eq (by rw [h, Bool.and_true]) (miGood_l0 s hs (L s) 0 rfl))
  · exact Ev.neg h (Ev.eq (by rw [Bool.not_eq_true] at h; rw [h, Bool.and_false]) (Ev.now _))
/-! ## within -/
theorem within_f (a b c : Int) : impl_within.f a b c = some (decide (b ≤ a) && decide (a ≤ c)) := by
  unfold impl_within.f; by_cases h : b ≤ a <;> simp [h]
/-! ## areDigits -/
theorem areDigits_l0 (s : ByteArray) (lo hi : Int) (hs : s.size ≤ 140737488351232) : ∀ (l : List Int) (n : Nat), (L s).drop n = l →
    Ev (fun k => impl_areDigits.l0 k s lo hi (s.size : Int) (n : Int)) (l.all isD && (decide (lo ≤ s.size) && decide ((s.size : Int) ≤ hi))) := by
  intro l
  induction l with
  | nil =>
    intro n h
    have h1 := sdrop_nil h
    refine Ev.step (impl_areDigits.l0.eq_2 s lo hi (s.size : Int) (n : Int)) ?_
    refine Ev.neg (by omega) (Ev.sm (within_f _ _ _) (Ev.eq ?_ (Ev.now _)))
    simp
  | cons c t ih =>
    intro n h
    obtain ⟨h1, h2, h3⟩ := sdrop_cons h
    refine Ev.step (impl_areDigits.l0.eq_2 s lo hi (s.size : Int) (n : Int)) (Ev.pos (by omega) (Ev.pos (by omega) (Ev.pos (by omega) ?_)))
    rw [h2, wsucc h1 (by omega)]
    by_cases hc : isD c = true
    · have hc' := isD_t.1 hc
      refine Ev.neg (by omega) (Ev.neg (by omega) (Ev.eq ?_ (ih (n + 1) h3)))
      simp [hc]
    · have hc' := isD_f.1 (by simpa using hc)
      by_cases h48 : c < 48
      · exact Ev.pos h48 (Ev.eq (by simp [hc]) (Ev.now _))
      · exact Ev.neg h48 (Ev.pos (by omega) (Ev.eq (by simp [hc]) (Ev.now _)))
theorem areDigits_f (s : ByteArray) (lo hi : Int) (hs : s.size ≤ 140737488351232) :
    Ev (fun k => impl_areDigits.f k s lo hi) ((L s).all isD && (decide (lo ≤ s.size) && decide ((s.size : Int) ≤ hi))) :=
  areDigits_l0 s lo hi hs (L s) 0 rfl
/-! ## reading -/
/-- Is a text a reading. -/
def good (s : ByteArray) : Bool := (L s).all isD && (decide ((1 : Int) ≤ s.size) && decide ((s.size : Int) ≤ 9))
theorem good_t {s : ByteArray} (h : good s = true) : (L s).all isD = true ∧ 1 ≤ s.size ∧ s.size ≤ 9 := by
  unfold good at h
  rw [Bool.and_eq_true, Bool.and_eq_true, decide_eq_true_eq, decide_eq_true_eq] at h
  exact ⟨h.1, by omega, by omega⟩
/-! ## bit -/
theorem bit_f (b : Bool) : impl_bit.f b = some (if b = true then 1 else 0) := by unfold impl_bit.f; split <;> rfl
/-! ## FnExactRankOfMirrored -/
def halfT (s : ByteArray) : ByteArray := s.extract 0 ((s.size + 1) / 2)
def rmAns (s : ByteArray) : Int × Bool := if good s = true then (numF 0 (L (halfT s)) + (if Op.bytesLess (mirT s.size (halfT s)).toList s.toList = true then 1 else 0), true) else (0, false)
theorem half_facts {s : ByteArray} (h : good s = true) : (halfT s).size = (s.size + 1) / 2 ∧ (L (halfT s)).all isD = true := by
  obtain ⟨hd, h1, h9⟩ := good_t h
  unfold halfT
  refine ⟨ext_size (by omega), ?_⟩
  rw [L_extract, List.drop_zero, List.all_eq_true]
  intro c hc
  exact List.all_eq_true.1 hd c (List.mem_of_mem_take hc)
theorem specRM_f (s : ByteArray) (hs : s.size ≤ 140737488351232) : Ev (fun k => spec_RankOfMirrored.f k s) (rmAns s) := by
  refine Ev.bind (show Ev (fun k => spec_miGood.f k s) (good s) from miGood_f s hs) ?_
  unfold rmAns
  by_cases h : good s = true
  · obtain ⟨hd, h1, h9⟩ := good_t h
    obtain ⟨hz, hdd⟩ := half_facts h
    obtain ⟨g1, _, g2⟩ := num_lt hdd
    have hq := p10_9 (n := (L (halfT s)).length) (by rw [L_length]; omega)
    refine Ev.eq (if_pos h) (Ev.pos h ?_)
    rw [half_w s.size (by omega), Int.toNat_natCast]
    refine Ev.pos (by omega) (Ev.pos (by omega) (Ev.bind (tkNumber_f (halfT s) hdd (by omega)) (Ev.bind (miMirrored_t s.size (halfT s) (by omega) hz) ?_)))
    by_cases hb : Op.bytesLess (mirT s.size (halfT s)).toList s.toList = true
    · refine Ev.pos hb ?_
      rw [if_pos hb, w64 (by omega) (by omega)]
      exact Ev.now _
    · refine Ev.neg hb ?_
      rw [if_neg hb, Int.add_zero]
      exact Ev.now _
  · exact Ev.eq (if_neg h) (Ev.neg h (Ev.now _))
theorem implRM_f (s : ByteArray) (hs : s.size ≤ 140737488351232) : Ev (fun k => impl_RankOfMirrored.f k s) (rmAns s) := by
  refine Ev.bind (show Ev (fun k => impl_IsReading.f k s) (good s) from Ev.bind (areDigits_f s 1 9 hs) (Ev.now _)) ?_
  unfold rmAns
  by_cases h : good s = true
  · obtain ⟨hd, h1, h9⟩ := good_t h
    obtain ⟨hz, hdd⟩ := half_facts h
    obtain ⟨g1, g3, g2⟩ := num_lt hdd
    have hq := p10_9 (n := (L (halfT s)).length) (by rw [L_length]; omega)
    have hts : TS ((s.size + 1) / 2) (numF 0 (L (halfT s))).toNat = halfT s := by
      apply L_inj
      rw [L_TS, TD_numF _ _ (by rw [L_length]; exact hz) hdd]
    have hm := mirrored_f s.size (numF 0 (L (halfT s))).toNat (by omega) (by omega) (by rw [L_length, hz] at g3; exact g3)
    rw [Int.toNat_of_nonneg g1] at hm
    have hms : mirS s.size (numF 0 (L (halfT s))).toNat = mirT s.size (halfT s) := by unfold mirS mirT; rw [hts]
    rw [hms] at hm
    refine Ev.eq (if_pos h) (Ev.pos h ?_)
    rw [half_w s.size (by omega), Int.toNat_natCast]
    refine Ev.pos (by omega) (Ev.pos (by omega) (Ev.bind (numberOf_f (halfT s) hdd (by omega)) (Ev.sm hm (Ev.sm (bit_f _) (Ev.eq ?_ (Ev.now _))))))
    rw [w64]
    · split <;> omega
    · split <;> omega
  · exact Ev.eq (if_neg h) (Ev.neg h (Ev.now _))
theorem FnExactRankOfMirrored : laws_FnExactRankOfMirrored.Pure := by
  intro s hs
  refine Ev.rounds (g := fun k => laws_FnExactRankOfMirrored.f k s) ?_
  unfold laws_FnExactRankOfMirrored.f
  by_cases b1 : (s.size : Int) > 1048576
  · exact Ev.pos b1 (Ev.now _)
  · exact Ev.neg b1 (Ev.bind (specRM_f s hs) (Ev.bind (implRM_f s hs) (Ev.pos rfl (Ev.neg (by simp) (Ev.now _)))))

end Go.Proofs.YthkjedplcebpjagDoor.Pure
