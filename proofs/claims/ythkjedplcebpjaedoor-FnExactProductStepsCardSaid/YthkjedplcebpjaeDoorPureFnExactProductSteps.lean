/- The plain law of FnExactProductSteps: at all arguments the printed function of the law answers true after some number of rounds. Conditions: none beyond the bounds that the printed statement itself bears. -/
import Derived.Test.YthkjedplcebpjaeDoorQFnExactProductStepsx1
namespace Go.Proofs.YthkjedplcebpjaeDoor.Pure
open Go.RowKit Go.Proofs.YthkjedplcebpjaeDoor.QFnExactProductSteps Go.Proofs.YthkjedplcebpjaeDoorW.PrintWords Go.Proofs.YthkjedplcebpjaeDoorW.PrintLast Go.Proofs.YthkjedplcebpjaeDoorW.PrintMore Go.Proofs.YthkjedplcebpjaeDoor.Ext
set_option linter.unusedVariables false

def laws_FnExactProductSteps.Pure : Prop := ∀ (a0 : Int), (Lit.int .i64 a0).wf = true → ∃ k, laws_FnExactProductSteps.f k a0 = some true
/-! ## base -/
/-! numbers in 64 bits -/
theorem w64 {x : Int} (h1 : -9223372036854775808 ≤ x) (h2 : x ≤ 9223372036854775807) : wrap64 x = x := by unfold wrap64; omega
theorem w64n {x : Nat} (h2 : x ≤ 9223372036854775807) : wrap64 (x : Int) = (x : Int) := w64 (by omega) (by omega)
theorem wf64 {x : Int} (h : (Lit.int .i64 x).wf = true) : -9223372036854775808 ≤ x ∧ x ≤ 9223372036854775807 := by
  have hmin : IntKind.i64.min = -9223372036854775808 := rfl
  have hmax : IntKind.i64.max = 9223372036854775807 := rfl
  simp only [Lit.wf, Bool.and_eq_true, decide_eq_true_eq, hmin, hmax] at h
  exact h
theorem tmodN (a b : Nat) : Int.tmod (a : Int) (b : Int) = ((a % b : Nat) : Int) := rfl
theorem tdivN (a b : Nat) : Int.tdiv (a : Int) (b : Int) = ((a / b : Nat) : Int) := rfl
theorem tmod_nn {a b : Int} (h : 0 ≤ a) : Int.tmod a b = a % b := Int.tmod_eq_emod_of_nonneg h
theorem tdiv_nn {a b : Int} (h : 0 ≤ a) : Int.tdiv a b = a / b := Int.tdiv_eq_ediv_of_nonneg h
/-! from some number of rounds on -/
theorem Ev.pos {α : Type} {c : Prop} [Decidable c] {f g : Nat → Option α} {r : α} (h : c) (e : Ev f r) : Ev (fun k => if c then f k else g k) r := by simpa only [if_pos h] using e
theorem Ev.neg {α : Type} {c : Prop} [Decidable c] {f g : Nat → Option α} {r : α} (h : ¬ c) (e : Ev g r) : Ev (fun k => if c then f k else g k) r := by simpa only [if_neg h] using e
theorem Ev.sm {α β : Type} {f : Nat → α → Option β} {a : α} {o : Option α} {r : β} (h : o = some a) (e : Ev (fun n => f n a) r) : Ev (fun n => o.bind (f n)) r := by subst h; simpa only [Option.bind_some] using e
theorem Ev.eq {α : Type} {f : Nat → Option α} {r r' : α} (h : r' = r) (e : Ev f r) : Ev f r' := h ▸ e
theorem Ev.of_some {α : Type} {o : Option α} {r : α} (h : o = some r) : Ev (fun _ => o) r := ⟨0, fun _ _ => h⟩
theorem Ev.uniq {α : Type} {g : Nat → Option α} {r q : α} (h : Ev g r) (h' : Ev g q) : r = q := by
  obtain ⟨K, h⟩ := h
  obtain ⟨K', h'⟩ := h'
  have := (h (max K K') (by omega)).symm.trans (h' (max K K') (by omega))
  exact Option.some.inj this
/-! a string as a list of numbers -/
def L (s : ByteArray) : List Int := s.data.toList.map (fun c => (c.toNat : Int))
theorem L_length (s : ByteArray) : (L s).length = s.size := by simp [L]
theorem bt_lo (s : ByteArray) (i : Int) : 0 ≤ bt s i := by unfold bt; split <;> omega
theorem bt_hi (s : ByteArray) (i : Int) : bt s i ≤ 255 := by
  unfold bt; split
  · have := UInt8.toNat_lt (s[i.toNat]); omega
  · omega
theorem bt_L (s : ByteArray) (n : Nat) : bt s (n : Int) = (L s).getD n 0 := by
  unfold bt L
  by_cases h : n < s.size
  · simp [h, List.getD_eq_getElem?_getD]; rfl
  · simp [h, List.getD_eq_getElem?_getD]
theorem L_get (s : ByteArray) (n : Nat) (h : n < s.size) : (L s)[n]? = some (bt s n) := by
  rw [bt_L, List.getD_eq_getElem?_getD]
  have : n < (L s).length := by rw [L_length]; exact h
  simp [this]
theorem L_mem {s : ByteArray} {c : Int} (h : c ∈ L s) : 0 ≤ c ∧ c ≤ 255 := by
  unfold L at h
  obtain ⟨u, _, rfl⟩ := List.mem_map.1 h
  have := UInt8.toNat_lt u
  omega
theorem map_toNat_inj : ∀ (l m : List UInt8), l.map (fun c => (c.toNat : Int)) = m.map (fun c => (c.toNat : Int)) → l = m
  | [], [], _ => rfl
  | [], _ :: _, h => by simp at h
  | _ :: _, [], h => by simp at h
  | a :: l, b :: m, h => by
    simp only [List.map_cons, List.cons.injEq] at h
    have h1 : a = b := by apply UInt8.toNat_inj.1; omega
    rw [h1, map_toNat_inj l m h.2]
theorem L_inj {s t : ByteArray} (h : L s = L t) : s = t := by
  have := map_toNat_inj _ _ h
  cases s; cases t
  congr 1
  exact Array.toList_inj.1 this
theorem toList_L {s t : ByteArray} : s.data.toList = t.data.toList ↔ L s = L t := by
  constructor
  · intro h; unfold L; rw [h]
  · intro h; exact map_toNat_inj _ _ h
theorem L_append (s t : ByteArray) : L (s ++ t) = L s ++ L t := by
  unfold L
  rw [ByteArray.data_append]
  simp
/-- The rest of a list from a place on. -/
theorem drop_cons {α : Type} {l : List α} {n : Nat} {c : α} {t : List α} (h : l.drop n = c :: t) : n < l.length ∧ l[n]? = some c ∧ l.drop (n + 1) = t := by
  have h1 : n < l.length := by
    by_cases h1 : n < l.length
    · exact h1
    · rw [List.drop_eq_nil_of_le (by omega)] at h; cases h
  rw [List.drop_eq_getElem_cons h1] at h
  simp only [List.cons.injEq] at h
  exact ⟨h1, by rw [List.getElem?_eq_getElem h1, h.1], h.2⟩
theorem drop_nil {α : Type} {l : List α} {n : Nat} (h : l.drop n = []) : l.length ≤ n := by simpa using h
theorem sdrop_cons {s : ByteArray} {n : Nat} {c : Int} {t : List Int} (h : (L s).drop n = c :: t) : n < s.size ∧ bt s n = c ∧ (L s).drop (n + 1) = t := by
  obtain ⟨h1, h2, h3⟩ := drop_cons h
  rw [L_length] at h1
  rw [L_get s n h1] at h2
  exact ⟨h1, Option.some.inj h2, h3⟩
theorem sdrop_nil {s : ByteArray} {n : Nat} (h : (L s).drop n = []) : s.size ≤ n := by have := drop_nil h; rwa [L_length] at this
theorem wsucc {n m : Nat} (h : n < m) (hm : m ≤ 140737488355328) : wrap64 ((n : Int) + 1) = ((n + 1 : Nat) : Int) := by rw [w64 (by omega) (by omega)]; rfl
/-! digits -/
def isD (c : Int) : Bool := decide (48 ≤ c) && decide (c ≤ 57)
theorem isD_t {c : Int} : isD c = true ↔ 48 ≤ c ∧ c ≤ 57 := by simp [isD]
theorem isD_f {c : Int} : isD c = false ↔ c < 48 ∨ 57 < c := by
  rw [← Bool.not_eq_true, isD_t]; omega
theorem dig_mod {c : Int} (h : isD c = true) : (c - 48) % 256 = c - 48 := by rw [isD_t] at h; omega
/-! ## num -/
/-- Ten to a power. -/
def p10 (n : Nat) : Int := 10 ^ n
theorem p10_succ (n : Nat) : p10 (n + 1) = 10 * p10 n := by unfold p10; rw [Int.pow_succ, Int.mul_comm]
theorem p10_pos (n : Nat) : 1 ≤ p10 n := by
  induction n with
  | zero => decide
  | succ n ih => rw [p10_succ]; omega
theorem p10_mono {n m : Nat} (h : n ≤ m) : p10 n ≤ p10 m := by
  obtain ⟨d, rfl⟩ : ∃ d, m = n + d := ⟨m - n, by omega⟩
  clear h
  induction d with
  | zero => exact Int.le_refl _
  | succ d ih => rw [← Nat.add_assoc, p10_succ]; have := p10_pos (n + d); omega
theorem p10_9 {n : Nat} (h : n ≤ 9) : p10 n ≤ 1000000000 := p10_mono h
/-- The number that digits tell, behind what stands before them. -/
def numF (a : Int) (l : List Int) : Int := l.foldl (fun n c => 10 * n + (c - 48)) a
theorem numF_cons (a c : Int) (l : List Int) : numF a (c :: l) = numF (10 * a + (c - 48)) l := rfl
theorem numF_bd : ∀ (l : List Int) (a : Int), l.all isD = true → 0 ≤ a → a * p10 l.length ≤ numF a l ∧ numF a l < (a + 1) * p10 l.length
  | [], a, _, h => by simp [numF, p10]; omega
  | c :: l, a, hl, h => by
    rw [List.all_cons, Bool.and_eq_true] at hl
    have hc := isD_t.1 hl.1
    have ih := numF_bd l (10 * a + (c - 48)) hl.2 (by omega)
    have hp := p10_pos l.length
    rw [numF_cons, List.length_cons, p10_succ]
    have e1 : a * (10 * p10 l.length) ≤ (10 * a + (c - 48)) * p10 l.length := by
      rw [← Int.mul_assoc]; exact Int.mul_le_mul_of_nonneg_right (by omega) (by omega)
    have e2 : (10 * a + (c - 48) + 1) * p10 l.length ≤ (a + 1) * (10 * p10 l.length) := by
      rw [← Int.mul_assoc]; exact Int.mul_le_mul_of_nonneg_right (by omega) (by omega)
    omega
/-- A number with room for so many digits behind it. -/
theorem num_step {a c : Int} {n : Nat} (ha : 0 ≤ a) (hc : 48 ≤ c ∧ c ≤ 57) (h : (a + 1) * p10 (n + 1) ≤ 1000000000000000000) : 0 ≤ 10 * a + (c - 48) ∧ (10 * a + (c - 48) + 1) * p10 n ≤ 1000000000000000000 ∧ 10 * a + (c - 48) ≤ 1000000000000000000 := by
  have hp := p10_pos n
  rw [p10_succ, ← Int.mul_assoc] at h
  have e2 : (10 * a + (c - 48) + 1) * p10 n ≤ (a + 1) * 10 * p10 n := Int.mul_le_mul_of_nonneg_right (by omega) (by omega)
  have e3 : (10 * a + (c - 48) + 1) * 1 ≤ (10 * a + (c - 48) + 1) * p10 n := Int.mul_le_mul_of_nonneg_left hp (by omega)
  omega
/-! ## str -/
theorem tl_eq {s t : ByteArray} : s.toList = t.toList ↔ s = t := by
  rw [ByteArray.toList_eq, ByteArray.toList_eq, toList_L]
  exact ⟨L_inj, fun h => by rw [h]⟩
theorem L_extract (s : ByteArray) (a b : Nat) : L (s.extract a b) = ((L s).take b).drop a := by
  unfold L
  rw [ByteArray.data_extract]
  simp [List.map_drop, List.map_take, List.drop_take]
theorem L_nil : L (⟨#[]⟩ : ByteArray) = [] := rfl
theorem size_L (s : ByteArray) : s.size = (L s).length := (L_length s).symm
theorem size_ext (s : ByteArray) (a b : Nat) : (s.extract a b).size = min b s.size - a := by rw [size_L, L_extract, List.length_drop, List.length_take, L_length]
theorem size_app (s t : ByteArray) : (s ++ t).size = s.size + t.size := by rw [size_L, L_append, List.length_append, L_length, L_length]
/-! ## dec -/
/-- The decimal digits of a number, as bytes told as numbers. -/
def Dg (n : Nat) : List Int := (Go.Lib.decDigits n).map (fun c => (c.toNat : Int))
theorem u8n {n : Nat} (h : n < 256) : (((UInt8.ofNat n).toNat : Nat) : Int) = (n : Int) := by
  rw [UInt8.toNat_ofNat', Nat.mod_eq_of_lt (by omega)]
theorem Dg_small {n : Nat} (h : n < 10) : Dg n = [48 + (n : Int)] := by
  unfold Dg
  rw [Go.Lib.decDigits, dif_pos h, List.map_cons, List.map_nil, u8n (by omega)]
  rfl
theorem Dg_big {n : Nat} (h : 10 ≤ n) : Dg n = Dg (n / 10) ++ [48 + ((n % 10 : Nat) : Int)] := by
  unfold Dg
  conv => lhs; rw [Go.Lib.decDigits, dif_neg (by omega)]
  rw [List.map_append, List.map_cons, List.map_nil, u8n (by omega)]
  rfl
theorem L_itoa (n : Nat) : L (⟨(Go.Lib.itoa (n : Int)).toArray⟩ : ByteArray) = Dg n := by
  unfold L Dg Go.Lib.itoa
  rw [if_neg (by omega), Int.toNat_natCast]
theorem L_dec (n : Nat) : L (⟨(Go.Lib.decDigits n).toArray⟩ : ByteArray) = Dg n := rfl
theorem Dg_dig : ∀ b n : Nat, n ≤ b → (Dg n).all isD = true
  | 0, n, h => by
    rw [Dg_small (by omega)]
    simp [isD]; omega
  | b + 1, n, h => by
    by_cases hn : n < 10
    · rw [Dg_small hn]
      simp [isD]; omega
    · rw [Dg_big (by omega), List.all_append, Dg_dig b (n / 10) (by omega)]
      simp [isD]; omega
theorem Dg_isD (n : Nat) : (Dg n).all isD = true := Dg_dig n n (Nat.le_refl _)
theorem Dg_pos : ∀ n : Nat, 1 ≤ (Dg n).length := by
  intro n
  by_cases hn : n < 10
  · rw [Dg_small hn]; simp
  · rw [Dg_big (by omega)]; simp
theorem numF_app (a : Int) (l m : List Int) : numF a (l ++ m) = numF (numF a l) m := by unfold numF; rw [List.foldl_append]
theorem Dg_num : ∀ b n : Nat, n ≤ b → numF 0 (Dg n) = n
  | 0, n, h => by
    rw [Dg_small (by omega)]
    simp [numF]; omega
  | b + 1, n, h => by
    by_cases hn : n < 10
    · rw [Dg_small hn]
      simp [numF]; omega
    · rw [Dg_big (by omega), numF_app, Dg_num b (n / 10) (by omega)]
      simp [numF]; omega
theorem num_Dg (n : Nat) : numF 0 (Dg n) = n := Dg_num n n (Nat.le_refl _)
/-- The last k digits of a number, zeros in front. -/
def TD : Nat → Nat → List Int
  | 0, _ => []
  | k + 1, n => TD k (n / 10) ++ [48 + ((n % 10 : Nat) : Int)]
theorem TD_len : ∀ k n, (TD k n).length = k
  | 0, _ => rfl
  | k + 1, n => by rw [TD, List.length_append, TD_len k]; rfl
theorem TD_dig : ∀ k n, (TD k n).all isD = true
  | 0, _ => rfl
  | k + 1, n => by
    rw [TD, List.all_append, TD_dig k]
    simp [isD]; omega
theorem TD_num : ∀ k n : Nat, n < 10 ^ k → numF 0 (TD k n) = n
  | 0, n, h => by
    simp at h
    subst h
    rfl
  | k + 1, n, h => by
    rw [Nat.pow_succ] at h
    rw [TD, numF_app, TD_num k (n / 10) (by omega)]
    simp [numF]; omega
theorem TD_Dg : ∀ k n : Nat, n < 10 ^ (k + 1) → (Dg n).length ≤ k + 1 ∧ TD (k + 1) n = List.replicate (k + 1 - (Dg n).length) 48 ++ Dg n
  | 0, n, h => by
    have hn : n < 10 := by simpa using h
    rw [Dg_small hn]
    refine ⟨by simp, ?_⟩
    rw [TD, TD, Nat.mod_eq_of_lt hn]
    simp
  | k + 1, n, h => by
    rw [Nat.pow_succ] at h
    obtain ⟨h1, h2⟩ := TD_Dg k (n / 10) (by omega)
    rw [TD, h2]
    by_cases hn : n < 10
    · have h0 : n / 10 = 0 := by omega
      rw [h0, Dg_small hn, Dg_small (by omega), Nat.mod_eq_of_lt hn]
      refine ⟨by simp, ?_⟩
      simp only [List.length_singleton, Nat.add_sub_cancel]
      rw [List.replicate_succ']
      simp
    · rw [Dg_big (n := n) (by omega), List.length_append, List.length_singleton]
      refine ⟨by omega, ?_⟩
      rw [show k + 1 + 1 - ((Dg (n / 10)).length + 1) = k + 1 - (Dg (n / 10)).length by omega, List.append_assoc]
/-- Ten to a power in both kinds of numbers. -/
theorem p10_nat (k : Nat) : p10 k = ((10 ^ k : Nat) : Int) := by unfold p10; exact (Int.natCast_pow 10 k).symm
/-! ## strnum -/
theorem ofNat_toNat {c : Int} (h : 0 ≤ c ∧ c ≤ 255) : (((UInt8.ofNat c.toNat).toNat : Nat) : Int) = c := by
  rw [UInt8.toNat_ofNat', Nat.mod_eq_of_lt (by omega)]; omega
theorem L_strOfNums (l : List Int) (h : ∀ c ∈ l, 0 ≤ c ∧ c ≤ 255) : L (strOfNums l) = l := by
  unfold L strOfNums
  rw [List.map_map]
  conv => rhs; rw [← List.map_id l]
  exact List.map_congr_left (fun c hc => ofNat_toNat (h c hc))
/-! ## decs -/
/-- A number's decimal text. -/
def decS (n : Nat) : ByteArray := ⟨(Go.Lib.decDigits n).toArray⟩
theorem L_decS (n : Nat) : L (decS n) = Dg n := rfl
theorem Dg_le19 (n : Nat) (h : n ≤ 9223372036854775807) : (Dg n).length ≤ 19 := (TD_Dg 18 n (by omega)).1
theorem size_decS (n : Nat) : (decS n).size = (Dg n).length := by rw [size_L, L_decS]
theorem one_dig {n : Nat} (h : n < 10) : strOfNums [wrap64 (48 + (n : Int)) % 256] = decS n := by
  apply L_inj
  rw [L_decS, Dg_small h, w64 (by omega) (by omega), Int.emod_eq_of_lt (by omega) (by omega), L_strOfNums]
  intro c hc
  rw [List.mem_singleton] at hc
  omega
/-! ## leList -/
/-- The digits of a number. -/
def DgV (n : Nat) : List Int := (Dg n).map (fun c => c - 48)
theorem DgV_small {n : Nat} (h : n < 10) : DgV n = [(n : Int)] := by
  unfold DgV; rw [Dg_small h, List.map_cons, List.map_nil]; congr 1; omega
theorem DgV_big {n : Nat} (h : 10 ≤ n) : DgV n = DgV (n / 10) ++ [((n % 10 : Nat) : Int)] := by
  unfold DgV
  rw [Dg_big h, List.map_append, List.map_cons, List.map_nil]
  congr 2; omega
theorem DgV_len (n : Nat) : (DgV n).length = (Dg n).length := by unfold DgV; rw [List.length_map]
theorem DgV_mem {n : Nat} {x : Int} (h : x ∈ DgV n) : 0 ≤ x ∧ x ≤ 9 := by
  unfold DgV at h
  obtain ⟨c, hc, rfl⟩ := List.mem_map.1 h
  have := isD_t.1 (List.all_eq_true.1 (Dg_isD n) c hc)
  omega
theorem leList_l0 : ∀ (b n : Nat) (acc : List Int), n ≤ b → n ≤ 9223372036854775807 → acc.length + (Dg n).length ≤ 1000 →
    Ev (fun k => spec_leList.l0 k (n : Int) acc) ((if n = 0 then [] else DgV n) ++ acc)
  | 0, n, acc, h, _, _ => by
    obtain rfl : n = 0 := by omega
    exact Ev.step (fun _ => spec_leList.l0.eq_2 ..) (Ev.neg (by omega) (Ev.now _))
  | b + 1, n, acc, h, hn, ha => by
    by_cases h0 : n = 0
    · subst h0
      exact Ev.step (fun _ => spec_leList.l0.eq_2 ..) (Ev.neg (by omega) (Ev.now _))
    · have hl : (Dg n).length ≤ 1000 := by omega
      refine Ev.step (fun _ => spec_leList.l0.eq_2 ..) (Ev.pos (by omega) (Ev.sm rfl (Ev.pos (by rw [List.length_singleton]; omega) ?_)))
      rw [show Int.tmod (n : Int) 10 = ((n % 10 : Nat) : Int) from rfl, show Int.tdiv (n : Int) 10 = ((n / 10 : Nat) : Int) from rfl, w64n (x := n / 10) (by omega)]
      by_cases hs : n < 10
      · obtain ⟨b', hb'⟩ : ∃ b', n / 10 = 0 := ⟨0, by omega⟩
        rw [hb']
        refine Ev.eq ?_ (Ev.step (fun _ => spec_leList.l0.eq_2 ..) (Ev.neg (by omega) (Ev.now _)))
        rw [if_neg h0, DgV_small hs, Nat.mod_eq_of_lt hs]
      · rw [Dg_big (n := n) (by omega), List.length_append, List.length_singleton] at ha
        refine Ev.eq ?_ (leList_l0 b (n / 10) ([((n % 10 : Nat) : Int)] ++ acc) (by omega) (by omega) (by rw [List.length_append, List.length_singleton]; omega))
        rw [if_neg h0, DgV_big (n := n) (by omega), if_neg (by omega), List.append_assoc]
theorem leList_f (n : Nat) (hn : n ≤ 9223372036854775807) : Ev (fun k => spec_leList.f k (n : Int)) (DgV n) := by
  show Ev (fun k => spec_leList.l0 k (wrap64 (Int.tdiv (n : Int) 10)) [Int.tmod (n : Int) 10]) _
  rw [show Int.tmod (n : Int) 10 = ((n % 10 : Nat) : Int) from rfl, show Int.tdiv (n : Int) 10 = ((n / 10 : Nat) : Int) from rfl, w64n (x := n / 10) (by omega)]
  have hl := Dg_le19 (n / 10) (by omega)
  refine Ev.eq ?_ (leList_l0 (n / 10) (n / 10) [((n % 10 : Nat) : Int)] (Nat.le_refl _) (by omega) (by rw [List.length_singleton]; omega))
  by_cases hs : n < 10
  · rw [DgV_small hs, if_pos (by omega), List.nil_append, Nat.mod_eq_of_lt hs]
  · rw [DgV_big (n := n) (by omega), if_neg (by omega)]
/-! ## leProduct -/
/-- The product of digits, as Go reckons it. -/
def prodV (l : List Int) (p : Int) : Int := l.foldl (fun p d => wrap64 (p * d)) p
theorem leProduct_l0 (l : List Int) (hl : l.length ≤ 100000) : ∀ (t : List Int) (n : Nat) (p : Int), l.drop n = t →
    Ev (fun k => spec_leProduct.l0 k p l (l.length : Int) (n : Int)) (prodV t p)
  | [], n, p, h => by
    have hn := drop_nil h
    exact Ev.step (fun _ => spec_leProduct.l0.eq_2 ..) (Ev.neg (by omega) (Ev.now _))
  | c :: t, n, p, h => by
    obtain ⟨h1, h2, h3⟩ := drop_cons h
    have hrd : rd l (n : Int) = c := by unfold rd; rw [Int.toNat_natCast, List.getD_eq_getElem?_getD, h2]; rfl
    refine Ev.step (fun _ => spec_leProduct.l0.eq_2 ..) (Ev.pos (by omega) (Ev.pos (by omega) (Ev.pos (by omega) ?_)))
    rw [hrd, wsucc (m := l.length) h1 (by omega)]
    exact leProduct_l0 l hl t (n + 1) _ h3
theorem leProduct_f (n : Nat) (h : n ≤ 9223372036854775807) : Ev (fun k => spec_leProduct.f k (n : Int)) (prodV (DgV n) 1) :=
  Ev.bind (leList_f n h) (leProduct_l0 (DgV n) (by rw [DgV_len]; have := Dg_le19 n h; omega) _ 0 1 rfl)
theorem prod_same : ∀ (l : List Int) (p : Int), l.all isD = true → prodV (l.map (fun c => c - 48)) p = l.foldl (fun p c => wrap64 (p * ((c - 48) % 256))) p
  | [], p, _ => rfl
  | c :: t, p, h => by
    rw [List.all_cons, Bool.and_eq_true] at h
    have ih := prod_same t (wrap64 (p * (c - 48))) h.2
    unfold prodV at ih ⊢
    rw [List.map_cons, List.foldl_cons, List.foldl_cons, dig_mod h.1, ih]
theorem digitProduct_f (n : Nat) (h : n ≤ 9223372036854775807) : impl_digitProduct.f (n : Int) = some (prodV (DgV n) 1) := by
  have hL : L (itoaT (n : Int)) = Dg n := L_itoa n
  have hz : (itoaT (n : Int)).size ≤ 19 := by rw [size_L, hL]; exact Dg_le19 n h
  unfold impl_digitProduct.f
  rw [if_pos ⟨by omega, by omega, by omega⟩]
  congr 1
  show prodW (L (itoaT (n : Int))) = _
  rw [hL]
  unfold DgV
  rw [prod_same _ _ (Dg_isD n)]
  rfl
/-! ## l1In -/
theorem l1In_f (a b c : Int) : spec_l1In.f a b c = some (decide (b ≤ a) && decide (a ≤ c)) := by
  unfold spec_l1In.f; by_cases h : b ≤ a <;> simp [h]
/-! ## FnExactProductSteps -/
theorem prodV_snoc (l : List Int) (d p : Int) : prodV (l ++ [d]) p = wrap64 (prodV l p * d) := by unfold prodV; rw [List.foldl_append, List.foldl_cons, List.foldl_nil]
theorem prodV_one (d p : Int) : prodV [d] p = wrap64 (p * d) := by unfold prodV; rw [List.foldl_cons, List.foldl_nil]
theorem prodV_small (n : Nat) (hs : n < 10) : ∃ m : Nat, prodV (DgV n) 1 = (m : Int) ∧ m ≤ n ∧ (10 ≤ n → m < n) := by
  refine ⟨n, ?_, Nat.le_refl _, by omega⟩
  rw [DgV_small hs, prodV_one, Int.one_mul, w64n (by omega)]
theorem prodV_lt : ∀ b n : Nat, n ≤ b → n < 1000000000001 → ∃ m : Nat, prodV (DgV n) 1 = (m : Int) ∧ m ≤ n ∧ (10 ≤ n → m < n)
  | 0, n, h, _ => prodV_small n (by omega)
  | b + 1, n, h, hn => by
    by_cases hs : n < 10
    · exact prodV_small n hs
    · obtain ⟨m, e, h1, _⟩ := prodV_lt b (n / 10) (by omega) (by omega)
      have hm : m * (n % 10) ≤ (n / 10) * 9 := Nat.mul_le_mul h1 (by omega)
      generalize hq : m * (n % 10) = q at hm
      refine ⟨q, ?_, by omega, by omega⟩
      rw [DgV_big (by omega), prodV_snoc, e, ← Int.natCast_mul, hq, w64n (by omega)]
theorem steps_both : ∀ (b n : Nat) (t : Int), n ≤ b → n < 1000000000001 → ∃ (x s : Int), Ev (fun k => spec_ProductSteps.l0 k (n : Int) t) (s, true) ∧ Ev (fun k => untilF k (n : Int) t) (x, s)
  | 0, n, t, h, _ => ⟨n, t, Ev.step (fun _ => spec_ProductSteps.l0.eq_2 ..) (Ev.neg (by omega) (Ev.now _)), Ev.step (fun _ => untilF.eq_2 ..) (Ev.neg (by omega) (Ev.now _))⟩
  | b + 1, n, t, h, hn => by
    by_cases h9 : (n : Int) > 9
    · obtain ⟨m, e, h1, h2⟩ := prodV_lt n n (Nat.le_refl _) hn
      obtain ⟨x, s, g1, g2⟩ := steps_both b m (wrap64 (t + 1)) (by have := h2 (by omega); omega) (by omega)
      refine ⟨x, s, ?_, ?_⟩
      · refine Ev.step (fun _ => spec_ProductSteps.l0.eq_2 ..) (Ev.pos h9 (Ev.bind (leProduct_f n (by omega)) ?_))
        rw [e]; exact g1
      · refine Ev.step (fun _ => untilF.eq_2 ..) (Ev.pos h9 (Ev.sm (digitProduct_f n (by omega)) ?_))
        rw [e]; exact g2
    · exact ⟨n, t, Ev.step (fun _ => spec_ProductSteps.l0.eq_2 ..) (Ev.neg h9 (Ev.now _)), Ev.step (fun _ => untilF.eq_2 ..) (Ev.neg h9 (Ev.now _))⟩
theorem FnExactProductSteps : laws_FnExactProductSteps.Pure := by
  intro a _
  refine Ev.rounds (g := fun k => laws_FnExactProductSteps.f k a) ?_
  have hs : spec_leNumber.f a = some (decide (0 ≤ a) && decide (a ≤ 1000000000000)) := by unfold spec_leNumber.f; rw [l1In_f]; rfl
  have hi : Go.Proofs.YthkjedplcebpjaeDoor.QA1.impl_isWritten.f a = some (decide (0 ≤ a) && decide (a ≤ 1000000000000)) := by
    unfold Go.Proofs.YthkjedplcebpjaeDoor.QA1.impl_isWritten.f Go.Proofs.YthkjedplcebpjaeDoor.QA1.impl_within.f
    by_cases h : 0 ≤ a <;> simp [h]
  by_cases h : 0 ≤ a ∧ a ≤ 1000000000000
  · obtain ⟨n, rfl⟩ : ∃ n : Nat, a = n := ⟨a.toNat, by omega⟩
    obtain ⟨x, s, g1, g2⟩ := steps_both n n 0 (Nat.le_refl _) (by omega)
    refine Ev.bind (a := (s, true)) (Ev.sm hs (Ev.pos (by simp; omega) g1)) (Ev.bind (a := (s, true)) (Ev.bind (a := (x, s, true)) (Ev.sm hi (Ev.pos (by simp; omega) (Ev.bind g2 (Ev.now _)))) (Ev.now _)) (Ev.pos rfl (Ev.neg (by simp) (Ev.now _))))
  · exact Ev.bind (a := (0, false)) (Ev.sm hs (Ev.neg (by simp; omega) (Ev.now _))) (Ev.bind (a := (0, false)) (Ev.bind (a := (0, 0, false)) (Ev.sm hi (Ev.neg (by simp; omega) (Ev.now _))) (Ev.now _)) (Ev.pos rfl (Ev.neg (by decide) (Ev.now _))))

end Go.Proofs.YthkjedplcebpjaeDoor.Pure
