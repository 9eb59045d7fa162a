/- The plain law of FnExactLastOfKind: at all arguments the printed function of the law answers true after some number of rounds. Conditions: none beyond the bounds that the printed statement itself bears. -/
import Derived.Test.YthkjedplcebpjagQFnExactLastOfKindx5
namespace Go.Proofs.Ythkjedplcebpjag.Pure
open Go.RowKit Go.Proofs.Ythkjedplcebpjag.QFnExactLastOfKind Go.Proofs.YthkjedplcebpjagW.PrintWords Go.Proofs.YthkjedplcebpjagW.PrintLast Go.Proofs.Ythkjedplcebpjag.Ext Go.Proofs.Ythkjedplcebpjag.Ext Go.Proofs.Ythkjedplcebpjag.Ext Go.Proofs.Ythkjedplcebpjag.Ext Go.Proofs.Ythkjedplcebpjag.Ext
set_option linter.unusedVariables false


/-! ## base -/
/-! numbers in 64 bits -/
theorem w64 {x : Int} (h1 : -9223372036854775808 ≤ x) (h2 : x ≤ 9223372036854775807) : wrap64 x = x := by unfold wrap64; omega
theorem w64n {x : Nat} (h2 : x ≤ 9223372036854775807) : wrap64 (x : Int) = (x : Int) := w64 (by omega) (by omega)
theorem wf64 {x : Int} (h : (Lit.int .i64 x).wf = true) : -9223372036854775808 ≤ x ∧ x ≤ 9223372036854775807 := by
  have hmin : IntKind.i64.min = -9223372036854775808 := rfl
  have hmax : IntKind.i64.max = 9223372036854775807 := rfl
  simp only [Lit.wf, Bool.and_eq_true, decide_eq_true_eq, hmin, hmax] at h
  exact h
theorem tmodN (a b : Nat) : Int.tmod (a : Int) (b : Int) = ((a % b : Nat) : Int) := rfl
theorem tdivN (a b : Nat) : Int.tdiv (a : Int) (b : Int) = ((a / b : Nat) : Int) := rfl
theorem tmod_nn {a b : Int} (h : 0 ≤ a) : Int.tmod a b = a % b := Int.tmod_eq_emod_of_nonneg h
theorem tdiv_nn {a b : Int} (h : 0 ≤ a) : Int.tdiv a b = a / b := Int.tdiv_eq_ediv_of_nonneg h
/-! from some number of rounds on -/
theorem Ev.pos {α : Type} {c : Prop} [Decidable c] {f g : Nat → Option α} {r : α} (h : c) (e : Ev f r) : Ev (fun k => if c then f k else g k) r := by simpa only [if_pos h] using e
theorem Ev.neg {α : Type} {c : Prop} [Decidable c] {f g : Nat → Option α} {r : α} (h : ¬ c) (e : Ev g r) : Ev (fun k => if c then f k else g k) r := by simpa only [if_neg h] using e
theorem Ev.sm {α β : Type} {f : Nat → α → Option β} {a : α} {o : Option α} {r : β} (h : o = some a) (e : Ev (fun n => f n a) r) : Ev (fun n => o.bind (f n)) r := by subst h; simpa only [Option.bind_some] using e
theorem Ev.eq {α : Type} {f : Nat → Option α} {r r' : α} (h : r' = r) (e : Ev f r) : Ev f r' := h ▸ e
theorem Ev.of_some {α : Type} {o : Option α} {r : α} (h : o = some r) : Ev (fun _ => o) r := ⟨0, fun _ _ => h⟩
theorem Ev.uniq {α : Type} {g : Nat → Option α} {r q : α} (h : Ev g r) (h' : Ev g q) : r = q := by
  obtain ⟨K, h⟩ := h
  obtain ⟨K', h'⟩ := h'
  have := (h (max K K') (by omega)).symm.trans (h' (max K K') (by omega))
  exact Option.some.inj this
/-! a string as a list of numbers -/
def L (s : ByteArray) : List Int := s.data.toList.map (fun c => (c.toNat : Int))
theorem L_length (s : ByteArray) : (L s).length = s.size := by simp [L]
theorem bt_lo (s : ByteArray) (i : Int) : 0 ≤ bt s i := by unfold bt; split <;> omega
theorem bt_hi (s : ByteArray) (i : Int) : bt s i ≤ 255 := by
  unfold bt; split
  · have := UInt8.toNat_lt (s[i.toNat]); omega
  · omega
theorem bt_L (s : ByteArray) (n : Nat) : bt s (n : Int) = (L s).getD n 0 := by
  unfold bt L
  by_cases h : n < s.size
  · simp [h, List.getD_eq_getElem?_getD]; rfl
  · simp [h, List.getD_eq_getElem?_getD]
theorem L_get (s : ByteArray) (n : Nat) (h : n < s.size) : (L s)[n]? = some (bt s n) := by
  rw [bt_L, List.getD_eq_getElem?_getD]
  have : n < (L s).length := by rw [L_length]; exact h
  simp [this]
theorem L_mem {s : ByteArray} {c : Int} (h : c ∈ L s) : 0 ≤ c ∧ c ≤ 255 := by
  unfold L at h
  obtain ⟨u, _, rfl⟩ := List.mem_map.1 h
  have := UInt8.toNat_lt u
  omega
theorem map_toNat_inj : ∀ (l m : List UInt8), l.map (fun c => (c.toNat : Int)) = m.map (fun c => (c.toNat : Int)) → l = m
  | [], [], _ => rfl
  | [], _ :: _, h => by simp at h
  | _ :: _, [], h => by simp at h
  | a :: l, b :: m, h => by
    simp only [List.map_cons, List.cons.injEq] at h
    have h1 : a = b := by apply UInt8.toNat_inj.1; omega
    rw [h1, map_toNat_inj l m h.2]
theorem L_inj {s t : ByteArray} (h : L s = L t) : s = t := by
  have := map_toNat_inj _ _ h
  cases s; cases t
  congr 1
  exact Array.toList_inj.1 this
theorem toList_L {s t : ByteArray} : s.data.toList = t.data.toList ↔ L s = L t := by
  constructor
  · intro h; unfold L; rw [h]
  · intro h; exact map_toNat_inj _ _ h
theorem L_append (s t : ByteArray) : L (s ++ t) = L s ++ L t := by
  unfold L
  rw [ByteArray.data_append]
  simp
/-- The rest of a list from a place on. -/
theorem drop_cons {α : Type} {l : List α} {n : Nat} {c : α} {t : List α} (h : l.drop n = c :: t) : n < l.length ∧ l[n]? = some c ∧ l.drop (n + 1) = t := by
  have h1 : n < l.length := by
    by_cases h1 : n < l.length
    · exact h1
    · rw [List.drop_eq_nil_of_le (by omega)] at h; cases h
  rw [List.drop_eq_getElem_cons h1] at h
  simp only [List.cons.injEq] at h
  exact ⟨h1, by rw [List.getElem?_eq_getElem h1, h.1], h.2⟩
theorem drop_nil {α : Type} {l : List α} {n : Nat} (h : l.drop n = []) : l.length ≤ n := by simpa using h
theorem sdrop_cons {s : ByteArray} {n : Nat} {c : Int} {t : List Int} (h : (L s).drop n = c :: t) : n < s.size ∧ bt s n = c ∧ (L s).drop (n + 1) = t := by
  obtain ⟨h1, h2, h3⟩ := drop_cons h
  rw [L_length] at h1
  rw [L_get s n h1] at h2
  exact ⟨h1, Option.some.inj h2, h3⟩
theorem sdrop_nil {s : ByteArray} {n : Nat} (h : (L s).drop n = []) : s.size ≤ n := by have := drop_nil h; rwa [L_length] at this
theorem wsucc {n m : Nat} (h : n < m) (hm : m ≤ 140737488355328) : wrap64 ((n : Int) + 1) = ((n + 1 : Nat) : Int) := by rw [w64 (by omega) (by omega)]; rfl
/-! digits -/
def isD (c : Int) : Bool := decide (48 ≤ c) && decide (c ≤ 57)
theorem isD_t {c : Int} : isD c = true ↔ 48 ≤ c ∧ c ≤ 57 := by simp [isD]
theorem isD_f {c : Int} : isD c = false ↔ c < 48 ∨ 57 < c := by
  rw [← Bool.not_eq_true, isD_t]; omega
theorem dig_mod {c : Int} (h : isD c = true) : (c - 48) % 256 = c - 48 := by rw [isD_t] at h; omega
/-! ## within -/
theorem within_f (a b c : Int) : impl_within.f a b c = some (decide (b ≤ a) && decide (a ≤ c)) := by
  unfold impl_within.f; by_cases h : b ≤ a <;> simp [h]
/-! ## l1In -/
theorem l1In_f (a b c : Int) : spec_l1In.f a b c = some (decide (b ≤ a) && decide (a ≤ c)) := by
  unfold spec_l1In.f; by_cases h : b ≤ a <;> simp [h]
/-! ## FnExactLastOfKind -/
theorem every : (List.range 9).all (fun d => (List.range 256).all (fun c => laws_FnExactLastOfKind.f 200 ((d : Int) + 1) ⟨#[UInt8.ofNat c]⟩ == some true)) = true := by kernel_rfl
theorem one_byte (n : Nat) (hn : 1 ≤ n ∧ n ≤ 9) (c : UInt8) : laws_FnExactLastOfKind.f 200 (n : Int) ⟨#[c]⟩ = some true := by
  have h := List.all_eq_true.1 every (n - 1) (List.mem_range.2 (by omega))
  have h2 := List.all_eq_true.1 h c.toNat (List.mem_range.2 (by have := c.toNat_lt; omega))
  rw [show ((n - 1 : Nat) : Int) + 1 = (n : Int) by omega, UInt8.ofNat_toNat] at h2
  exact eq_of_beq h2
theorem FnExactLastOfKind : laws_FnExactLastOfKind.Pure := by
  intro n s _ _
  by_cases b1 : (s.size : Int) > 1048576
  · exact ⟨1, by unfold laws_FnExactLastOfKind.f; rw [if_pos b1]⟩
  · by_cases hd : 1 ≤ n ∧ n ≤ 9
    · by_cases hs : s.size = 1
      · obtain ⟨⟨l⟩⟩ := s
        match l, hs with
        | [c], _ => exact ⟨200, by obtain ⟨m, rfl⟩ : ∃ m : Nat, n = (m : Int) := ⟨n.toNat, by omega⟩; exact one_byte m (by omega) c⟩
      · refine Ev.rounds (g := fun k => laws_FnExactLastOfKind.f k n s) ?_
        unfold laws_FnExactLastOfKind.f spec_LastOfKind.f impl_LastOfKind.f impl_endOfKind.f spec_miSize.f impl_isDial.f spec_miKind.f impl_isKind.f
        rw [l1In_f, within_f, show (decide (1 ≤ n) && decide (n ≤ 9)) = true by simp [hd.1, hd.2]]
        have hs' : ((s.size : Int) = 1) = False := eq_false (by omega)
        refine Ev.neg b1 (Ev.bind (a := ((⟨#[]⟩ : ByteArray), false)) ?_ (Ev.bind (a := ((⟨#[]⟩ : ByteArray), false)) ?_ ?_))
        · simp only [Option.bind_some, if_true, hs', if_false]; exact Ev.step (fun _ => spec_LastOfKind.j0.eq_2 ..) (Ev.pos rfl (Ev.now _))
        · simp only [Option.bind_some, if_true, hs', if_false, Bool.not_false]; exact Ev.bind (a := ((⟨#[]⟩ : ByteArray), false)) (Ev.step (fun _ => impl_endOfKind.j0.eq_2 ..) (Ev.pos rfl (Ev.now _))) (Ev.now _)
        · exact Ev.pos rfl (Ev.neg (by decide) (Ev.now _))
    · refine Ev.rounds (g := fun k => laws_FnExactLastOfKind.f k n s) ?_
      unfold laws_FnExactLastOfKind.f spec_LastOfKind.f impl_LastOfKind.f impl_endOfKind.f spec_miSize.f impl_isDial.f
      have e : (decide (1 ≤ n) && decide (n ≤ 9)) = false := by
        rw [Bool.eq_false_iff]; intro h; simp only [Bool.and_eq_true, decide_eq_true_eq] at h; exact hd h
      rw [l1In_f, within_f, e]
      refine Ev.neg b1 (Ev.bind (a := ((⟨#[]⟩ : ByteArray), false)) ?_ (Ev.bind (a := ((⟨#[]⟩ : ByteArray), false)) ?_ ?_))
      · simp only [Option.bind_some, Bool.false_eq_true, if_false]; exact Ev.step (fun _ => spec_LastOfKind.j0.eq_2 ..) (Ev.pos rfl (Ev.now _))
      · simp only [Option.bind_some, Bool.false_eq_true, if_false]; exact Ev.bind (a := ((⟨#[]⟩ : ByteArray), false)) (Ev.step (fun _ => impl_endOfKind.j0.eq_2 ..) (Ev.pos rfl (Ev.now _))) (Ev.now _)
      · exact Ev.pos rfl (Ev.neg (by decide) (Ev.now _))

end Go.Proofs.Ythkjedplcebpjag.Pure
