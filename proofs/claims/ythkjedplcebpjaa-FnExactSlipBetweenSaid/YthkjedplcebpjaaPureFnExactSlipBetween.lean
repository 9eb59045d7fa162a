/- The plain law of FnExactSlipBetween: at all arguments the printed function of the law answers true after some number of rounds. Conditions: none beyond the bounds that the printed statement itself bears. -/
import Derived.Test.YthkjedplcebpjaaPFnExactSlipBetweenx2
namespace Go.Proofs.Ythkjedplcebpjaa.Pure
open Go.RowKit Go.Proofs.Ythkjedplcebpjaa.PFnExactSlipBetween Go.Proofs.YthkjedplcebpjaaW.PrintWords Go.Proofs.YthkjedplcebpjaaW.PrintLast
set_option linter.unusedVariables false

/-! ## base -/
/-! numbers in 64 bits -/
theorem w64 {x : Int} (h1 : -9223372036854775808 ≤ x) (h2 : x ≤ 9223372036854775807) : wrap64 x = x := by unfold wrap64; omega
theorem w64n {x : Nat} (h2 : x ≤ 9223372036854775807) : wrap64 (x : Int) = (x : Int) := w64 (by omega) (by omega)
theorem wf64 {x : Int} (h : (Lit.int .i64 x).wf = true) : -9223372036854775808 ≤ x ∧ x ≤ 9223372036854775807 := by
  have hmin : IntKind.i64.min = -9223372036854775808 := rfl
  have hmax : IntKind.i64.max = 9223372036854775807 := rfl
  simp only [Lit.wf, Bool.and_eq_true, decide_eq_true_eq, hmin, hmax] at h
  exact h
theorem tmodN (a b : Nat) : Int.tmod (a : Int) (b : Int) = ((a % b : Nat) : Int) := rfl
theorem tdivN (a b : Nat) : Int.tdiv (a : Int) (b : Int) = ((a / b : Nat) : Int) := rfl
theorem tmod_nn {a b : Int} (h : 0 ≤ a) : Int.tmod a b = a % b := Int.tmod_eq_emod_of_nonneg h
theorem tdiv_nn {a b : Int} (h : 0 ≤ a) : Int.tdiv a b = a / b := Int.tdiv_eq_ediv_of_nonneg h
/-! from some number of rounds on -/
theorem Ev.pos {α : Type} {c : Prop} [Decidable c] {f g : Nat → Option α} {r : α} (h : c) (e : Ev f r) : Ev (fun k => if c then f k else g k) r := by simpa only [if_pos h] using e
theorem Ev.neg {α : Type} {c : Prop} [Decidable c] {f g : Nat → Option α} {r : α} (h : ¬ c) (e : Ev g r) : Ev (fun k => if c then f k else g k) r := by simpa only [if_neg h] using e
theorem Ev.sm {α β : Type} {f : Nat → α → Option β} {a : α} {o : Option α} {r : β} (h : o = some a) (e : Ev (fun n => f n a) r) : Ev (fun n => o.bind (f n)) r := by subst h; simpa only [Option.bind_some] using e
theorem Ev.eq {α : Type} {f : Nat → Option α} {r r' : α} (h : r' = r) (e : Ev f r) : Ev f r' := h ▸ e
theorem Ev.of_some {α : Type} {o : Option α} {r : α} (h : o = some r) : Ev (fun _ => o) r := ⟨0, fun _ _ => h⟩
theorem Ev.uniq {α : Type} {g : Nat → Option α} {r q : α} (h : Ev g r) (h' : Ev g q) : r = q := by
  obtain ⟨K, h⟩ := h
  obtain ⟨K', h'⟩ := h'
  have := (h (max K K') (by omega)).symm.trans (h' (max K K') (by omega))
  exact Option.some.inj this
/-! a string as a list of numbers -/
def L (s : ByteArray) : List Int := s.data.toList.map (fun c => (c.toNat : Int))
theorem L_length (s : ByteArray) : (L s).length = s.size := by simp [L]
theorem bt_lo (s : ByteArray) (i : Int) : 0 ≤ bt s i := by unfold bt; split <;> omega
theorem bt_hi (s : ByteArray) (i : Int) : bt s i ≤ 255 := by
  unfold bt; split
  · have := UInt8.toNat_lt (s[i.toNat]); omega
  · omega
theorem bt_L (s : ByteArray) (n : Nat) : bt s (n : Int) = (L s).getD n 0 := by
  unfold bt L
  by_cases h : n < s.size
  · simp [h, List.getD_eq_getElem?_getD]; rfl
  · simp [h, List.getD_eq_getElem?_getD]
theorem L_get (s : ByteArray) (n : Nat) (h : n < s.size) : (L s)[n]? = some (bt s n) := by
  rw [bt_L, List.getD_eq_getElem?_getD]
  have : n < (L s).length := by rw [L_length]; exact h
  simp [this]
theorem L_mem {s : ByteArray} {c : Int} (h : c ∈ L s) : 0 ≤ c ∧ c ≤ 255 := by
  unfold L at h
  obtain ⟨u, _, rfl⟩ := List.mem_map.1 h
  have := UInt8.toNat_lt u
  omega
theorem map_toNat_inj : ∀ (l m : List UInt8), l.map (fun c => (c.toNat : Int)) = m.map (fun c => (c.toNat : Int)) → l = m
  | [], [], _ => rfl
  | [], _ :: _, h => by simp at h
  | _ :: _, [], h => by simp at h
  | a :: l, b :: m, h => by
    simp only [List.map_cons, List.cons.injEq] at h
    have h1 : a = b := by apply UInt8.toNat_inj.1; omega
    rw [h1, map_toNat_inj l m h.2]
theorem L_inj {s t : ByteArray} (h : L s = L t) : s = t := by
  have := map_toNat_inj _ _ h
  cases s; cases t
  congr 1
  exact Array.toList_inj.1 this
theorem toList_L {s t : ByteArray} : s.data.toList = t.data.toList ↔ L s = L t := by
  constructor
  · intro h; unfold L; rw [h]
  · intro h; exact map_toNat_inj _ _ h
theorem L_append (s t : ByteArray) : L (s ++ t) = L s ++ L t := by
  unfold L
  rw [ByteArray.data_append]
  simp
/-- The rest of a list from a place on. -/
theorem drop_cons {α : Type} {l : List α} {n : Nat} {c : α} {t : List α} (h : l.drop n = c :: t) : n < l.length ∧ l[n]? = some c ∧ l.drop (n + 1) = t := by
  have h1 : n < l.length := by
    by_cases h1 : n < l.length
    · exact h1
    · rw [List.drop_eq_nil_of_le (by omega)] at h; cases h
  rw [List.drop_eq_getElem_cons h1] at h
  simp only [List.cons.injEq] at h
  exact ⟨h1, by rw [List.getElem?_eq_getElem h1, h.1], h.2⟩
theorem drop_nil {α : Type} {l : List α} {n : Nat} (h : l.drop n = []) : l.length ≤ n := by simpa using h
theorem sdrop_cons {s : ByteArray} {n : Nat} {c : Int} {t : List Int} (h : (L s).drop n = c :: t) : n < s.size ∧ bt s n = c ∧ (L s).drop (n + 1) = t := by
  obtain ⟨h1, h2, h3⟩ := drop_cons h
  rw [L_length] at h1
  rw [L_get s n h1] at h2
  exact ⟨h1, Option.some.inj h2, h3⟩
theorem sdrop_nil {s : ByteArray} {n : Nat} (h : (L s).drop n = []) : s.size ≤ n := by have := drop_nil h; rwa [L_length] at this
theorem wsucc {n m : Nat} (h : n < m) (hm : m ≤ 140737488355328) : wrap64 ((n : Int) + 1) = ((n + 1 : Nat) : Int) := by rw [w64 (by omega) (by omega)]; rfl
/-! digits -/
def isD (c : Int) : Bool := decide (48 ≤ c) && decide (c ≤ 57)
theorem isD_t {c : Int} : isD c = true ↔ 48 ≤ c ∧ c ≤ 57 := by simp [isD]
theorem isD_f {c : Int} : isD c = false ↔ c < 48 ∨ 57 < c := by
  rw [← Bool.not_eq_true, isD_t]; omega
theorem dig_mod {c : Int} (h : isD c = true) : (c - 48) % 256 = c - 48 := by rw [isD_t] at h; omega
/-! ## str -/
theorem tl_eq {s t : ByteArray} : s.toList = t.toList ↔ s = t := by
  rw [ByteArray.toList_eq, ByteArray.toList_eq, toList_L]
  exact ⟨L_inj, fun h => by rw [h]⟩
theorem L_extract (s : ByteArray) (a b : Nat) : L (s.extract a b) = ((L s).take b).drop a := by
  unfold L
  rw [ByteArray.data_extract]
  simp [List.map_drop, List.map_take, List.drop_take]
theorem L_nil : L (⟨#[]⟩ : ByteArray) = [] := rfl
theorem size_L (s : ByteArray) : s.size = (L s).length := (L_length s).symm
theorem size_ext (s : ByteArray) (a b : Nat) : (s.extract a b).size = min b s.size - a := by rw [size_L, L_extract, List.length_drop, List.length_take, L_length]
theorem size_app (s t : ByteArray) : (s ++ t).size = s.size + t.size := by rw [size_L, L_append, List.length_append, L_length, L_length]
/-! ## swap -/
/-- The elements at p and behind it exchanged. -/
def swapL (l : List Int) (p : Nat) : List Int := l.take p ++ ((l.take (p + 2)).drop (p + 1) ++ ((l.take (p + 1)).drop p ++ l.drop (p + 2)))
theorem swapL_get (l : List Int) (p : Nat) (hp : p + 2 ≤ l.length) (j : Nat) : (swapL l p)[j]? = if j = p then l[p + 1]? else if j = p + 1 then l[p]? else l[j]? := by
  unfold swapL
  by_cases h1 : j < p
  · rw [List.getElem?_append_left (by rw [List.length_take]; omega), List.getElem?_take, if_pos h1, if_neg (by omega), if_neg (by omega)]
  · rw [List.getElem?_append_right (by rw [List.length_take]; omega), List.length_take, Nat.min_eq_left (by omega)]
    by_cases h2 : j = p
    · subst h2
      rw [if_pos rfl, Nat.sub_self, List.getElem?_append_left (by rw [List.length_drop, List.length_take]; omega), List.getElem?_drop, List.getElem?_take, if_pos (by omega)]
      first | done | rfl
    · rw [if_neg h2, List.getElem?_append_right (by rw [List.length_drop, List.length_take]; omega), List.length_drop, List.length_take, Nat.min_eq_left (by omega)]
      by_cases h3 : j = p + 1
      · subst h3
        rw [if_pos rfl, List.getElem?_append_left (by rw [List.length_drop, List.length_take]; omega), List.getElem?_drop, List.getElem?_take, if_pos (by omega)]
        congr 1; omega
      · rw [if_neg h3, List.getElem?_append_right (by rw [List.length_drop, List.length_take]; omega), List.getElem?_drop, List.length_drop, List.length_take]
        congr 1; omega
/-- The text with two places side by side exchanged. -/
def swp (s : ByteArray) (p : Nat) : ByteArray := (((s.extract 0 p) ++ (s.extract (p + 1) (p + 2))) ++ (s.extract p (p + 1))) ++ (s.extract (p + 2) s.size)
theorem L_swp (s : ByteArray) (p : Nat) : L (swp s p) = swapL (L s) p := by
  unfold swp swapL
  rw [L_append, L_append, L_append, L_extract, L_extract, L_extract, L_extract, List.drop_zero, List.append_assoc, List.append_assoc]
  rw [List.take_of_length_le (l := L s) (i := s.size) (by rw [L_length]; omega)]
theorem swp_size (s : ByteArray) (p : Nat) (hp : p + 2 ≤ s.size) : (swp s p).size = s.size := by
  unfold swp
  simp only [size_app, size_ext]
  omega
/-! ## swapF -/
theorem swapped_f (s : ByteArray) (p : Nat) (hp : p + 2 ≤ s.size) (hs : s.size ≤ 140737488351232) : impl_swapped.f s (p : Int) = some (swp s p) := by
  have e1 : wrap64 ((p : Int) + 1) = ((p + 1 : Nat) : Int) := by rw [w64 (by omega) (by omega)]; rfl
  have e2 : wrap64 ((p : Int) + 2) = ((p + 2 : Nat) : Int) := by rw [w64 (by omega) (by omega)]; rfl
  unfold impl_swapped.f
  rw [e1, e2, Int.toNat_natCast, Int.toNat_natCast, Int.toNat_natCast]
  have hz := swp_size s p hp
  simp only [swp, size_app, size_ext] at hz
  rw [if_pos (by omega), if_pos (by omega), if_pos (by omega), if_pos (by omega), if_pos (by omega), if_pos (by simp only [size_ext]; omega), if_pos (by omega), if_pos (by omega), if_pos (by simp only [size_app, size_ext]; omega), if_pos (by omega), if_pos (by simp only [size_app, size_ext]; omega)]
  rfl
theorem slSwap_f (s : ByteArray) (p : Nat) (hp : p + 2 ≤ s.size) (hs : s.size ≤ 140737488351232) : spec_slSwap.f s (p : Int) = some (swp s p) := swapped_f s p hp hs
/-! ## l1In -/
theorem l1In_f (a b c : Int) : spec_l1In.f a b c = some (decide (b ≤ a) && decide (a ≤ c)) := by
  unfold spec_l1In.f; by_cases h : b ≤ a <;> simp [h]
/-! ## slDigits -/
theorem slDigits_l0 (s : ByteArray) (hs : s.size ≤ 140737488351232) : ∀ (l : List Int) (n : Nat), (L s).drop n = l →
    Ev (fun k => spec_slDigits.l0 k s (n : Int)) (l.all isD) := by
  intro l
  induction l with
  | nil =>
    intro n h
    have h1 := sdrop_nil h
    exact Ev.step (spec_slDigits.l0.eq_2 s (n : Int)) (Ev.neg (by omega) (Ev.now _))
  | cons c t ih =>
    intro n h
    obtain ⟨h1, h2, h3⟩ := sdrop_cons h
    refine Ev.step (spec_slDigits.l0.eq_2 s (n : Int)) (Ev.pos (by omega) (Ev.pos (by omega) ?_))
    rw [h2, wsucc h1 (by omega)]
    by_cases hc : isD c = true
    · have hc' := isD_t.1 hc
      refine Ev.neg (by omega) (Ev.neg (by omega) (Ev.eq ?_ (ih (n + 1) h3)))
      simp [hc]
    · have hc' := isD_f.1 (by simpa using hc)
      by_cases h48 : c < 48
      · exact Ev.pos h48 (Ev.eq (by simp [hc]) (Ev.now _))
      · exact Ev.neg h48 (Ev.pos (by omega) (Ev.eq (by simp [hc]) (Ev.now _)))
theorem slDigits_f (s : ByteArray) (hs : s.size ≤ 140737488351232) :
    Ev (fun k => spec_slDigits.f k s) ((L s).all isD && (decide ((1 : Int) ≤ s.size) && decide ((s.size : Int) ≤ 12))) := by
  refine Ev.sm (l1In_f _ _ _) ?_
  by_cases h : (decide ((1 : Int) ≤ s.size) && decide ((s.size : Int) ≤ 12)) = true
  · exact Ev.pos h (Ev.eq (by rw [h, Bool.and_true]) (slDigits_l0 s hs (L s) 0 rfl))
  · exact Ev.neg h (Ev.eq (by rw [Bool.not_eq_true] at h; rw [h, Bool.and_false]) (Ev.now _))
/-! ## within -/
theorem within_f (a b c : Int) : impl_within.f a b c = some (decide (b ≤ a) && decide (a ≤ c)) := by
  unfold impl_within.f; by_cases h : b ≤ a <;> simp [h]
/-! ## areDigits -/
theorem areDigits_l0 (s : ByteArray) (lo hi : Int) (hs : s.size ≤ 140737488351232) : ∀ (l : List Int) (n : Nat), (L s).drop n = l →
    Ev (fun k => impl_areDigits.l0 k s lo hi (s.size : Int) (n : Int)) (l.all isD && (decide (lo ≤ s.size) && decide ((s.size : Int) ≤ hi))) := by
  intro l
  induction l with
  | nil =>
    intro n h
    have h1 := sdrop_nil h
    refine Ev.step (impl_areDigits.l0.eq_2 s lo hi (s.size : Int) (n : Int)) ?_
    refine Ev.neg (by omega) (Ev.sm (within_f _ _ _) (Ev.eq ?_ (Ev.now _)))
    simp
  | cons c t ih =>
    intro n h
    obtain ⟨h1, h2, h3⟩ := sdrop_cons h
    refine Ev.step (impl_areDigits.l0.eq_2 s lo hi (s.size : Int) (n : Int)) (Ev.pos (by omega) (Ev.pos (by omega) (Ev.pos (by omega) ?_)))
    rw [h2, wsucc h1 (by omega)]
    by_cases hc : isD c = true
    · have hc' := isD_t.1 hc
      refine Ev.neg (by omega) (Ev.neg (by omega) (Ev.eq ?_ (ih (n + 1) h3)))
      simp [hc]
    · have hc' := isD_f.1 (by simpa using hc)
      by_cases h48 : c < 48
      · exact Ev.pos h48 (Ev.eq (by simp [hc]) (Ev.now _))
      · exact Ev.neg h48 (Ev.pos (by omega) (Ev.eq (by simp [hc]) (Ev.now _)))
theorem areDigits_f (s : ByteArray) (lo hi : Int) (hs : s.size ≤ 140737488351232) :
    Ev (fun k => impl_areDigits.f k s lo hi) ((L s).all isD && (decide (lo ≤ s.size) && decide ((s.size : Int) ≤ hi))) :=
  areDigits_l0 s lo hi hs (L s) 0 rfl
/-! ## FnExactSlipBetween -/
/-- The places below n at which two texts differ. -/
def dif (a b : ByteArray) (n : Nat) : List Nat := (List.range n).filter (fun j => bt a j != bt b j)
def difI (a b : ByteArray) (n : Nat) : List Int := (dif a b n).map (fun j : Nat => (j : Int))
theorem dif_succ (a b : ByteArray) (n : Nat) : dif a b (n + 1) = dif a b n ++ (if bt a n = bt b n then [] else [n]) := by
  unfold dif
  rw [List.range_succ, List.filter_append]
  by_cases h : bt a n = bt b n <;> simp [h]
theorem difI_succ (a b : ByteArray) (n : Nat) : difI a b (n + 1) = difI a b n ++ (if bt a n = bt b n then [] else [(n : Int)]) := by
  unfold difI; rw [dif_succ, List.map_append]; split <;> rfl
theorem dif_len (a b : ByteArray) : ∀ n, (difI a b n).length ≤ n
  | 0 => by simp [difI, dif]
  | n + 1 => by rw [difI_succ, List.length_append]; have := dif_len a b n; split <;> simp <;> omega
theorem mem_dif {a b : ByteArray} {n j : Nat} : j ∈ dif a b n ↔ j < n ∧ ¬ bt a j = bt b j := by simp [dif]
theorem dif_lt (a b : ByteArray) (n : Nat) : (dif a b n).Pairwise (· < ·) := List.Pairwise.filter _ List.pairwise_lt_range
def sbSame : ByteArray := ⟨#[115, 97, 109, 101]⟩
def sbSlip : ByteArray := ⟨#[115, 108, 105, 112]⟩
def sbSwap : ByteArray := ⟨#[115, 119, 97, 112]⟩
def sbMore : ByteArray := ⟨#[109, 111, 114, 101]⟩
/-- What is told of the places at which two texts differ. -/
def tells (a b : ByteArray) : ByteArray × Bool :=
  let d := dif a b a.size
  if d.length = 0 then (sbSame, true) else if d.length = 1 then (sbSlip, true) else if (swp a (d.getD 0 0)) = b then (sbSwap, true) else (sbMore, true)
theorem rd_map (l : List Nat) (i : Nat) (h : i < l.length) : rd (l.map (fun j : Nat => (j : Int))) (i : Int) = ((l.getD i 0 : Nat) : Int) := by
  unfold rd; simp [List.getD_eq_getElem?_getD, h]
/-- Where two texts differ at two places or more, the first one has another one behind it. -/
theorem first_lt {a b : ByteArray} {n : Nat} (h : 2 ≤ (dif a b n).length) : (dif a b n).getD 0 0 + 2 ≤ n := by
  have hp := dif_lt a b n
  generalize hd : dif a b n = d at hp h
  match d, h with
  | x :: y :: t, _ =>
    have h1 : x < y := (List.pairwise_cons.1 hp).1 y (by simp)
    have h2 : y ∈ dif a b n := by rw [hd]; simp
    have := (mem_dif.1 h2).1
    show x + 2 ≤ n
    omega
theorem bt_get {s : ByteArray} {j : Nat} {x : Int} (h : j < s.size) (e : (L s)[j]? = some x) : bt s j = x := by
  rw [L_get s j h] at e; exact Option.some.inj e
theorem swap_two {a b : ByteArray} (hab : a.size = b.size) (h : 2 ≤ (dif a b a.size).length) (e : swp a ((dif a b a.size).getD 0 0) = b) : (dif a b a.size).length = 2 ∧ (dif a b a.size).getD 1 0 = (dif a b a.size).getD 0 0 + 1 := by
  have hp := dif_lt a b a.size
  have hf := first_lt h
  generalize hd : dif a b a.size = d at hp h hf e ⊢
  match d, h with
  | x :: y :: t, _ =>
    have hx : (x :: y :: t).getD 0 0 = x := rfl
    rw [hx] at hf e ⊢
    have key : ∀ j, j ∈ dif a b a.size → j = x ∨ j = x + 1 := by
      intro j hj
      obtain ⟨h1, h2⟩ := mem_dif.1 hj
      have hg := swapL_get (L a) x (by rw [L_length]; exact hf) j
      rw [← L_swp, e, L_get b j (by omega)] at hg
      by_cases c1 : j = x
      · exact .inl c1
      · by_cases c2 : j = x + 1
        · exact .inr c2
        · rw [if_neg c1, if_neg c2, L_get a j h1] at hg
          exact absurd (Option.some.inj hg).symm h2
    have hy : x < y := (List.pairwise_cons.1 hp).1 y (by simp)
    have hy2 : y = x + 1 := by
      have := key y (by rw [hd]; simp)
      omega
    refine ⟨?_, hy2⟩
    match t with
    | [] => rfl
    | z :: u =>
      have hz : y < z := (List.pairwise_cons.1 (List.pairwise_cons.1 hp).2).1 z (by simp)
      have := key z (by rw [hd]; simp)
      omega
theorem difI_length (a b : ByteArray) (n : Nat) : (difI a b n).length = (dif a b n).length := by simp [difI]
theorem specSB_l0 (a b : ByteArray) (hab : a.size = b.size) (h12 : a.size ≤ 12) : ∀ d n : Nat, n + d = a.size →
    Ev (fun k => spec_SlipBetween.l0 k a b (difI a b n) (n : Int)) (tells a b) := by
  intro d
  induction d with
  | zero =>
    intro n hn
    obtain rfl : n = a.size := by omega
    refine Ev.step (fun _ => spec_SlipBetween.l0.eq_2 ..) (Ev.neg (by omega) ?_)
    rw [difI_length]
    unfold tells
    by_cases c0 : (dif a b a.size).length = 0
    · exact Ev.pos (by omega) (Ev.eq (if_pos c0) (Ev.now _))
    · refine Ev.neg (by omega) ?_
      by_cases c1 : (dif a b a.size).length = 1
      · exact Ev.pos (by omega) (Ev.eq (by simp only [if_neg c0, if_pos c1]; rfl) (Ev.now _))
      · refine Ev.neg (by omega) ?_
        simp only [if_neg c0, if_neg c1]
        have hf := first_lt (a := a) (b := b) (n := a.size) (by omega)
        by_cases c2 : (dif a b a.size).length = 2
        · refine Ev.pos (by omega) (Ev.pos (by omega) (Ev.pos (by omega) ?_))
          have r0 := rd_map (dif a b a.size) 0 (by omega)
          have r1 := rd_map (dif a b a.size) 1 (by omega)
          rw [show rd (difI a b a.size) 0 = _ from r0, show rd (difI a b a.size) 1 = _ from r1, wsucc (m := a.size) (by omega) (by omega)]
          by_cases c3 : (dif a b a.size).getD 1 0 = (dif a b a.size).getD 0 0 + 1
          · refine Ev.pos (by omega) (Ev.sm (slSwap_f a _ hf (by omega)) ?_)
            by_cases c4 : swp a ((dif a b a.size).getD 0 0) = b
            · exact Ev.pos (tl_eq.2 c4) (Ev.eq (if_pos c4) (Ev.now _))
            · exact Ev.neg (fun h => c4 (tl_eq.1 h)) (Ev.eq (if_neg c4) (Ev.now _))
          · exact Ev.neg (by omega) (Ev.eq (if_neg (fun h => c3 (swap_two hab (by omega) h).2)) (Ev.now _))
        · exact Ev.neg (by omega) (Ev.eq (if_neg (fun h => c2 (swap_two hab (by omega) h).1)) (Ev.now _))
  | succ d ih =>
    intro n hn
    refine Ev.step (fun _ => spec_SlipBetween.l0.eq_2 ..) (Ev.pos (by omega) (Ev.pos (by omega) (Ev.pos (by omega) ?_)))
    have ih' := ih (n + 1) (by omega)
    rw [wsucc (m := a.size) (by omega) (by omega)]
    rw [difI_succ] at ih'
    by_cases c : bt a n = bt b n
    · rw [if_pos c, List.append_nil] at ih'
      exact Ev.pos c ih'
    · rw [if_neg c] at ih'
      exact Ev.neg c (Ev.pos (by have := dif_len a b n; omega) ih')
theorem implSB_l0 (a b : ByteArray) (hab : a.size = b.size) (h12 : a.size ≤ 12) : ∀ d n : Nat, n + d = a.size →
    Ev (fun k => impl_SlipBetween.l0 k a b (difI a b n) (a.size : Int) (n : Int)) (tells a b) := by
  intro d
  induction d with
  | zero =>
    intro n hn
    obtain rfl : n = a.size := by omega
    refine Ev.step (fun _ => impl_SlipBetween.l0.eq_2 ..) (Ev.neg (by omega) ?_)
    rw [difI_length]
    unfold tells
    by_cases c0 : (dif a b a.size).length = 0
    · exact Ev.pos (by omega) (Ev.eq (if_pos c0) (Ev.now _))
    · refine Ev.neg (by omega) ?_
      by_cases c1 : (dif a b a.size).length = 1
      · exact Ev.pos (by omega) (Ev.eq (by simp only [if_neg c0, if_pos c1]; rfl) (Ev.now _))
      · refine Ev.neg (by omega) (Ev.pos (by omega) ?_)
        simp only [if_neg c0, if_neg c1]
        have hf := first_lt (a := a) (b := b) (n := a.size) (by omega)
        have r0 := rd_map (dif a b a.size) 0 (by omega)
        rw [show rd (difI a b a.size) 0 = _ from r0]
        have em : mn (((dif a b a.size).getD 0 0 : Nat) : Int) (wrap64 ((a.size : Int) - 2)) = (((dif a b a.size).getD 0 0 : Nat) : Int) := by
          rw [w64 (by omega) (by omega)]; unfold mn; rw [if_neg (by omega)]
        rw [em]
        refine Ev.sm (swapped_f a _ hf (by omega)) ?_
        by_cases c4 : swp a ((dif a b a.size).getD 0 0) = b
        · exact Ev.pos (tl_eq.2 c4) (Ev.eq (if_pos c4) (Ev.now _))
        · exact Ev.neg (fun h => c4 (tl_eq.1 h)) (Ev.eq (if_neg c4) (Ev.now _))
  | succ d ih =>
    intro n hn
    refine Ev.step (fun _ => impl_SlipBetween.l0.eq_2 ..) (Ev.pos (by omega) (Ev.pos (by omega) (Ev.pos (by omega) (Ev.pos (by omega) ?_))))
    have ih' := ih (n + 1) (by omega)
    rw [wsucc (m := a.size) (by omega) (by omega)]
    rw [difI_succ] at ih'
    by_cases c : bt a n = bt b n
    · rw [if_pos c, List.append_nil] at ih'
      exact Ev.pos c ih'
    · rw [if_neg c] at ih'
      exact Ev.neg c (Ev.pos (by have := dif_len a b n; omega) ih')
theorem FnExactSlipBetween : laws_FnExactSlipBetween.Pure := by
  intro a b ha hb
  refine Ev.rounds (g := fun k => laws_FnExactSlipBetween.f k a b) ?_
  unfold laws_FnExactSlipBetween.f
  by_cases b1 : (a.size : Int) > 1048576
  · exact Ev.pos b1 (Ev.now _)
  · by_cases b2 : (b.size : Int) > 1048576
    · exact Ev.neg b1 (Ev.pos b2 (Ev.now _))
    · refine Ev.neg b1 (Ev.neg b2 ?_)
      have fin : ∀ r : ByteArray × Bool, Ev (fun k => spec_SlipBetween.f k a b) r → Ev (fun k => impl_SlipBetween.f k a b) r → Ev (fun k => (spec_SlipBetween.f k a b).bind fun bt122 => ((impl_SlipBetween.f k a b).bind fun bt124 => (if bt124.1.toList = bt122.1.toList then (if (bt124.2 != bt122.2) = true then (some false) else (some true)) else (some false)))) true := by
        intro r h1 h2
        exact Ev.bind h1 (Ev.bind h2 (Ev.pos rfl (Ev.neg (by simp) (Ev.now _))))
      by_cases da : ((L a).all isD && (decide ((1 : Int) ≤ a.size) && decide ((a.size : Int) ≤ 12))) = true
      · have h12 : a.size ≤ 12 := by have := (Bool.and_eq_true_iff.1 da).2; simp at this; omega
        have h1 : 1 ≤ a.size := by have := (Bool.and_eq_true_iff.1 da).2; simp at this; omega
        by_cases db : (L b).all isD = true ∧ a.size = b.size
        · refine fin (tells a b) ?_ ?_
          · refine Ev.bind (slDigits_f a ha) (Ev.pos da (Ev.bind (slDigits_f b hb) (Ev.pos ?_ (Ev.step (fun _ => spec_SlipBetween.j0.eq_2 ..) (Ev.neg ?_ (specSB_l0 a b db.2 h12 a.size 0 (by omega)))))))
            · simp [db.1]; omega
            · simp [db.2]
          · refine Ev.bind (areDigits_f a 1 12 ha) (Ev.pos da (Ev.bind (areDigits_f b (a.size : Int) (a.size : Int) hb) (Ev.step (fun _ => impl_SlipBetween.j0.eq_2 ..) (Ev.neg ?_ (implSB_l0 a b db.2 h12 a.size 0 (by omega))))))
            simp [db.1, db.2]
        · refine fin (⟨#[]⟩, false) ?_ ?_
          · refine Ev.bind (slDigits_f a ha) (Ev.pos da (Ev.bind (slDigits_f b hb) ?_))
            by_cases db2 : ((L b).all isD && (decide ((1 : Int) ≤ b.size) && decide ((b.size : Int) ≤ 12))) = true
            · refine Ev.pos db2 (Ev.step (fun _ => spec_SlipBetween.j0.eq_2 ..) (Ev.pos ?_ (Ev.now _)))
              have hd : ¬ a.size = b.size := fun h => db ⟨(Bool.and_eq_true_iff.1 db2).1, h⟩
              simp; omega
            · exact Ev.neg db2 (Ev.step (fun _ => spec_SlipBetween.j0.eq_2 ..) (Ev.pos rfl (Ev.now _)))
          · refine Ev.bind (areDigits_f a 1 12 ha) (Ev.pos da (Ev.bind (areDigits_f b (a.size : Int) (a.size : Int) hb) (Ev.step (fun _ => impl_SlipBetween.j0.eq_2 ..) (Ev.pos ?_ (Ev.now _)))))
            rw [Bool.not_eq_true', Bool.and_eq_false_iff]
            by_cases d1 : (L b).all isD = true
            · right
              have hd : ¬ a.size = b.size := fun h => db ⟨d1, h⟩
              simp; omega
            · left; simpa using d1
      · refine fin (⟨#[]⟩, false) ?_ ?_
        · exact Ev.bind (slDigits_f a ha) (Ev.neg da (Ev.step (fun _ => spec_SlipBetween.j0.eq_2 ..) (Ev.pos rfl (Ev.now _))))
        · exact Ev.bind (areDigits_f a 1 12 ha) (Ev.neg da (Ev.step (fun _ => impl_SlipBetween.j0.eq_2 ..) (Ev.pos rfl (Ev.now _))))

end Go.Proofs.Ythkjedplcebpjaa.Pure
