/- The plain law of FnExactCountSound: at all arguments the printed function of the law answers true after some number of rounds. Conditions: none beyond the bounds that the printed statement itself bears. -/
import Derived.Test.YthkjedplcebpjabQFnExactCountSoundx3
namespace Go.Proofs.Ythkjedplcebpjab.Pure
open Go.RowKit Go.Proofs.Ythkjedplcebpjab.QFnExactCountSound Go.Proofs.YthkjedplcebpjabW.PrintWords Go.Proofs.YthkjedplcebpjabW.PrintLast Go.Proofs.YthkjedplcebpjabW.PrintMore Go.Proofs.Ythkjedplcebpjab.Ext
set_option linter.unusedVariables false

def laws_FnExactCountSound.Pure : Prop := ∀ (l0_0 : List Int) (a0_1 : Int), l0_0.length ≤ 9223372036854775807 → (∀ x ∈ l0_0, (Lit.int .i64 x).wf = true) → (Lit.int .i64 a0_1).wf = true → ∃ k, laws_FnExactCountSound.f k l0_0 a0_1 = some true
/-! ## base -/
/-! numbers in 64 bits -/
theorem w64 {x : Int} (h1 : -9223372036854775808 ≤ x) (h2 : x ≤ 9223372036854775807) : wrap64 x = x := by unfold wrap64; omega
theorem w64n {x : Nat} (h2 : x ≤ 9223372036854775807) : wrap64 (x : Int) = (x : Int) := w64 (by omega) (by omega)
theorem wf64 {x : Int} (h : (Lit.int .i64 x).wf = true) : -9223372036854775808 ≤ x ∧ x ≤ 9223372036854775807 := by
  have hmin : IntKind.i64.min = -9223372036854775808 := rfl
  have hmax : IntKind.i64.max = 9223372036854775807 := rfl
  simp only [Lit.wf, Bool.and_eq_true, decide_eq_true_eq, hmin, hmax] at h
  exact h
theorem tmodN (a b : Nat) : Int.tmod (a : Int) (b : Int) = ((a % b : Nat) : Int) := rfl
theorem tdivN (a b : Nat) : Int.tdiv (a : Int) (b : Int) = ((a / b : Nat) : Int) := rfl
theorem tmod_nn {a b : Int} (h : 0 ≤ a) : Int.tmod a b = a % b := Int.tmod_eq_emod_of_nonneg h
theorem tdiv_nn {a b : Int} (h : 0 ≤ a) : Int.tdiv a b = a / b := Int.tdiv_eq_ediv_of_nonneg h
/-! from some number of rounds on -/
theorem Ev.pos {α : Type} {c : Prop} [Decidable c] {f g : Nat → Option α} {r : α} (h : c) (e : Ev f r) : Ev (fun k => if c then f k else g k) r := by simpa only [if_pos h] using e
theorem Ev.neg {α : Type} {c : Prop} [Decidable c] {f g : Nat → Option α} {r : α} (h : ¬ c) (e : Ev g r) : Ev (fun k => if c then f k else g k) r := by simpa only [if_neg h] using e
theorem Ev.sm {α β : Type} {f : Nat → α → Option β} {a : α} {o : Option α} {r : β} (h : o = some a) (e : Ev (fun n => f n a) r) : Ev (fun n => o.bind (f n)) r := by subst h; simpa only [Option.bind_some] using e
theorem Ev.eq {α : Type} {f : Nat → Option α} {r r' : α} (h : r' = r) (e : Ev f r) : Ev f r' := h ▸ e
theorem Ev.of_some {α : Type} {o : Option α} {r : α} (h : o = some r) : Ev (fun _ => o) r := ⟨0, fun _ _ => h⟩
theorem Ev.uniq {α : Type} {g : Nat → Option α} {r q : α} (h : Ev g r) (h' : Ev g q) : r = q := by
  obtain ⟨K, h⟩ := h
  obtain ⟨K', h'⟩ := h'
  have := (h (max K K') (by omega)).symm.trans (h' (max K K') (by omega))
  exact Option.some.inj this
/-! a string as a list of numbers -/
def L (s : ByteArray) : List Int := s.data.toList.map (fun c => (c.toNat : Int))
theorem L_length (s : ByteArray) : (L s).length = s.size := by simp [L]
theorem bt_lo (s : ByteArray) (i : Int) : 0 ≤ bt s i := by unfold bt; split <;> omega
theorem bt_hi (s : ByteArray) (i : Int) : bt s i ≤ 255 := by
  unfold bt; split
  · have := UInt8.toNat_lt (s[i.toNat]); omega
  · omega
theorem bt_L (s : ByteArray) (n : Nat) : bt s (n : Int) = (L s).getD n 0 := by
  unfold bt L
  by_cases h : n < s.size
  · simp [h, List.getD_eq_getElem?_getD]; rfl
  · simp [h, List.getD_eq_getElem?_getD]
theorem L_get (s : ByteArray) (n : Nat) (h : n < s.size) : (L s)[n]? = some (bt s n) := by
  rw [bt_L, List.getD_eq_getElem?_getD]
  have : n < (L s).length := by rw [L_length]; exact h
  simp [this]
theorem L_mem {s : ByteArray} {c : Int} (h : c ∈ L s) : 0 ≤ c ∧ c ≤ 255 := by
  unfold L at h
  obtain ⟨u, _, rfl⟩ := List.mem_map.1 h
  have := UInt8.toNat_lt u
  omega
theorem map_toNat_inj : ∀ (l m : List UInt8), l.map (fun c => (c.toNat : Int)) = m.map (fun c => (c.toNat : Int)) → l = m
  | [], [], _ => rfl
  | [], _ :: _, h => by simp at h
  | _ :: _, [], h => by simp at h
  | a :: l, b :: m, h => by
    simp only [List.map_cons, List.cons.injEq] at h
    have h1 : a = b := by apply UInt8.toNat_inj.1; omega
    rw [h1, map_toNat_inj l m h.2]
theorem L_inj {s t : ByteArray} (h : L s = L t) : s = t := by
  have := map_toNat_inj _ _ h
  cases s; cases t
  congr 1
  exact Array.toList_inj.1 this
theorem toList_L {s t : ByteArray} : s.data.toList = t.data.toList ↔ L s = L t := by
  constructor
  · intro h; unfold L; rw [h]
  · intro h; exact map_toNat_inj _ _ h
theorem L_append (s t : ByteArray) : L (s ++ t) = L s ++ L t := by
  unfold L
  rw [ByteArray.data_append]
  simp
/-- The rest of a list from a place on. -/
theorem drop_cons {α : Type} {l : List α} {n : Nat} {c : α} {t : List α} (h : l.drop n = c :: t) : n < l.length ∧ l[n]? = some c ∧ l.drop (n + 1) = t := by
  have h1 : n < l.length := by
    by_cases h1 : n < l.length
    · exact h1
    · rw [List.drop_eq_nil_of_le (by omega)] at h; cases h
  rw [List.drop_eq_getElem_cons h1] at h
  simp only [List.cons.injEq] at h
  exact ⟨h1, by rw [List.getElem?_eq_getElem h1, h.1], h.2⟩
theorem drop_nil {α : Type} {l : List α} {n : Nat} (h : l.drop n = []) : l.length ≤ n := by simpa using h
theorem sdrop_cons {s : ByteArray} {n : Nat} {c : Int} {t : List Int} (h : (L s).drop n = c :: t) : n < s.size ∧ bt s n = c ∧ (L s).drop (n + 1) = t := by
  obtain ⟨h1, h2, h3⟩ := drop_cons h
  rw [L_length] at h1
  rw [L_get s n h1] at h2
  exact ⟨h1, Option.some.inj h2, h3⟩
theorem sdrop_nil {s : ByteArray} {n : Nat} (h : (L s).drop n = []) : s.size ≤ n := by have := drop_nil h; rwa [L_length] at this
theorem wsucc {n m : Nat} (h : n < m) (hm : m ≤ 140737488355328) : wrap64 ((n : Int) + 1) = ((n + 1 : Nat) : Int) := by rw [w64 (by omega) (by omega)]; rfl
/-! digits -/
def isD (c : Int) : Bool := decide (48 ≤ c) && decide (c ≤ 57)
theorem isD_t {c : Int} : isD c = true ↔ 48 ≤ c ∧ c ≤ 57 := by simp [isD]
theorem isD_f {c : Int} : isD c = false ↔ c < 48 ∨ 57 < c := by
  rw [← Bool.not_eq_true, isD_t]; omega
theorem dig_mod {c : Int} (h : isD c = true) : (c - 48) % 256 = c - 48 := by rw [isD_t] at h; omega
/-! ## tab -/
/-! a list told by a function of its places -/
def tab (n : Nat) (f : Nat → Int) : List Int := (List.range n).map f
theorem tab_length (n : Nat) (f : Nat → Int) : (tab n f).length = n := by simp [tab]
theorem tab_get {n : Nat} {f : Nat → Int} {i : Nat} (h : i < n) : (tab n f)[i]? = some (f i) := by simp [tab, h]
theorem rd_tab {n : Nat} {f : Nat → Int} {i : Nat} (h : i < n) : rd (tab n f) (i : Int) = f i := by
  unfold rd; rw [Int.toNat_natCast, List.getD_eq_getElem?_getD, tab_get h]; rfl
theorem tab_congr {n : Nat} {f g : Nat → Int} (h : ∀ j, j < n → f j = g j) : tab n f = tab n g := by
  unfold tab; exact List.map_congr_left (fun j hj => h j (List.mem_range.1 hj))
theorem set_tab {n : Nat} {f : Nat → Int} (i : Nat) (v : Int) : (tab n f).set i v = tab n (fun j => if j = i then v else f j) := by
  apply List.ext_getElem?
  intro j
  rw [List.getElem?_set]
  by_cases hj : j < n
  · rw [tab_get (f := fun j => if j = i then v else f j) hj]
    by_cases e : i = j
    · subst e; rw [if_pos rfl, if_pos (by rw [tab_length]; exact hj), if_pos rfl]
    · rw [if_neg e, tab_get hj, if_neg (fun h => e h.symm)]
  · have h1 : (tab n f)[j]? = none := List.getElem?_eq_none (by rw [tab_length]; omega)
    have h2 : (tab n (fun j => if j = i then v else f j))[j]? = none := List.getElem?_eq_none (by rw [tab_length]; omega)
    rw [h1, h2]
    by_cases e : i = j
    · subst e; rw [if_pos rfl, if_neg (by rw [tab_length]; exact hj)]
    · rw [if_neg e]
theorem rep_tab (n : Nat) : List.replicate n (0 : Int) = tab n (fun _ => 0) := by
  apply List.ext_getElem?
  intro j
  by_cases hj : j < n
  · rw [tab_get hj]; simp [hj]
  · rw [List.getElem?_eq_none (by simp; omega), List.getElem?_eq_none (by rw [tab_length]; omega)]
theorem tab_one (v : Int) : [v] = tab 1 (fun _ => v) := rfl
/-! ## dist -/
/-! how many texts of digits have each rest -/
def addF (f : Nat → Int) (i : Nat) (v : Int) : Nat → Int := fun j => if j = i then f j + v else f j
def inD (M w r : Nat) (v : Int) (f : Nat → Int) : Nat → (Nat → Int)
  | 0 => f
  | d + 1 => addF (inD M w r v f d) ((r + w * d) % M) v
def inR (M w : Nat) (out : Nat → Int) : Nat → (Nat → Int)
  | 0 => fun _ => 0
  | r + 1 => inD M w r (out r) (inR M w out r) 10
def stp (M w : Nat) (out : Nat → Int) : Nat → Int := inR M w out M
def tot (f : Nat → Int) : Nat → Int
  | 0 => 0
  | n + 1 => tot f n + f n
theorem tot_addF {f : Nat → Int} {i : Nat} {v : Int} : ∀ n, tot (addF f i v) n = tot f n + (if i < n then v else 0)
  | 0 => by simp [tot]
  | n + 1 => by
    rw [tot, tot, tot_addF n]
    unfold addF
    by_cases h : n = i
    · subst h; rw [if_pos rfl, if_neg (by omega), if_pos (by omega)]; omega
    · rw [if_neg h]
      by_cases h2 : i < n
      · rw [if_pos h2, if_pos (by omega)]; omega
      · rw [if_neg h2, if_neg (by omega)]; omega
theorem tot_lo {f : Nat → Int} (h : ∀ j, 0 ≤ f j) : ∀ n, 0 ≤ tot f n
  | 0 => Int.le_refl _
  | n + 1 => by rw [tot]; have := tot_lo h n; have := h n; omega
theorem tot_ge {f : Nat → Int} (h : ∀ j, 0 ≤ f j) : ∀ n j, j < n → f j ≤ tot f n
  | n + 1, j, hj => by
    rw [tot]
    by_cases e : j = n
    · subst e; have := tot_lo h j; omega
    · have := tot_ge h n j (by omega); have := h n; omega
theorem addF_lo {f : Nat → Int} {i : Nat} {v : Int} (h : ∀ j, 0 ≤ f j) (hv : 0 ≤ v) (j : Nat) : 0 ≤ addF f i v j := by
  unfold addF; have := h j; split <;> omega
theorem inD_lo {M w r : Nat} {v : Int} {f : Nat → Int} (h : ∀ j, 0 ≤ f j) (hv : 0 ≤ v) : ∀ d j, 0 ≤ inD M w r v f d j
  | 0, j => h j
  | d + 1, j => addF_lo (inD_lo h hv d) hv j
theorem inD_tot {M w r : Nat} {v : Int} {f : Nat → Int} (hM : 0 < M) : ∀ d : Nat, tot (inD M w r v f d) M = tot f M + d * v
  | 0 => by simp [inD]
  | d + 1 => by
    rw [inD, tot_addF, inD_tot hM d, if_pos (Nat.mod_lt _ hM), Int.natCast_add, Int.add_mul]
    simp only [Int.natCast_one, Int.one_mul]
    omega
theorem inR_lo {M w : Nat} {out : Nat → Int} (h : ∀ j, 0 ≤ out j) : ∀ r j, 0 ≤ inR M w out r j
  | 0, _ => Int.le_refl _
  | r + 1, j => inD_lo (inR_lo h r) (h r) 10 j
theorem inR_tot {M w : Nat} {out : Nat → Int} (hM : 0 < M) : ∀ r : Nat, tot (inR M w out r) M = 10 * tot out r
  | 0 => by
    have : ∀ n, tot (fun _ => (0 : Int)) n = 0 := by
      intro n; induction n with
      | zero => rfl
      | succ n ih => rw [tot, ih]; rfl
    rw [inR, this]; rfl
  | r + 1 => by rw [inR, inD_tot hM, inR_tot hM r, tot]; omega
theorem tot_mono {f : Nat → Int} (h : ∀ j, 0 ≤ f j) : ∀ {n m : Nat}, n ≤ m → tot f n ≤ tot f m := by
  intro n m hnm
  obtain ⟨d, rfl⟩ : ∃ d, m = n + d := ⟨m - n, by omega⟩
  clear hnm
  induction d with
  | zero => exact Int.le_refl _
  | succ d ih => rw [← Nat.add_assoc, tot]; have := h (n + d); omega
/-- One text, of no digit, with the rest 0. -/
def e0 : Nat → Int := fun j => if j = 0 then 1 else 0
def dist (M : Nat) (ws : List Int) (out : Nat → Int) : Nat → Int := ws.foldl (fun f w => stp M w.toNat f) out
theorem e0_lo (j : Nat) : 0 ≤ e0 j := by unfold e0; split <;> omega
theorem e0_tot : ∀ n, tot e0 (n + 1) = 1
  | 0 => rfl
  | n + 1 => by rw [tot, e0_tot n]; unfold e0; rw [if_neg (by omega)]; rfl
theorem tab_e0 (n : Nat) : (tab (n + 1) (fun _ => 0)).set (0 : Int).toNat 1 = tab (n + 1) e0 := by
  rw [show (0 : Int).toNat = 0 from rfl, set_tab]; exact tab_congr (fun j _ => rfl)
/-- The place at which a digit is counted. -/
theorem place_eq {M w r d : Nat} (hM : 0 < M) (hM2 : M ≤ 11) (hw : w ≤ 11) (hr : r ≤ 11) (hd : d ≤ 10) : Int.tmod (wrap64 ((r : Int) + wrap64 ((w : Int) * (d : Int)))) (M : Int) = (((r + w * d) % M : Nat) : Int) := by
  have hb : w * d ≤ 11 * 10 := Nat.mul_le_mul hw hd
  rw [← Int.natCast_mul, w64n (by omega), ← Int.natCast_add, w64n (by omega), tmodN]
/-! ## rests -/
theorem rests_l2 {M w r : Nat} {v x18 x19 x27 : Int} {x17 x26 l : List Int} {f : Nat → Int} {res : List Int} (hM : 2 ≤ M) (hM2 : M ≤ 11) (hw : w ≤ 11) (hr : r < M) (hf : ∀ j, 0 ≤ f j) (hv : 0 ≤ v) (hb : tot f M + 10 * v ≤ 1000000000000000000)
    (h : Ev (fun k => impl_Check_rests.l1 k (w : Int) (tab M (inD M w r v f 10)) x17 x18 x19 x26 x27 (wrap64 ((r : Int) + 1)) l (M : Int)) res) : ∀ e d : Nat, d + e = 10 →
    Ev (fun k => impl_Check_rests.l2 k (w : Int) (tab M (inD M w r v f d)) (r : Int) v x17 x18 x19 x26 x27 (r : Int) (d : Int) l (M : Int)) res
  | 0, d, hd => by
    obtain rfl : d = 10 := by omega
    exact Ev.step (fun _ => impl_Check_rests.l2.eq_2 ..) (Ev.neg (by omega) h)
  | e + 1, d, hd => by
    refine Ev.step (fun _ => impl_Check_rests.l2.eq_2 ..) (Ev.pos (by omega) (Ev.neg (by omega) ?_))
    have hp : (r + w * d) % M < M := Nat.mod_lt _ (by omega)
    rw [place_eq (by omega) hM2 hw (by omega) (by omega), Int.toNat_natCast, tab_length, rd_tab hp, set_tab, wsucc (m := 10) (by omega) (by omega)]
    have hg := tot_ge (f := inD M w r v f d) (fun j => inD_lo hf hv d j) M _ hp
    have hg0 := inD_lo (M := M) (w := w) (r := r) hf hv d ((r + w * d) % M)
    have ht := inD_tot (M := M) (w := w) (r := r) (v := v) (f := f) (by omega) d
    have hdv : (d : Int) * v ≤ 9 * v := Int.mul_le_mul_of_nonneg_right (by omega) hv
    rw [w64 (x := inD M w r v f d ((r + w * d) % M) + v) (by omega) (by omega)]
    refine Ev.pos (by omega) (Ev.pos (by omega) ?_)
    rw [tab_congr (g := inD M w r v f (d + 1))]
    · exact rests_l2 hM hM2 hw hr hf hv hb h e (d + 1) (by omega)
    · intro j _
      rw [inD]; unfold addF
      by_cases e1 : j = (r + w * d) % M
      · rw [if_pos e1, if_pos e1, e1]
      · rw [if_neg e1, if_neg e1]
theorem rests_l1 {M w : Nat} {x18 x19 : Int} {x17 l : List Int} {out : Nat → Int} {res : List Int} (hM : 2 ≤ M) (hM2 : M ≤ 11) (hw : w ≤ 11) (hf : ∀ j, 0 ≤ out j) (hb : 10 * tot out M ≤ 1000000000000000000)
    (h : Ev (fun k => impl_Check_rests.l0 k (tab M (stp M w out)) x17 x18 (wrap64 (x19 + 1)) l (M : Int)) res) : ∀ e r : Nat, r + e = M →
    Ev (fun k => impl_Check_rests.l1 k (w : Int) (tab M (inR M w out r)) x17 x18 x19 (tab M out) (M : Int) (r : Int) l (M : Int)) res
  | 0, r, hr => by
    obtain rfl : r = M := by omega
    exact Ev.step (fun _ => impl_Check_rests.l1.eq_2 ..) (Ev.neg (by omega) h)
  | e + 1, r, hr => by
    refine Ev.step (fun _ => impl_Check_rests.l1.eq_2 ..) (Ev.pos (by omega) (Ev.pos (by omega) ?_))
    rw [tab_length, rd_tab (by omega)]
    have ht := inR_tot (M := M) (w := w) (out := out) (by omega) r
    have hm := tot_mono hf (n := r + 1) (m := M) (by omega)
    rw [tot] at hm
    refine Ev.pos (by omega) (rests_l2 (f := inR M w out r) (v := out r) hM hM2 hw (by omega) (fun j => inR_lo hf r j) (hf r) (by omega) ?_ 10 0 (by omega))
    rw [wsucc (m := M) (by omega) (by omega)]
    exact rests_l1 hM hM2 hw hf hb h e (r + 1) (by omega)
theorem stp_tot {M w : Nat} {out : Nat → Int} (hM : 0 < M) : tot (stp M w out) M = 10 * tot out M := inR_tot hM M
theorem rests_l0 {M : Nat} {l ws : List Int} (hM : 2 ≤ M) (hM2 : M ≤ 11) (hws : ∀ x ∈ ws, 0 ≤ x ∧ x ≤ 11) (hl : ws.length ≤ 1048576) : ∀ (t : List Int) (n : Nat) (out : Nat → Int), ws.drop n = t → (∀ j, 0 ≤ out j) → tot out M * 10 ^ t.length ≤ 1000000000000000000 →
    Ev (fun k => impl_Check_rests.l0 k (tab M out) ws (ws.length : Int) (n : Int) l (M : Int)) (tab M (dist M t out))
  | [], n, out, h, _, _ => Ev.step (fun _ => impl_Check_rests.l0.eq_2 ..) (Ev.neg (by have := drop_nil h; omega) (Ev.now _))
  | c :: t, n, out, h, hf, hb => by
    obtain ⟨h1, h2, h3⟩ := drop_cons h
    have hr : rd ws (n : Int) = c := by unfold rd; rw [Int.toNat_natCast, List.getD_eq_getElem?_getD, h2]; rfl
    have hc := hws c (List.mem_of_getElem? h2)
    refine Ev.step (fun _ => impl_Check_rests.l0.eq_2 ..) (Ev.pos (by omega) (Ev.pos (by omega) (Ev.pos (by omega) (Ev.pos (by omega) (Ev.pos (by rw [Int.toNat_natCast]; omega) ?_)))))
    rw [hr, Int.toNat_natCast, rep_tab, tab_length]
    obtain ⟨w, rfl⟩ : ∃ w : Nat, c = (w : Int) := ⟨c.toNat, by omega⟩
    have hp : (1 : Int) ≤ 10 ^ t.length := Int.pow_pos (by omega)
    have ht0 := tot_lo hf M
    rw [List.length_cons, Int.pow_succ, Int.mul_comm (10 ^ t.length) 10, ← Int.mul_assoc] at hb
    have hb1 : tot out M * 10 * 1 ≤ tot out M * 10 * 10 ^ t.length := Int.mul_le_mul_of_nonneg_left hp (by omega)
    refine rests_l1 (w := w) (out := out) hM hM2 (by omega) hf (by omega) ?_ M 0 (by omega)
    rw [wsucc h1 (by omega)]
    refine rests_l0 hM hM2 hws hl t (n + 1) (stp M w out) h3 (fun j => inR_lo hf M j) ?_
    rw [stp_tot (by omega), Int.mul_comm 10]
    exact hb
theorem rests_f (l : List Int) (M : Nat) (ws : List Int) (hM : 2 ≤ M) (hM2 : M ≤ 11) (hws : ∀ x ∈ ws, 0 ≤ x ∧ x ≤ 11) (hl : ws.length ≤ 12) :
    Ev (fun k => impl_Check_rests.f k l (M : Int) ws) (tab M (dist M ws e0)) := by
  obtain ⟨m, rfl⟩ : ∃ m, M = m + 1 := ⟨M - 1, by omega⟩
  refine Ev.pos (by omega) (Ev.pos (by rw [Int.toNat_natCast]; omega) (Ev.sm rfl ?_))
  rw [Int.toNat_natCast, rep_tab, tab_length, tab_e0]
  refine Ev.pos (by omega) (rests_l0 hM hM2 hws (by omega) ws 0 e0 rfl e0_lo ?_)
  rw [e0_tot, Int.one_mul]
  have : (10 : Int) ^ ws.length ≤ 10 ^ 12 := by exact_mod_cast Nat.pow_le_pow_right (by omega) hl
  exact Int.le_trans this (by decide)
/-! ## l1In -/
theorem l1In_f (a b c : Int) : spec_l1In.f a b c = some (decide (b ≤ a) && decide (a ≤ c)) := by
  unfold spec_l1In.f; by_cases h : b ≤ a <;> simp [h]
/-! ## check -/
theorem rd_nat (l : List Int) (n : Nat) : rd l (n : Int) = l.getD n 0 := by unfold rd; rw [Int.toNat_natCast]
theorem tab_self (l : List Int) : tab l.length (fun j => rd l (j : Int)) = l := by
  apply List.ext_getElem?
  intro j
  by_cases hj : j < l.length
  · rw [tab_get hj, List.getElem?_eq_getElem hj, rd_nat, List.getD_eq_getElem?_getD, List.getElem?_eq_getElem hj]; rfl
  · rw [List.getElem?_eq_none (by rw [tab_length]; omega), List.getElem?_eq_none (by omega)]
theorem toIntS_l0 (l : List Int) (hl : l.length ≤ 1048576) : ∀ d n : Nat, n + d = l.length →
    Ev (fun k => laws_toIntS.l0 k l (tab l.length (fun j => if j < n then rd l (j : Int) else 0)) (n : Int)) l
  | 0, n, h => by
    refine Ev.step (fun _ => laws_toIntS.l0.eq_2 ..) (Ev.neg (by omega) (Ev.eq ?_ (Ev.now _)))
    rw [tab_congr (g := fun j => rd l (j : Int)) (fun j hj => if_pos (by omega)), tab_self]
  | d + 1, n, h => by
    refine Ev.step (fun _ => laws_toIntS.l0.eq_2 ..) (Ev.pos (by omega) (Ev.pos (by omega) ?_))
    rw [tab_length, Int.toNat_natCast, set_tab, wsucc (m := l.length) (by omega) (by omega)]
    refine Ev.pos (by omega) ?_
    rw [tab_congr (g := fun j => if j < n + 1 then rd l (j : Int) else 0)]
    · exact toIntS_l0 l hl d (n + 1) (by omega)
    · intro j _
      by_cases e : j = n
      · subst e; rw [if_pos rfl, if_pos (by omega)]
      · rw [if_neg e]
        by_cases e2 : j < n
        · rw [if_pos e2, if_pos (by omega)]
        · rw [if_neg e2, if_neg (by omega)]
theorem toIntS_f (l : List Int) (hl : l.length ≤ 1048576) : Ev (fun k => laws_toIntS.f k l) l := by
  have h := toIntS_l0 l hl l.length 0 (by omega)
  rw [tab_congr (g := fun _ => 0) (fun j _ => if_neg (by omega)), ← rep_tab] at h
  refine Ev.pos (by omega) (Ev.pos (by rw [Int.toNat_natCast]; omega) ?_)
  rw [Int.toNat_natCast]
  exact h
theorem toCheck_f (l : List Int) (m : Int) (hl : l.length ≤ 1048576) : Ev (fun k => laws_toCheck.f k l m) (l, m) := Ev.bind (toIntS_f l hl) (Ev.now _)
theorem eqIntS_l0 (l : List Int) (hl : l.length ≤ 1048576) : ∀ d n : Nat, n + d = l.length → Ev (fun k => laws_eqIntS.l0 k l l (n : Int)) true
  | 0, n, h => Ev.step (fun _ => laws_eqIntS.l0.eq_2 ..) (Ev.neg (by omega) (Ev.now _))
  | d + 1, n, h => by
    refine Ev.step (fun _ => laws_eqIntS.l0.eq_2 ..) (Ev.pos (by omega) (Ev.pos (by omega) (Ev.pos (by omega) (Ev.pos rfl ?_))))
    rw [wsucc (m := l.length) (by omega) (by omega)]
    exact eqIntS_l0 l hl d (n + 1) (by omega)
theorem eqIntS_f (l : List Int) (hl : l.length ≤ 1048576) : Ev (fun k => laws_eqIntS.f k l l) true := Ev.pos rfl (eqIntS_l0 l hl l.length 0 (by omega))
theorem eqCheck_f (l : List Int) (m : Int) (hl : l.length ≤ 1048576) : Ev (fun k => laws_eqCheck.f k l m l m) true := Ev.bind (eqIntS_f l hl) (Ev.pos rfl (Ev.pos rfl (Ev.now _)))
theorem szCheck_f (l : List Int) (m : Int) (hl : l.length ≤ 9223372036854775807) : laws_szCheck.f l m 1048576 = some (if 1048576 - (l.length : Int) < 0 then -1 else 1048576 - (l.length : Int)) := by
  unfold laws_szCheck.f laws_szIntS.f
  rw [w64 (by omega) (by omega)]
  by_cases h : 1048576 - (l.length : Int) < 0
  · rw [if_pos h, if_pos h]; rfl
  · rw [if_neg h, if_neg h, Option.bind_some, if_neg h]
/-! ## slGood -/
/-- Is it a check. -/
def chk (l : List Int) (m : Int) : Bool := ((decide ((2 : Int) ≤ l.length) && decide ((l.length : Int) ≤ 12)) && (decide (2 ≤ m) && decide (m ≤ 11))) && l.all (fun x => decide (0 ≤ x) && decide (x ≤ m - 1))
theorem IsCheck_f (l : List Int) (m : Int) : impl_IsCheck.f l m = some (chk l m) := rfl
theorem chk_t {l : List Int} {m : Int} (h : chk l m = true) : 2 ≤ l.length ∧ l.length ≤ 12 ∧ 2 ≤ m ∧ m ≤ 11 ∧ ∀ x ∈ l, 0 ≤ x ∧ x ≤ m - 1 := by
  unfold chk at h
  simp only [Bool.and_eq_true, decide_eq_true_eq, List.all_eq_true] at h
  obtain ⟨⟨⟨h1, h2⟩, h3, h4⟩, h5⟩ := h
  exact ⟨by omega, by omega, h3, h4, h5⟩
theorem l1All_l0 (l : List Int) (lo hi : Int) (hl : l.length ≤ 1048576) : ∀ (t : List Int) (n : Nat), l.drop n = t →
    Ev (fun k => spec_l1All.l0 k lo hi l (l.length : Int) (n : Int)) (t.all (fun x => decide (lo ≤ x) && decide (x ≤ hi)))
  | [], n, h => Ev.step (fun _ => spec_l1All.l0.eq_2 ..) (Ev.neg (by have := drop_nil h; omega) (Ev.now _))
  | c :: t, n, h => by
    obtain ⟨h1, h2, h3⟩ := drop_cons h
    have hr : rd l (n : Int) = c := by rw [rd_nat, List.getD_eq_getElem?_getD, h2]; rfl
    refine Ev.step (fun _ => spec_l1All.l0.eq_2 ..) (Ev.pos (by omega) (Ev.pos (by omega) (Ev.pos (by omega) (Ev.sm (l1In_f _ _ _) ?_))))
    rw [hr, wsucc h1 (by omega), List.all_cons]
    cases hq : (decide (lo ≤ c) && decide (c ≤ hi)) with
    | true => exact Ev.pos rfl (l1All_l0 l lo hi hl t (n + 1) h3)
    | false => exact Ev.neg (by decide) (Ev.now _)
theorem slGood_f (l : List Int) (m : Int) (hl : l.length ≤ 1048576) : Ev (fun k => spec_slGood.f k l m) (chk l m) := by
  unfold chk
  refine Ev.sm (l1In_f _ _ _) ?_
  cases h1 : (decide ((2 : Int) ≤ l.length) && decide ((l.length : Int) ≤ 12)) with
  | false => exact Ev.neg (by decide) (Ev.now _)
  | true =>
    refine Ev.pos rfl (Ev.sm (l1In_f _ _ _) ?_)
    cases h2 : (decide ((2 : Int) ≤ m) && decide (m ≤ 11)) with
    | false => exact Ev.neg (by decide) (Ev.now _)
    | true =>
      simp only [Bool.and_eq_true, decide_eq_true_eq] at h2
      refine Ev.pos rfl ?_
      rw [w64 (x := m - 1) (by omega) (by omega)]
      exact Ev.bind (l1All_l0 l 0 (m - 1) hl l 0 rfl) (Ev.now _)
/-! ## FnExactCountSound -/
theorem csp_l2 {M w r : Nat} {v x18 x19 x27 : Int} {x17 x26 l : List Int} {f : Nat → Int} {res : Int × Bool} (hM : 2 ≤ M) (hM2 : M ≤ 11) (hw : w ≤ 11) (hr : r < M) (hf : ∀ j, 0 ≤ f j) (hv : 0 ≤ v) (hb : tot f M + 10 * v ≤ 1000000000000000000)
    (h : Ev (fun k => spec_CountSound.l1 k (w : Int) (tab M (inD M w r v f 10)) x17 x18 x19 x26 x27 (wrap64 ((r : Int) + 1)) l (M : Int)) res) : ∀ e d : Nat, d + e = 10 →
    Ev (fun k => spec_CountSound.l2 k (w : Int) (tab M (inD M w r v f d)) (r : Int) v (d : Int) x17 x18 x19 x26 x27 (r : Int) l (M : Int)) res
  | 0, d, hd => by
    obtain rfl : d = 10 := by omega
    exact Ev.step (fun _ => spec_CountSound.l2.eq_2 ..) (Ev.neg (by omega) h)
  | e + 1, d, hd => by
    refine Ev.step (fun _ => spec_CountSound.l2.eq_2 ..) (Ev.pos (by omega) (Ev.neg (by omega) ?_))
    have hp : (r + w * d) % M < M := Nat.mod_lt _ (by omega)
    rw [place_eq (by omega) hM2 hw (by omega) (by omega), Int.toNat_natCast, tab_length, rd_tab hp, set_tab, wsucc (m := 10) (by omega) (by omega)]
    have hg := tot_ge (f := inD M w r v f d) (fun j => inD_lo hf hv d j) M _ hp
    have hg0 := inD_lo (M := M) (w := w) (r := r) hf hv d ((r + w * d) % M)
    have ht := inD_tot (M := M) (w := w) (r := r) (v := v) (f := f) (by omega) d
    have hdv : (d : Int) * v ≤ 9 * v := Int.mul_le_mul_of_nonneg_right (by omega) hv
    rw [w64 (x := inD M w r v f d ((r + w * d) % M) + v) (by omega) (by omega)]
    refine Ev.pos (by omega) (Ev.pos (by omega) ?_)
    rw [tab_congr (g := inD M w r v f (d + 1))]
    · exact csp_l2 hM hM2 hw hr hf hv hb h e (d + 1) (by omega)
    · intro j _
      rw [inD]; unfold addF
      by_cases e1 : j = (r + w * d) % M
      · rw [if_pos e1, if_pos e1, e1]
      · rw [if_neg e1, if_neg e1]
theorem csp_l1 {M w : Nat} {x18 x19 : Int} {x17 l : List Int} {out : Nat → Int} {res : Int × Bool} (hM : 2 ≤ M) (hM2 : M ≤ 11) (hw : w ≤ 11) (hf : ∀ j, 0 ≤ out j) (hb : 10 * tot out M ≤ 1000000000000000000)
    (h : Ev (fun k => spec_CountSound.l0 k (tab M (stp M w out)) x17 x18 (wrap64 (x19 + 1)) l (M : Int)) res) : ∀ e r : Nat, r + e = M →
    Ev (fun k => spec_CountSound.l1 k (w : Int) (tab M (inR M w out r)) x17 x18 x19 (tab M out) (M : Int) (r : Int) l (M : Int)) res
  | 0, r, hr => by
    obtain rfl : r = M := by omega
    exact Ev.step (fun _ => spec_CountSound.l1.eq_2 ..) (Ev.neg (by omega) h)
  | e + 1, r, hr => by
    refine Ev.step (fun _ => spec_CountSound.l1.eq_2 ..) (Ev.pos (by omega) (Ev.pos (by omega) ?_))
    rw [tab_length, rd_tab (by omega)]
    have ht := inR_tot (M := M) (w := w) (out := out) (by omega) r
    have hm := tot_mono hf (n := r + 1) (m := M) (by omega)
    rw [tot] at hm
    refine Ev.pos (by omega) (csp_l2 (f := inR M w out r) (v := out r) hM hM2 hw (by omega) (fun j => inR_lo hf r j) (hf r) (by omega) ?_ 10 0 (by omega))
    rw [wsucc (m := M) (by omega) (by omega)]
    exact csp_l1 hM hM2 hw hf hb h e (r + 1) (by omega)
theorem csp_l0 {M : Nat} {l ws : List Int} (hM : 2 ≤ M) (hM2 : M ≤ 11) (hws : ∀ x ∈ ws, 0 ≤ x ∧ x ≤ 11) (hl : ws.length ≤ 1048576) : ∀ (t : List Int) (n : Nat) (out : Nat → Int), ws.drop n = t → (∀ j, 0 ≤ out j) → tot out M * 10 ^ t.length ≤ 1000000000000000000 →
    Ev (fun k => spec_CountSound.l0 k (tab M out) ws (ws.length : Int) (n : Int) l (M : Int)) (dist M t out 0, true)
  | [], n, out, h, _, _ => by
    refine Ev.step (fun _ => spec_CountSound.l0.eq_2 ..) (Ev.neg (by have := drop_nil h; omega) ?_)
    rw [tab_length]
    exact Ev.pos (by omega) (Ev.eq (by rw [show rd (tab M out) 0 = out 0 from rd_tab (i := 0) (by omega)]; rfl) (Ev.now _))
  | c :: t, n, out, h, hf, hb => by
    obtain ⟨h1, h2, h3⟩ := drop_cons h
    have hr : rd ws (n : Int) = c := by unfold rd; rw [Int.toNat_natCast, List.getD_eq_getElem?_getD, h2]; rfl
    have hc := hws c (List.mem_of_getElem? h2)
    refine Ev.step (fun _ => spec_CountSound.l0.eq_2 ..) (Ev.pos (by omega) (Ev.pos (by omega) (Ev.pos (by omega) (Ev.pos (by omega) (Ev.pos (by rw [Int.toNat_natCast]; omega) ?_)))))
    rw [hr, Int.toNat_natCast, rep_tab, tab_length]
    obtain ⟨w, rfl⟩ : ∃ w : Nat, c = (w : Int) := ⟨c.toNat, by omega⟩
    have hp : (1 : Int) ≤ 10 ^ t.length := Int.pow_pos (by omega)
    have ht0 := tot_lo hf M
    rw [List.length_cons, Int.pow_succ, Int.mul_comm (10 ^ t.length) 10, ← Int.mul_assoc] at hb
    have hb1 : tot out M * 10 * 1 ≤ tot out M * 10 * 10 ^ t.length := Int.mul_le_mul_of_nonneg_left hp (by omega)
    refine csp_l1 (w := w) (out := out) hM hM2 (by omega) hf (by omega) ?_ M 0 (by omega)
    rw [wsucc h1 (by omega)]
    refine csp_l0 hM hM2 hws hl t (n + 1) (stp M w out) h3 (fun j => inR_lo hf M j) ?_
    rw [stp_tot (by omega), Int.mul_comm 10]
    exact hb
theorem specCS_f (l : List Int) (m : Int) (hl : l.length ≤ 1048576) : Ev (fun k => spec_CountSound.f k l m) (if chk l m = true then (dist m.toNat l e0 0, true) else (0, false)) := by
  refine Ev.bind (slGood_f l m hl) ?_
  cases hc : chk l m with
  | false => exact Ev.neg (by decide) (Ev.now _)
  | true =>
    obtain ⟨h1, h2, h3, h4, h5⟩ := chk_t hc
    obtain ⟨M, rfl⟩ : ∃ M : Nat, m = ((M + 1 : Nat) : Int) := ⟨m.toNat - 1, by omega⟩
    refine Ev.pos rfl (Ev.pos (by omega) (Ev.pos (by rw [Int.toNat_natCast]; omega) (Ev.sm rfl ?_)))
    rw [Int.toNat_natCast, rep_tab, tab_length, tab_e0]
    refine Ev.pos (by omega) (csp_l0 (by omega) (by omega) (fun x hx => by have := h5 x hx; omega) (by omega) l 0 e0 rfl e0_lo ?_)
    rw [e0_tot, Int.one_mul]
    have : (10 : Int) ^ l.length ≤ 10 ^ 12 := by exact_mod_cast Nat.pow_le_pow_right (by omega) h2
    exact Int.le_trans this (by decide)
theorem implCS_f (l : List Int) (m : Int) : Ev (fun k => impl_CountSound.f k l m) (if chk l m = true then (dist m.toNat l e0 0, true) else (0, false)) := by
  refine Ev.sm (IsCheck_f l m) ?_
  cases hc : chk l m with
  | false => exact Ev.neg (by decide) (Ev.now _)
  | true =>
    obtain ⟨h1, h2, h3, h4, h5⟩ := chk_t hc
    obtain ⟨M, rfl⟩ : ∃ M : Nat, m = (M : Int) := ⟨m.toNat, by omega⟩
    refine Ev.pos rfl (Ev.bind (rests_f l M l (by omega) (by omega) (fun x hx => by have := h5 x hx; omega) h2) ?_)
    rw [tab_length, Int.toNat_natCast]
    exact Ev.pos (by omega) (Ev.eq (by rw [show rd (tab M (dist M l e0)) 0 = dist M l e0 0 from rd_tab (i := 0) (by omega)]; rfl) (Ev.now _))
theorem FnExactCountSound : laws_FnExactCountSound.Pure := by
  intro l m hl _ _
  refine Ev.rounds (g := fun k => laws_FnExactCountSound.f k l m) ?_
  refine Ev.sm (szCheck_f l m hl) ?_
  by_cases h : 1048576 - (l.length : Int) < 0
  · rw [if_pos h]; exact Ev.pos (by decide) (Ev.now _)
  · rw [if_neg h]
    have hl' : l.length ≤ 1048576 := by omega
    refine Ev.neg h (Ev.bind (toCheck_f l m hl') (Ev.bind (specCS_f l m hl') (Ev.bind (toCheck_f l m hl') (Ev.bind (implCS_f l m) ?_))))
    refine Ev.pos rfl (Ev.step (fun _ => laws_FnExactCountSound.j0.eq_2 ..) (Ev.neg (by simp) (Ev.bind (toCheck_f l m hl') (Ev.bind (eqCheck_f l m hl') (Ev.pos rfl (Ev.now _))))))

end Go.Proofs.Ythkjedplcebpjab.Pure
