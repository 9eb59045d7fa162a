/- The plain law of FnExactBestWeights: at all arguments the printed function of the law answers true after some number of rounds. Conditions: none beyond the bounds that the printed statement itself bears. -/
import Derived.Test.YtkbbmkbkpkmdkacQFnExactBestWeightsx5
namespace Go.Proofs.Ytkbbmkbkpkmdkac.Pure
open Go.RowKit Go.Proofs.Ytkbbmkbkpkmdkac.QFnExactBestWeights Go.Proofs.YtkbbmkbkpkmdkacW.PrintWords Go.Proofs.YtkbbmkbkpkmdkacW.PrintLast Go.Proofs.Ytkbbmkbkpkmdkac.Ext
set_option linter.unusedVariables false
open Go.Proofs.Ytkbbmkbkpkmdkac.QA1
theorem w64 {x : Int} (h1 : -9223372036854775808 ≤ x) (h2 : x ≤ 9223372036854775807) : wrap64 x = x := by unfold wrap64; omega
theorem w64n {x : Nat} (h2 : x ≤ 9223372036854775807) : wrap64 (x : Int) = (x : Int) := w64 (by omega) (by omega)
theorem tmodN (a b : Nat) : Int.tmod (a : Int) (b : Int) = ((a % b : Nat) : Int) := rfl
theorem Ev.pos {α : Type} {c : Prop} [Decidable c] {f g : Nat → Option α} {r : α} (h : c) (e : Ev f r) : Ev (fun k => if c then f k else g k) r := by simpa only [if_pos h] using e
theorem Ev.neg {α : Type} {c : Prop} [Decidable c] {f g : Nat → Option α} {r : α} (h : ¬ c) (e : Ev g r) : Ev (fun k => if c then f k else g k) r := by simpa only [if_neg h] using e
theorem Ev.sm {α β : Type} {f : Nat → α → Option β} {a : α} {o : Option α} {r : β} (h : o = some a) (e : Ev (fun n => f n a) r) : Ev (fun n => o.bind (f n)) r := by subst h; simpa only [Option.bind_some] using e
theorem Ev.eq {α : Type} {f : Nat → Option α} {r r' : α} (h : r' = r) (e : Ev f r) : Ev f r' := h ▸ e
/-- The rest of a list from a place on. -/
theorem drop_cons {α : Type} {l : List α} {n : Nat} {c : α} {t : List α} (h : l.drop n = c :: t) : n < l.length ∧ l[n]? = some c ∧ l.drop (n + 1) = t := by
 have h1 : n < l.length := by
  by_cases h1 : n < l.length
  ·exact h1
  ·rw [List.drop_eq_nil_of_le (by omega)] at h; cases h
 rw [List.drop_eq_getElem_cons h1] at h
 simp only [List.cons.injEq] at h
 exact ⟨h1, by rw [List.getElem?_eq_getElem h1, h.1], h.2⟩
theorem drop_nil {α : Type} {l : List α} {n : Nat} (h : l.drop n = []) : l.length ≤ n := by simpa using h
theorem wsucc {n m : Nat} (h : n < m) (hm : m ≤ 140737488355328) : wrap64 ((n : Int) + 1) = ((n + 1 : Nat) : Int) := by rw [w64 (by omega) (by omega)]; rfl
def tab (n : Nat) (f : Nat → Int) : List Int := (List.range n).map f
theorem tab_length (n : Nat) (f : Nat → Int) : (tab n f).length = n := by simp [tab]
theorem tab_get {n : Nat} {f : Nat → Int} {i : Nat} (h : i < n) : (tab n f)[i]? = some (f i) := by simp [tab, h]
theorem rd_tab {n : Nat} {f : Nat → Int} {i : Nat} (h : i < n) : rd (tab n f) (i : Int) = f i := by
 unfold rd; rw [Int.toNat_natCast, List.getD_eq_getElem?_getD, tab_get h]; rfl
theorem tab_congr {n : Nat} {f g : Nat → Int} (h : ∀ j, j < n → f j = g j) : tab n f = tab n g := by
 unfold tab; exact List.map_congr_left (fun j hj => h j (List.mem_range.1 hj))
theorem set_tab {n : Nat} {f : Nat → Int} (i : Nat) (v : Int) : (tab n f).set i v = tab n (fun j => if j = i then v else f j) := by
 apply List.ext_getElem?
 intro j
 rw [List.getElem?_set]
 by_cases hj : j < n
 ·rw [tab_get (f := fun j => if j = i then v else f j) hj]
  by_cases e : i = j
  ·subst e; rw [if_pos rfl, if_pos (by rw [tab_length]; exact hj), if_pos rfl]
  ·rw [if_neg e, tab_get hj, if_neg (fun h => e h.symm)]
 ·have h1 : (tab n f)[j]? = none := List.getElem?_eq_none (by rw [tab_length]; omega)
  have h2 : (tab n (fun j => if j = i then v else f j))[j]? = none := List.getElem?_eq_none (by rw [tab_length]; omega)
  rw [h1, h2]
  by_cases e : i = j
  ·subst e; rw [if_pos rfl, if_neg (by rw [tab_length]; exact hj)]
  ·rw [if_neg e]
theorem rep_tab (n : Nat) : List.replicate n (0 : Int) = tab n (fun _ => 0) := by
 apply List.ext_getElem?
 intro j
 by_cases hj : j < n
 ·rw [tab_get hj]; simp [hj]
 ·rw [List.getElem?_eq_none (by simp; omega), List.getElem?_eq_none (by rw [tab_length]; omega)]
def addF (f : Nat → Int) (i : Nat) (v : Int) : Nat → Int := fun j => if j = i then f j + v else f j
def inD (M w r : Nat) (v : Int) (f : Nat → Int) : Nat → (Nat → Int)
 | 0 => f
 | d + 1 => addF (inD M w r v f d) ((r + w * d) % M) v
def inR (M w : Nat) (out : Nat → Int) : Nat → (Nat → Int)
 | 0 => fun _ => 0
 | r + 1 => inD M w r (out r) (inR M w out r) 10
def stp (M w : Nat) (out : Nat → Int) : Nat → Int := inR M w out M
def tot (f : Nat → Int) : Nat → Int
 | 0 => 0
 | n + 1 => tot f n + f n
theorem tot_addF {f : Nat → Int} {i : Nat} {v : Int} : ∀ n, tot (addF f i v) n = tot f n + (if i < n then v else 0)
 | 0 => by simp [tot]
 | n + 1 => by
  rw [tot, tot, tot_addF n]
  unfold addF
  by_cases h : n = i
  ·subst h; rw [if_pos rfl, if_neg (by omega), if_pos (by omega)]; omega
  ·rw [if_neg h]
   by_cases h2 : i < n
   ·rw [if_pos h2, if_pos (by omega)]; omega
   ·rw [if_neg h2, if_neg (by omega)]; omega
theorem tot_lo {f : Nat → Int} (h : ∀ j, 0 ≤ f j) : ∀ n, 0 ≤ tot f n
 | 0 => Int.le_refl _
 | n + 1 => by rw [tot]; have := tot_lo h n; have := h n; omega
theorem tot_ge {f : Nat → Int} (h : ∀ j, 0 ≤ f j) : ∀ n j, j < n → f j ≤ tot f n
 | n + 1, j, hj => by
  rw [tot]
  by_cases e : j = n
  ·subst e; have := tot_lo h j; omega
  ·have := tot_ge h n j (by omega); have := h n; omega
theorem addF_lo {f : Nat → Int} {i : Nat} {v : Int} (h : ∀ j, 0 ≤ f j) (hv : 0 ≤ v) (j : Nat) : 0 ≤ addF f i v j := by
 unfold addF; have := h j; split <;> omega
theorem inD_lo {M w r : Nat} {v : Int} {f : Nat → Int} (h : ∀ j, 0 ≤ f j) (hv : 0 ≤ v) : ∀ d j, 0 ≤ inD M w r v f d j
 | 0, j => h j
 | d + 1, j => addF_lo (inD_lo h hv d) hv j
theorem inD_tot {M w r : Nat} {v : Int} {f : Nat → Int} (hM : 0 < M) : ∀ d : Nat, tot (inD M w r v f d) M = tot f M + d * v
 | 0 => by simp [inD]
 | d + 1 => by
  rw [inD, tot_addF, inD_tot hM d, if_pos (Nat.mod_lt _ hM), Int.natCast_add, Int.add_mul]
  simp only [Int.natCast_one, Int.one_mul]
  omega
theorem inR_lo {M w : Nat} {out : Nat → Int} (h : ∀ j, 0 ≤ out j) : ∀ r j, 0 ≤ inR M w out r j
 | 0, _ => Int.le_refl _
 | r + 1, j => inD_lo (inR_lo h r) (h r) 10 j
theorem inR_tot {M w : Nat} {out : Nat → Int} (hM : 0 < M) : ∀ r : Nat, tot (inR M w out r) M = 10 * tot out r
 | 0 => by
  have : ∀ n, tot (fun _ => (0 : Int)) n = 0 := by
   intro n; induction n with
   | zero => rfl
   | succ n ih => rw [tot, ih]; rfl
  rw [inR, this]; rfl
 | r + 1 => by rw [inR, inD_tot hM, inR_tot hM r, tot]; omega
theorem tot_mono {f : Nat → Int} (h : ∀ j, 0 ≤ f j) : ∀ {n m : Nat}, n ≤ m → tot f n ≤ tot f m := by
 intro n m hnm
 obtain ⟨d, rfl⟩ : ∃ d, m = n + d := ⟨m - n, by omega⟩
 clear hnm
 induction d with
 | zero => exact Int.le_refl _
 | succ d ih => rw [← Nat.add_assoc, tot]; have := h (n + d); omega
/-- One text, of no digit, with the rest 0. -/
def e0 : Nat → Int := fun j => if j = 0 then 1 else 0
def dist (M : Nat) (ws : List Int) (out : Nat → Int) : Nat → Int := ws.foldl (fun f w => stp M w.toNat f) out
theorem e0_lo (j : Nat) : 0 ≤ e0 j := by unfold e0; split <;> omega
theorem e0_tot : ∀ n, tot e0 (n + 1) = 1
 | 0 => rfl
 | n + 1 => by rw [tot, e0_tot n]; unfold e0; rw [if_neg (by omega)]; rfl
theorem tab_e0 (n : Nat) : (tab (n + 1) (fun _ => 0)).set (0 : Int).toNat 1 = tab (n + 1) e0 := by
 rw [show (0 : Int).toNat = 0 from rfl, set_tab]; exact tab_congr (fun j _ => rfl)
/-- The place at which a digit is counted. -/
theorem place_eq {M w r d : Nat} (hM : 0 < M) (hM2 : M ≤ 11) (hw : w ≤ 11) (hr : r ≤ 11) (hd : d ≤ 10) : Int.tmod (wrap64 ((r : Int) + wrap64 ((w : Int) * (d : Int)))) (M : Int) = (((r + w * d) % M : Nat) : Int) := by
 have hb : w * d ≤ 11 * 10 := Nat.mul_le_mul hw hd
 rw [← Int.natCast_mul, w64n (by omega), ← Int.natCast_add, w64n (by omega), tmodN]
theorem rests_l2 {M w r : Nat} {v x18 x19 x27 : Int} {x17 x26 l : List Int} {f : Nat → Int} {res : List Int} (hM : 2 ≤ M) (hM2 : M ≤ 11) (hw : w ≤ 11) (hr : r < M) (hf : ∀ j, 0 ≤ f j) (hv : 0 ≤ v) (hb : tot f M + 10 * v ≤ 1000000000000000000)
  (h : Ev (fun k => impl_Check_rests.l1 k (w : Int) (tab M (inD M w r v f 10)) x17 x18 x19 x26 x27 (wrap64 ((r : Int) + 1)) l (M : Int)) res) : ∀ e d : Nat, d + e = 10 →
  Ev (fun k => impl_Check_rests.l2 k (w : Int) (tab M (inD M w r v f d)) (r : Int) v x17 x18 x19 x26 x27 (r : Int) (d : Int) l (M : Int)) res
 | 0, d, hd => by
  obtain rfl : d = 10 := by omega
  exact Ev.step (fun _ => impl_Check_rests.l2.eq_2 ..) (Ev.neg (by omega) h)
 | e + 1, d, hd => by
  refine Ev.step (fun _ => impl_Check_rests.l2.eq_2 ..) (Ev.pos (by omega) (Ev.neg (by omega) ?_))
  have hp : (r + w * d) % M < M := Nat.mod_lt _ (by omega)
  rw [place_eq (by omega) hM2 hw (by omega) (by omega), Int.toNat_natCast, tab_length, rd_tab hp, set_tab, wsucc (m := 10) (by omega) (by omega)]
  have hg := tot_ge (f := inD M w r v f d) (fun j => inD_lo hf hv d j) M _ hp
  have hg0 := inD_lo (M := M) (w := w) (r := r) hf hv d ((r + w * d) % M)
  have ht := inD_tot (M := M) (w := w) (r := r) (v := v) (f := f) (by omega) d
  have hdv : (d : Int) * v ≤ 9 * v := Int.mul_le_mul_of_nonneg_right (by omega) hv
  rw [w64 (x := inD M w r v f d ((r + w * d) % M) + v) (by omega) (by omega)]
  refine Ev.pos (by omega) (Ev.pos (by omega) ?_)
  rw [tab_congr (g := inD M w r v f (d + 1))]
  ·exact rests_l2 hM hM2 hw hr hf hv hb h e (d + 1) (by omega)
  ·intro j _
   rw [inD]; unfold addF
   by_cases e1 : j = (r + w * d) % M
   ·rw [if_pos e1, if_pos e1, e1]
   ·rw [if_neg e1, if_neg e1]
theorem rests_l1 {M w : Nat} {x18 x19 : Int} {x17 l : List Int} {out : Nat → Int} {res : List Int} (hM : 2 ≤ M) (hM2 : M ≤ 11) (hw : w ≤ 11) (hf : ∀ j, 0 ≤ out j) (hb : 10 * tot out M ≤ 1000000000000000000)
  (h : Ev (fun k => impl_Check_rests.l0 k (tab M (stp M w out)) x17 x18 (wrap64 (x19 + 1)) l (M : Int)) res) : ∀ e r : Nat, r + e = M →
  Ev (fun k => impl_Check_rests.l1 k (w : Int) (tab M (inR M w out r)) x17 x18 x19 (tab M out) (M : Int) (r : Int) l (M : Int)) res
 | 0, r, hr => by
  obtain rfl : r = M := by omega
  exact Ev.step (fun _ => impl_Check_rests.l1.eq_2 ..) (Ev.neg (by omega) h)
 | e + 1, r, hr => by
  refine Ev.step (fun _ => impl_Check_rests.l1.eq_2 ..) (Ev.pos (by omega) (Ev.pos (by omega) ?_))
  rw [tab_length, rd_tab (by omega)]
  have ht := inR_tot (M := M) (w := w) (out := out) (by omega) r
  have hm := tot_mono hf (n := r + 1) (m := M) (by omega)
  rw [tot] at hm
  refine Ev.pos (by omega) (rests_l2 (f := inR M w out r) (v := out r) hM hM2 hw (by omega) (fun j => inR_lo hf r j) (hf r) (by omega) ?_ 10 0 (by omega))
  rw [wsucc (m := M) (by omega) (by omega)]
  exact rests_l1 hM hM2 hw hf hb h e (r + 1) (by omega)
theorem stp_tot {M w : Nat} {out : Nat → Int} (hM : 0 < M) : tot (stp M w out) M = 10 * tot out M := inR_tot hM M
theorem rests_l0 {M : Nat} {l ws : List Int} (hM : 2 ≤ M) (hM2 : M ≤ 11) (hws : ∀ x ∈ ws, 0 ≤ x ∧ x ≤ 11) (hl : ws.length ≤ 1048576) : ∀ (t : List Int) (n : Nat) (out : Nat → Int), ws.drop n = t → (∀ j, 0 ≤ out j) → tot out M * 10 ^ t.length ≤ 1000000000000000000 →
  Ev (fun k => impl_Check_rests.l0 k (tab M out) ws (ws.length : Int) (n : Int) l (M : Int)) (tab M (dist M t out))
 | [], n, out, h, _, _ => Ev.step (fun _ => impl_Check_rests.l0.eq_2 ..) (Ev.neg (by have := drop_nil h; omega) (Ev.now _))
 | c :: t, n, out, h, hf, hb => by
  obtain ⟨h1, h2, h3⟩ := drop_cons h
  have hr : rd ws (n : Int) = c := by unfold rd; rw [Int.toNat_natCast, List.getD_eq_getElem?_getD, h2]; rfl
  have hc := hws c (List.mem_of_getElem? h2)
  refine Ev.step (fun _ => impl_Check_rests.l0.eq_2 ..) (Ev.pos (by omega) (Ev.pos (by omega) (Ev.pos (by omega) (Ev.pos (by omega) (Ev.pos (by rw [Int.toNat_natCast]; omega) ?_)))))
  rw [hr, Int.toNat_natCast, rep_tab, tab_length]
  obtain ⟨w, rfl⟩ : ∃ w : Nat, c = (w : Int) := ⟨c.toNat, by omega⟩
  have hp : (1 : Int) ≤ 10 ^ t.length := Int.pow_pos (by omega)
  have ht0 := tot_lo hf M
  rw [List.length_cons, Int.pow_succ, Int.mul_comm (10 ^ t.length) 10, ← Int.mul_assoc] at hb
  have hb1 : tot out M * 10 * 1 ≤ tot out M * 10 * 10 ^ t.length := Int.mul_le_mul_of_nonneg_left hp (by omega)
  refine rests_l1 (w := w) (out := out) hM hM2 (by omega) hf (by omega) ?_ M 0 (by omega)
  rw [wsucc h1 (by omega)]
  refine rests_l0 hM hM2 hws hl t (n + 1) (stp M w out) h3 (fun j => inR_lo hf M j) ?_
  rw [stp_tot (by omega), Int.mul_comm 10]
  exact hb
theorem rests_f (l : List Int) (M : Nat) (ws : List Int) (hM : 2 ≤ M) (hM2 : M ≤ 11) (hws : ∀ x ∈ ws, 0 ≤ x ∧ x ≤ 11) (hl : ws.length ≤ 12) :
  Ev (fun k => impl_Check_rests.f k l (M : Int) ws) (tab M (dist M ws e0)) := by
 obtain ⟨m, rfl⟩ : ∃ m, M = m + 1 := ⟨M - 1, by omega⟩
 refine Ev.pos (by omega) (Ev.pos (by rw [Int.toNat_natCast]; omega) (Ev.sm rfl ?_))
 rw [Int.toNat_natCast, rep_tab, tab_length, tab_e0]
 refine Ev.pos (by omega) (rests_l0 hM hM2 hws (by omega) ws 0 e0 rfl e0_lo ?_)
 rw [e0_tot, Int.one_mul]
 have : (10 : Int) ^ ws.length ≤ 10 ^ 12 := by exact_mod_cast Nat.pow_le_pow_right (by omega) hl
 exact Int.le_trans this (by decide)
/-- The sums that digits, each times its weight, can have. -/
def Sums : List Int → Nat → Prop
 | [], t => t = 0
 | w :: ws, t => ∃ d, d < 10 ∧ ∃ t', Sums ws t' ∧ t = w.toNat * d + t'
theorem inD_pos {M w r : Nat} {v : Int} {f : Nat → Int} (hf : ∀ j, 0 ≤ f j) (hv : 0 ≤ v) (j : Nat) : ∀ d, 0 < inD M w r v f d j ↔ 0 < f j ∨ (0 < v ∧ ∃ d', d' < d ∧ (r + w * d') % M = j)
 | 0 => by
  rw [inD]
  exact ⟨.inl, fun h => h.elim id (fun h => by obtain ⟨_, d', h1, _⟩ := h; omega)⟩
 | d + 1 => by
  have ih := inD_pos hf hv j d (M := M) (w := w) (r := r)
  have h0 := inD_lo (M := M) (w := w) (r := r) hf hv d j
  rw [inD]; unfold addF
  by_cases e : j = (r + w * d) % M
  ·rw [if_pos e]
   constructor
   ·intro h
    by_cases hv0 : 0 < v
    ·exact .inr ⟨hv0, d, by omega, e.symm⟩
    ·have : 0 < inD M w r v f d j := by omega
     rcases ih.1 this with h1 | ⟨h1, _⟩
     ·exact .inl h1
     ·omega
   ·intro h
    rcases h with h | ⟨h, _⟩
    ·have := ih.2 (.inl h); omega
    ·omega
  ·rw [if_neg e, ih]
   constructor
   ·intro h
    rcases h with h | ⟨h1, d', h2, h3⟩
    ·exact .inl h
    ·exact .inr ⟨h1, d', by omega, h3⟩
   ·intro h
    rcases h with h | ⟨h1, d', h2, h3⟩
    ·exact .inl h
    ·refine .inr ⟨h1, d', ?_, h3⟩
     by_cases e2 : d' = d
     ·subst e2; exact absurd h3.symm e
     ·omega
theorem inR_pos {M w : Nat} {out : Nat → Int} (hf : ∀ j, 0 ≤ out j) (j : Nat) : ∀ r, 0 < inR M w out r j ↔ ∃ r', r' < r ∧ 0 < out r' ∧ ∃ d, d < 10 ∧ (r' + w * d) % M = j
 | 0 => by
  exact ⟨fun h => absurd (show (0 : Int) < 0 from h) (by omega), fun h => by obtain ⟨r', h1, _⟩ := h; omega⟩
 | r + 1 => by
  rw [inR, inD_pos (inR_lo hf r) (hf r), inR_pos hf j r]
  constructor
  ·intro h
   rcases h with ⟨r', h1, h2⟩ | ⟨h1, d, h2, h3⟩
   ·exact ⟨r', by omega, h2⟩
   ·exact ⟨r, by omega, h1, d, h2, h3⟩
  ·intro ⟨r', h1, h2, d, h3, h4⟩
   by_cases e : r' = r
   ·subst e; exact .inr ⟨h2, d, h3, h4⟩
   ·exact .inl ⟨r', by omega, h2, d, h3, h4⟩
theorem dist_pos {M : Nat} (hM : 0 < M) : ∀ (ws : List Int) (out : Nat → Int), (∀ j, 0 ≤ out j) → ∀ j, j < M → (0 < dist M ws out j ↔ ∃ r, r < M ∧ 0 < out r ∧ ∃ t, Sums ws t ∧ (r + t) % M = j)
 | [], out, hf, j, hj => by
  show 0 < out j ↔ _
  constructor
  ·intro h; exact ⟨j, hj, h, 0, rfl, Nat.mod_eq_of_lt hj⟩
  ·intro ⟨r, h1, h2, t, h3, h4⟩
   have h3' : t = 0 := h3
   rw [h3', Nat.add_zero, Nat.mod_eq_of_lt h1] at h4
   rw [← h4]; exact h2
 | w :: ws, out, hf, j, hj => by
  show 0 < dist M ws (stp M w.toNat out) j ↔ _
  rw [dist_pos hM ws (stp M w.toNat out) (fun j => inR_lo hf M j) j hj]
  constructor
  ·intro ⟨r, h1, h2, t, h3, h4⟩
   obtain ⟨r', g1, g2, d, g3, g4⟩ := (inR_pos hf r M).1 h2
   refine ⟨r', g1, g2, w.toNat * d + t, ⟨d, g3, t, h3, rfl⟩, ?_⟩
   rw [← h4, ← g4, Nat.mod_add_mod, Nat.add_assoc]
  ·intro ⟨r, h1, h2, t, ⟨d, h3, t', h4, h5⟩, h6⟩
   refine ⟨(r + w.toNat * d) % M, Nat.mod_lt _ hM, (inR_pos hf _ M).2 ⟨r, h1, h2, d, h3, rfl⟩, t', h4, ?_⟩
   rw [Nat.mod_add_mod, ← h6, h5, Nat.add_assoc]
def addB (f : Nat → Bool) (i : Nat) : Nat → Bool := fun j => if j = i then true else f j
def inDB (M w r : Nat) (f : Nat → Bool) : Nat → (Nat → Bool)
 | 0 => f
 | d + 1 => addB (inDB M w r f d) ((r + w * d) % M)
def inRB (M w : Nat) (can : Nat → Bool) : Nat → (Nat → Bool)
 | 0 => fun _ => false
 | r + 1 => if can r = true then inDB M w r (inRB M w can r) 10 else inRB M w can r
def stpB (M w : Nat) (can : Nat → Bool) : Nat → Bool := inRB M w can M
def distB (M : Nat) (ws : List Int) (can : Nat → Bool) : Nat → Bool := ws.foldl (fun f w => stpB M w.toNat f) can
theorem inDB_t {M w r : Nat} {f : Nat → Bool} (j : Nat) : ∀ d, inDB M w r f d j = true ↔ f j = true ∨ ∃ d', d' < d ∧ (r + w * d') % M = j
 | 0 => by
  rw [inDB]
  exact ⟨.inl, fun h => h.elim id (fun h => by obtain ⟨d', h1, _⟩ := h; omega)⟩
 | d + 1 => by
  have ih := inDB_t j d (M := M) (w := w) (r := r) (f := f)
  rw [inDB]; unfold addB
  by_cases e : j = (r + w * d) % M
  ·rw [if_pos e]
   exact ⟨fun _ => .inr ⟨d, by omega, e.symm⟩, fun _ => rfl⟩
  ·rw [if_neg e, ih]
   constructor
   ·intro h
    rcases h with h | ⟨d', h2, h3⟩
    ·exact .inl h
    ·exact .inr ⟨d', by omega, h3⟩
   ·intro h
    rcases h with h | ⟨d', h2, h3⟩
    ·exact .inl h
    ·refine .inr ⟨d', ?_, h3⟩
     by_cases e2 : d' = d
     ·subst e2; exact absurd h3.symm e
     ·omega
theorem inRB_t {M w : Nat} {can : Nat → Bool} (j : Nat) : ∀ r, inRB M w can r j = true ↔ ∃ r', r' < r ∧ can r' = true ∧ ∃ d, d < 10 ∧ (r' + w * d) % M = j
 | 0 => by
  rw [inRB]
  exact ⟨fun h => by simp at h, fun h => by obtain ⟨r', h1, _⟩ := h; omega⟩
 | r + 1 => by
  have ih := inRB_t j r (M := M) (w := w) (can := can)
  rw [inRB]
  by_cases hc : can r = true
  ·rw [if_pos hc, inDB_t, ih]
   constructor
   ·intro h
    rcases h with ⟨r', h1, h2⟩ | ⟨d, h2, h3⟩
    ·exact ⟨r', by omega, h2⟩
    ·exact ⟨r, by omega, hc, d, h2, h3⟩
   ·intro ⟨r', h1, h2, d, h3, h4⟩
    by_cases e : r' = r
    ·subst e; exact .inr ⟨d, h3, h4⟩
    ·exact .inl ⟨r', by omega, h2, d, h3, h4⟩
  ·rw [if_neg hc, ih]
   constructor
   ·intro ⟨r', h1, h2⟩; exact ⟨r', by omega, h2⟩
   ·intro ⟨r', h1, h2, h3⟩
    by_cases e : r' = r
    ·subst e; exact absurd h2 hc
    ·exact ⟨r', by omega, h2, h3⟩
theorem distB_t {M : Nat} (hM : 0 < M) : ∀ (ws : List Int) (can : Nat → Bool) (j : Nat), j < M → (distB M ws can j = true ↔ ∃ r, r < M ∧ can r = true ∧ ∃ t, Sums ws t ∧ (r + t) % M = j)
 | [], can, j, hj => by
  show can j = true ↔ _
  constructor
  ·intro h; exact ⟨j, hj, h, 0, rfl, Nat.mod_eq_of_lt hj⟩
  ·intro ⟨r, h1, h2, t, h3, h4⟩
   have h3' : t = 0 := h3
   rw [h3', Nat.add_zero, Nat.mod_eq_of_lt h1] at h4
   rw [← h4]; exact h2
 | w :: ws, can, j, hj => by
  show distB M ws (stpB M w.toNat can) j = true ↔ _
  rw [distB_t hM ws _ j hj]
  constructor
  ·intro ⟨r, h1, h2, t, h3, h4⟩
   obtain ⟨r', g1, g2, d, g3, g4⟩ := (inRB_t r M).1 h2
   refine ⟨r', g1, g2, w.toNat * d + t, ⟨d, g3, t, h3, rfl⟩, ?_⟩
   rw [← h4, ← g4, Nat.mod_add_mod, Nat.add_assoc]
  ·intro ⟨r, h1, h2, t, ⟨d, h3, t', h4, h5⟩, h6⟩
   refine ⟨(r + w.toNat * d) % M, Nat.mod_lt _ hM, (inRB_t _ M).2 ⟨r, h1, h2, d, h3, rfl⟩, t', h4, ?_⟩
   rw [Nat.mod_add_mod, ← h6, h5, Nat.add_assoc]
/-- Can the others' digits make the sum a multiple of M. -/
def Madeable (M : Nat) (ws : List Int) (own : Nat) : Prop := ∃ t, Sums ws t ∧ (own + t) % M = 0
noncomputable def mad (M : Nat) (ws : List Int) (own : Nat) : Bool := @decide (Madeable M ws own) (Classical.propDecidable _)
theorem mad_t {M : Nat} {ws : List Int} {own : Nat} : mad M ws own = true ↔ Madeable M ws own := by unfold mad; exact @decide_eq_true_iff _ (Classical.propDecidable _)
theorem comp_mod {M own t : Nat} (hM : 0 < M) : t % M = (M - own % M) % M ↔ (own + t) % M = 0 := by
 have h1 := Nat.mod_lt own hM
 have h2 := Nat.mod_lt t hM
 rw [Nat.add_mod]
 by_cases h0 : own % M = 0
 ·rw [h0, Nat.sub_zero, Nat.mod_self, Nat.zero_add, Nat.mod_mod]
 ·rw [Nat.mod_eq_of_lt (a := M - own % M) (by omega)]
  constructor
  ·intro h; rw [h, show own % M + (M - own % M) = M by omega, Nat.mod_self]
  ·intro h
   by_cases h3 : own % M + t % M < M
   ·rw [Nat.mod_eq_of_lt h3] at h; omega
   ·rw [Nat.mod_eq_sub_mod (by omega), Nat.mod_eq_of_lt (by omega)] at h; omega
theorem rests_mad {M own : Nat} {ws : List Int} (hM : 0 < M) : 0 < dist M ws e0 ((M - own % M) % M) ↔ Madeable M ws own := by
 rw [dist_pos hM ws e0 e0_lo _ (Nat.mod_lt _ hM)]
 constructor
 ·intro ⟨r, h1, h2, t, h3, h4⟩
  have hr : r = 0 := by
   unfold e0 at h2
   by_cases h : r = 0
   ·exact h
   ·rw [if_neg h] at h2; omega
  rw [hr, Nat.zero_add] at h4
  exact ⟨t, h3, (comp_mod hM).1 h4⟩
 ·intro ⟨t, h3, h4⟩
  refine ⟨0, hM, by decide, t, h3, ?_⟩
  rw [Nat.zero_add]; exact (comp_mod hM).2 h4
theorem can_mad {M own : Nat} {ws : List Int} (hM : 0 < M) : distB M ws (fun j => if j = own % M then true else false) 0 = mad M ws own := by
 rw [Bool.eq_iff_iff, mad_t, distB_t hM ws _ 0 hM]
 constructor
 ·intro ⟨r, h1, h2, t, h3, h4⟩
  have hr : r = own % M := by
   by_cases h : r = own % M
   ·exact h
   ·rw [if_neg h] at h2; cases h2
  rw [hr, Nat.mod_add_mod] at h4
  exact ⟨t, h3, h4⟩
 ·intro ⟨t, h3, h4⟩
  exact ⟨own % M, Nat.mod_lt _ hM, if_pos rfl, t, h3, by rw [Nat.mod_add_mod]; exact h4⟩
/-- The others: what is left without the elements at p, .., p + many - 1. -/
def skipF (p many : Nat) : Nat → List Int → List Int
 | _, [] => []
 | n, w :: t => if p ≤ n ∧ n < p + many then skipF p many (n + 1) t else w :: skipF p many (n + 1) t
theorem skipF_eq (p many : Nat) : ∀ (l : List Int) (n : Nat), skipF p many n l = l.take (p - n) ++ l.drop (p + many - n)
 | [], n => by simp [skipF]
 | w :: t, n => by
  rw [skipF, skipF_eq p many t (n + 1)]
  by_cases h : p ≤ n ∧ n < p + many
  ·rw [if_pos h, show p - n = 0 by omega, show p - (n + 1) = 0 by omega, show p + many - n = (p + many - (n + 1)) + 1 by omega]
   rfl
  ·rw [if_neg h]
   by_cases h1 : n < p
   ·rw [show p - n = (p - (n + 1)) + 1 by omega, show p + many - n = (p + many - (n + 1)) + 1 by omega]
    rfl
   ·rw [show p - n = 0 by omega, show p - (n + 1) = 0 by omega, show p + many - n = 0 by omega, show p + many - (n + 1) = 0 by omega]
    rfl
theorem skipF_mem {p many : Nat} {x : Int} : ∀ {l : List Int} {n : Nat}, x ∈ skipF p many n l → x ∈ l
 | [], _, h => by simp [skipF] at h
 | w :: t, n, h => by
  rw [skipF] at h
  split at h
  ·exact List.mem_cons_of_mem _ (skipF_mem h)
  ·rcases List.mem_cons.1 h with h | h
   ·rw [h]; simp
   ·exact List.mem_cons_of_mem _ (skipF_mem h)
theorem skipF_len {p many : Nat} : ∀ (l : List Int) (n : Nat), (skipF p many n l).length ≤ l.length
 | [], _ => by simp [skipF]
 | w :: t, n => by
  rw [skipF]
  have := skipF_len (p := p) (many := many) t (n + 1)
  split <;> simp <;> omega
theorem Concat_f (a b : List Int) (hl : a.length + b.length ≤ 1000) : Ev (fun k => slices_Concat_int_int.f k [a, b]) (a ++ b) := by
 have r0 : rd_L1 [a, b] 0 = a := rfl
 have r1 : rd_L1 [a, b] 1 = b := rfl
 have e1 : wrap64 (0 + 1) = 1 := by rw [w64 (by omega) (by omega)]; rfl
 have e2 : wrap64 (1 + 1) = 2 := by rw [w64 (by omega) (by omega)]; rfl
 have f1 : wrap64 (0 + (a.length : Int)) = (a.length : Int) := by rw [w64 (by omega) (by omega)]; omega
 have f2 : wrap64 ((a.length : Int) + (b.length : Int)) = ((a.length + b.length : Nat) : Int) := by rw [w64 (by omega) (by omega)]; omega
 have hg : slices_Grow.f ([] : List Int) ((a.length + b.length : Nat) : Int) = some [] := by
  unfold slices_Grow.f
  rw [if_pos rfl, if_pos (by omega), if_pos (by omega)]
 refine Ev.step (fun _ => slices_Concat_int_int.l0.eq_2 ..) (Ev.pos (by simp) (Ev.pos (by simp) (Ev.pos (by simp) ?_)))
 rw [r0, f1, e1]
 refine Ev.neg (by omega) (Ev.step (fun _ => slices_Concat_int_int.l0.eq_2 ..) (Ev.pos (by simp) (Ev.pos (by simp) (Ev.pos (by simp) ?_))))
 rw [r1, f2, e2]
 refine Ev.neg (by omega) (Ev.step (fun _ => slices_Concat_int_int.l0.eq_2 ..) (Ev.neg (by simp) (Ev.sm hg ?_)))
 refine Ev.step (fun _ => slices_Concat_int_int.l1.eq_2 ..) (Ev.pos (by simp) (Ev.pos (by simp) (Ev.pos (by simp) ?_)))
 rw [r0, e1, List.nil_append]
 refine Ev.pos (by simp; omega) (Ev.step (fun _ => slices_Concat_int_int.l1.eq_2 ..) (Ev.pos (by simp) (Ev.pos (by simp) (Ev.pos (by simp) ?_))))
 rw [r1, e2]
 exact Ev.pos (by omega) (Ev.step (fun _ => slices_Concat_int_int.l1.eq_2 ..) (Ev.neg (by simp) (Ev.now _)))
theorem hasSound_f (l : List Int) (M p many own : Nat) (hM : 2 ≤ M) (hM2 : M ≤ 11) (hw : ∀ x ∈ l, 0 ≤ x ∧ x ≤ 11) (hl : l.length ≤ 12) (hp : p + many ≤ l.length) (ho : own ≤ 1000000) :
  Ev (fun k => impl_Check_hasSound.f k l (M : Int) (p : Int) (many : Int) (own : Int)) (mad M (skipF p many 0 l) own) := by
 have e1 : wrap64 ((p : Int) + (many : Int)) = ((p + many : Nat) : Int) := by rw [w64 (by omega) (by omega)]; rfl
 have hs : skipF p many 0 l = l.take p ++ l.drop (p + many) := by rw [skipF_eq]; rfl
 have hlen : (l.take p).length + (l.drop (p + many)).length ≤ 12 := by rw [List.length_take, List.length_drop]; omega
 refine Ev.pos (by omega) (Ev.pos (by omega) ?_)
 rw [e1, Int.toNat_natCast, Int.toNat_natCast]
 refine Ev.pos (by omega) (Ev.pos (by omega) (Ev.bind (Concat_f _ _ (by omega)) ?_))
 rw [← hs]
 refine Ev.bind (rests_f l M (skipF p many 0 l) hM hM2 (fun x hx => hw x (skipF_mem hx)) (by have := skipF_len (p := p) (many := many) l 0; omega)) (Ev.neg (by omega) ?_)
 have ho2 := Nat.mod_lt own (show 0 < M by omega)
 have e2 : Int.tmod (wrap64 ((M : Int) - Int.tmod (own : Int) (M : Int))) (M : Int) = (((M - own % M) % M : Nat) : Int) := by
  rw [tmodN, show (M : Int) - ((own % M : Nat) : Int) = ((M - own % M : Nat) : Int) by omega, w64n (by omega), tmodN]
 have hlt := Nat.mod_lt (M - own % M) (show 0 < M by omega)
 rw [e2, tab_length, rd_tab hlt]
 refine Ev.pos (by omega) (Ev.pos (by omega) (Ev.eq ?_ (Ev.now _)))
 rw [Bool.eq_iff_iff, mad_t, decide_eq_true_eq]
 exact (rests_mad (by omega)).symm
def tabB (n : Nat) (f : Nat → Bool) : List Bool := (List.range n).map f
theorem tabB_length (n : Nat) (f : Nat → Bool) : (tabB n f).length = n := by simp [tabB]
theorem tabB_get {n : Nat} {f : Nat → Bool} {i : Nat} (h : i < n) : (tabB n f)[i]? = some (f i) := by simp [tabB, h]
theorem rd_tabB {n : Nat} {f : Nat → Bool} {i : Nat} (h : i < n) : rdOf false (tabB n f) (i : Int) = f i := by
 unfold rdOf; rw [Int.toNat_natCast, List.getD_eq_getElem?_getD, tabB_get h]; rfl
theorem set_tabB {n : Nat} {f : Nat → Bool} (i : Nat) (v : Bool) : (tabB n f).set i v = tabB n (fun j => if j = i then v else f j) := by
 apply List.ext_getElem?
 intro j
 rw [List.getElem?_set]
 by_cases hj : j < n
 ·rw [tabB_get (f := fun j => if j = i then v else f j) hj]
  by_cases e : i = j
  ·subst e; rw [if_pos rfl, if_pos (by rw [tabB_length]; exact hj), if_pos rfl]
  ·rw [if_neg e, tabB_get hj, if_neg (fun h => e h.symm)]
 ·have h1 : (tabB n f)[j]? = none := List.getElem?_eq_none (by rw [tabB_length]; omega)
  have h2 : (tabB n (fun j => if j = i then v else f j))[j]? = none := List.getElem?_eq_none (by rw [tabB_length]; omega)
  rw [h1, h2]
  by_cases e : i = j
  ·subst e; rw [if_pos rfl, if_neg (by rw [tabB_length]; exact hj)]
  ·rw [if_neg e]
theorem rep_tabB (n : Nat) : List.replicate n false = tabB n (fun _ => false) := by
 apply List.ext_getElem?
 intro j
 by_cases hj : j < n
 ·rw [tabB_get hj]; simp [hj]
 ·rw [List.getElem?_eq_none (by simp; omega), List.getElem?_eq_none (by rw [tabB_length]; omega)]
theorem rd_nat (l : List Int) (n : Nat) : rd l (n : Int) = l.getD n 0 := by unfold rd; rw [Int.toNat_natCast]
theorem tab_self (l : List Int) : tab l.length (fun j => rd l (j : Int)) = l := by
 apply List.ext_getElem?
 intro j
 by_cases hj : j < l.length
 ·rw [tab_get hj, List.getElem?_eq_getElem hj, rd_nat, List.getD_eq_getElem?_getD, List.getElem?_eq_getElem hj]; rfl
 ·rw [List.getElem?_eq_none (by rw [tab_length]; omega), List.getElem?_eq_none (by omega)]
theorem l1In_f (a b c : Int) : spec_l1In.f a b c = some (decide (b ≤ a) && decide (a ≤ c)) := by
 unfold spec_l1In.f; by_cases h : b ≤ a <;> simp [h]
theorem eqIntS_l0 (l : List Int) (hl : l.length ≤ 1048576) : ∀ d n : Nat, n + d = l.length → Ev (fun k => laws_eqIntS.l0 k l l (n : Int)) true
 | 0, n, h => Ev.step (fun _ => laws_eqIntS.l0.eq_2 ..) (Ev.neg (by omega) (Ev.now _))
 | d + 1, n, h => by
  refine Ev.step (fun _ => laws_eqIntS.l0.eq_2 ..) (Ev.pos (by omega) (Ev.pos (by omega) (Ev.pos (by omega) (Ev.pos rfl ?_))))
  rw [wsucc (m := l.length) (by omega) (by omega)]
  exact eqIntS_l0 l hl d (n + 1) (by omega)
theorem eqIntS_f (l : List Int) (hl : l.length ≤ 1048576) : Ev (fun k => laws_eqIntS.f k l l) true := Ev.pos rfl (eqIntS_l0 l hl l.length 0 (by omega))
theorem made_l2 {M w r : Nat} {x1 x50 x51 x72 : Int} {x3 : Bool} {l x49 : List Int} {x71 : List Bool} {f : Nat → Bool} {res : Bool} (hM : 2 ≤ M) (hM2 : M ≤ 11) (hw : w ≤ 11) (hr : r < M)
  (h : Ev (fun k => spec_slMade.l1 k x1 x3 (w : Int) (tabB M (inDB M w r f 10)) x49 x50 x51 x71 x72 (wrap64 ((r : Int) + 1)) l (M : Int)) res) : ∀ e d : Nat, d + e = 10 →
  Ev (fun k => spec_slMade.l2 k x1 x3 (w : Int) (tabB M (inDB M w r f d)) (r : Int) true (d : Int) x49 x50 x51 x71 x72 (r : Int) l (M : Int)) res
 | 0, d, hd => by
  obtain rfl : d = 10 := by omega
  exact Ev.step (fun _ => spec_slMade.l2.eq_2 ..) (Ev.neg (by omega) h)
 | e + 1, d, hd => by
  refine Ev.step (fun _ => spec_slMade.l2.eq_2 ..) (Ev.pos (by omega) (Ev.pos rfl (Ev.neg (by omega) ?_)))
  have hp : (r + w * d) % M < M := Nat.mod_lt _ (by omega)
  rw [place_eq (by omega) hM2 hw (by omega) (by omega), Int.toNat_natCast, tabB_length, set_tabB, wsucc (m := 10) (by omega) (by omega)]
  exact Ev.pos (by omega) (Ev.pos (by omega) (made_l2 hM hM2 hw hr h e (d + 1) (by omega)))
theorem made_l1 {M w : Nat} {x1 x50 x51 : Int} {x3 : Bool} {l x49 : List Int} {can : Nat → Bool} {res : Bool} (hM : 2 ≤ M) (hM2 : M ≤ 11) (hw : w ≤ 11)
  (h : Ev (fun k => spec_slMade.l0 k x1 x3 (tabB M (stpB M w can)) x49 x50 (wrap64 (x51 + 1)) l (M : Int)) res) : ∀ e r : Nat, r + e = M →
  Ev (fun k => spec_slMade.l1 k x1 x3 (w : Int) (tabB M (inRB M w can r)) x49 x50 x51 (tabB M can) (M : Int) (r : Int) l (M : Int)) res
 | 0, r, hr => by
  obtain rfl : r = M := by omega
  exact Ev.step (fun _ => spec_slMade.l1.eq_2 ..) (Ev.neg (by omega) h)
 | e + 1, r, hr => by
  have ih := made_l1 hM hM2 hw h e (r + 1) (by omega)
  refine Ev.step (fun _ => spec_slMade.l1.eq_2 ..) (Ev.pos (by omega) (Ev.pos (by omega) ?_))
  rw [tabB_length, rd_tabB (by omega)]
  refine Ev.pos (by omega) ?_
  rw [inRB] at ih
  by_cases hc : can r = true
  ·rw [if_pos hc] at ih
   rw [hc]
   exact made_l2 (f := inRB M w can r) hM hM2 hw (by omega) (by rw [wsucc (m := M) (by omega) (by omega)]; exact ih) 10 0 (by omega)
  ·rw [if_neg hc] at ih
   rw [Bool.not_eq_true] at hc
   rw [hc]
   refine Ev.step (fun _ => spec_slMade.l2.eq_2 ..) (Ev.pos (by omega) (Ev.neg (by decide) ?_))
   rw [wsucc (m := M) (by omega) (by omega)]
   exact ih
theorem made_l0 {M p : Nat} {sw : Bool} {l : List Int} (hM : 2 ≤ M) (hM2 : M ≤ 11) (hw : ∀ x ∈ l, 0 ≤ x ∧ x ≤ 11) (hl : l.length ≤ 12) (hp : p ≤ 12) : ∀ (t : List Int) (n : Nat) (can : Nat → Bool), l.drop n = t →
  Ev (fun k => spec_slMade.l0 k (p : Int) sw (tabB M can) l (l.length : Int) (n : Int) l (M : Int)) (distB M (skipF p (if sw = true then 2 else 1) n t) can 0)
 | [], n, can, h => by
  refine Ev.step (fun _ => spec_slMade.l0.eq_2 ..) (Ev.neg (by have := drop_nil h; omega) ?_)
  rw [tabB_length]
  exact Ev.pos (by omega) (Ev.eq (by rw [show rdOf false (tabB M can) 0 = can 0 from rd_tabB (i := 0) (by omega)]; rfl) (Ev.now _))
 | c :: t, n, can, h => by
  obtain ⟨h1, h2, h3⟩ := drop_cons h
  have hr : rd l (n : Int) = c := by rw [rd_nat, List.getD_eq_getElem?_getD, h2]; rfl
  have hc := hw c (List.mem_of_getElem? h2)
  obtain ⟨w, rfl⟩ : ∃ w : Nat, c = (w : Int) := ⟨c.toNat, by omega⟩
  refine Ev.step (fun _ => spec_slMade.l0.eq_2 ..) (Ev.pos (by omega) (Ev.pos (by omega) (Ev.pos (by omega) ?_)))
  rw [hr]
  have skip : (p ≤ n ∧ n < p + (if sw = true then 2 else 1)) → Ev (fun k => spec_slMade.j2 k (p : Int) sw (tabB M can) (w : Int) l (l.length : Int) (n : Int) true l (M : Int)) (distB M (skipF p (if sw = true then 2 else 1) n ((w : Int) :: t)) can 0) := by
   intro hs
   refine Ev.step (fun _ => spec_slMade.j2.eq_2 ..) (Ev.pos rfl ?_)
   rw [skipF, if_pos hs, wsucc h1 (by omega)]
   exact made_l0 hM hM2 hw hl hp t (n + 1) can h3
  have go : ¬ (p ≤ n ∧ n < p + (if sw = true then 2 else 1)) → Ev (fun k => spec_slMade.j2 k (p : Int) sw (tabB M can) (w : Int) l (l.length : Int) (n : Int) false l (M : Int)) (distB M (skipF p (if sw = true then 2 else 1) n ((w : Int) :: t)) can 0) := by
   intro hs
   refine Ev.step (fun _ => spec_slMade.j2.eq_2 ..) (Ev.neg (by decide) (Ev.pos (by omega) (Ev.pos (by rw [Int.toNat_natCast]; omega) ?_)))
   rw [Int.toNat_natCast, rep_tabB, tabB_length, skipF, if_neg hs]
   refine made_l1 (can := can) hM hM2 (by omega) ?_ M 0 (by omega)
   rw [wsucc h1 (by omega)]
   exact made_l0 hM hM2 hw hl hp t (n + 1) (stpB M w can) h3
  by_cases c1 : (n : Int) = (p : Int)
  ·exact Ev.pos c1 (skip (by split <;> omega))
  ·refine Ev.neg c1 ?_
   by_cases c2 : sw = true
   ·refine Ev.pos c2 ?_
    rw [w64 (x := (p : Int) + 1) (by omega) (by omega)]
    by_cases c3 : (n : Int) = (p : Int) + 1
    ·rw [show ((n : Int) == (p : Int) + 1) = true by simpa using c3]
     exact skip (by rw [if_pos c2]; omega)
    ·rw [show ((n : Int) == (p : Int) + 1) = false by simpa using c3]
     exact go (by rw [if_pos c2]; omega)
   ·exact Ev.neg c2 (go (by rw [if_neg c2]; omega))
theorem made_j0 (l : List Int) (M p own : Nat) (sw : Bool) (hM : 2 ≤ M) (hM2 : M ≤ 11) (hw : ∀ x ∈ l, 0 ≤ x ∧ x ≤ 11) (hl : l.length ≤ 12) (hp : p ≤ 12) (ho : own ≤ 1000000) :
  Ev (fun k => spec_slMade.j0 k (p : Int) sw (own : Int) l (M : Int)) (mad M (skipF p (if sw = true then 2 else 1) 0 l) own) := by
 have hlt := Nat.mod_lt own (show 0 < M by omega)
 refine Ev.step (fun _ => spec_slMade.j0.eq_2 ..) (Ev.pos (by omega) (Ev.pos (by rw [Int.toNat_natCast]; omega) (Ev.sm rfl (Ev.neg (by omega) ?_))))
 rw [Int.toNat_natCast, rep_tabB, tmodN, tabB_length, Int.toNat_natCast, set_tabB]
 refine Ev.pos (by omega) (Ev.pos (by omega) ?_)
 rw [← can_mad (by omega)]
 exact made_l0 hM hM2 hw hl hp l 0 _ rfl
def wt (l : List Int) (p : Nat) : Nat := (l.getD p 0).toNat
theorem wt_le {l : List Int} {c : Nat} (hw : ∀ x ∈ l, 0 ≤ x ∧ x ≤ (c : Int)) (p : Nat) : wt l p ≤ c := by
 unfold wt
 by_cases h : p < l.length
 ·rw [List.getD_eq_getElem?_getD, List.getElem?_eq_getElem h]
  have := hw _ (List.getElem_mem h)
  show (l[p]).toNat ≤ c
  omega
 ·rw [List.getD_eq_getElem?_getD, List.getElem?_eq_none (by omega)]; exact Nat.zero_le _
theorem rd_wt {l : List Int} {c : Nat} (hw : ∀ x ∈ l, 0 ≤ x ∧ x ≤ (c : Int)) {p : Nat} (hp : p < l.length) : rd l (p : Int) = (wt l p : Int) := by
 rw [rd_nat]; unfold wt
 rw [List.getD_eq_getElem?_getD, List.getElem?_eq_getElem hp]
 have := hw _ (List.getElem_mem hp)
 show l[p] = ((l[p]).toNat : Int)
 omega
def inB (g : Nat → Bool) : Nat → Nat → Option Nat
 | 0, _ => none
 | e + 1, b => if g b = true then some b else inB g e (b + 1)
def inA (g : Nat → Nat → Bool) : Nat → Nat → Option (Nat × Nat)
 | 0, _ => none
 | e + 1, a => match inB (g a) (9 - a) (a + 1) with
  | some b => some (a, b)
  | none => inA g e (a + 1)
theorem inB_and {g m : Nat → Bool} : ∀ e b, (∀ c, inB g e b = some c → m c = true → inB (fun c => g c && m c) e b = some c) ∧ (inB g e b = none → inB (fun c => g c && m c) e b = none)
 | 0, b => ⟨fun c h _ => by simp [inB] at h, fun _ => rfl⟩
 | e + 1, b => by
  have ih := inB_and (g := g) (m := m) e (b + 1)
  by_cases h : g b = true
  ·refine ⟨fun c h1 h2 => ?_, fun h1 => ?_⟩
   ·rw [inB, if_pos h] at h1
    obtain rfl := Option.some.inj h1
    rw [inB, if_pos (by rw [h, h2]; rfl)]
   ·rw [inB, if_pos h] at h1; cases h1
  ·have h3 : ¬ (g b && m b) = true := by rw [Bool.and_eq_true]; exact fun x => h x.1
   rw [inB, inB, if_neg h, if_neg h3]
   exact ih
theorem inA_and {g m : Nat → Nat → Bool} : ∀ e a, (∀ c, inA g e a = some c → m c.1 c.2 = true → inA (fun a b => g a b && m a b) e a = some c) ∧ (inA g e a = none → inA (fun a b => g a b && m a b) e a = none)
 | 0, a => ⟨fun c h _ => by simp [inA] at h, fun _ => rfl⟩
 | e + 1, a => by
  have ih := inA_and (g := g) (m := m) e (a + 1)
  have ib := inB_and (g := g a) (m := m a) (9 - a) (a + 1)
  rw [inA, inA]
  cases hb : inB (g a) (9 - a) (a + 1) with
  | some b =>
   refine ⟨fun c h1 h2 => ?_, fun h1 => by cases h1⟩
   obtain rfl := Option.some.inj h1
   rw [ib.1 b hb h2]
  | none => rw [ib.2 hb]; exact ih
theorem inB_congr {g h : Nat → Bool} : ∀ e b, (∀ c, b ≤ c → c < b + e → g c = h c) → inB g e b = inB h e b
 | 0, _, _ => rfl
 | e + 1, b, hh => by rw [inB, inB, hh b (by omega) (by omega), inB_congr e (b + 1) (fun c h1 h2 => hh c (by omega) (by omega))]
theorem inA_congr {g h : Nat → Nat → Bool} : ∀ e a, a + e = 10 → (∀ a b, a < b → b < 10 → g a b = h a b) → inA g e a = inA h e a
 | 0, _, _, _ => rfl
 | e + 1, a, he, hh => by rw [inA, inA, inB_congr (9 - a) (a + 1) (fun c h1 h2 => hh a c (by omega) (by omega)), inA_congr e (a + 1) (by omega) hh]
def tst (M x a b : Nat) : Bool := decide (x * (b - a) % M = 0)
def own (l : List Int) (p : Nat) (sw : Bool) (a b : Nat) : Nat := if sw = true then wt l p * a + wt l (p + 1) * b else wt l p * a
theorem own_le {l : List Int} {M p a b : Nat} {sw : Bool} (hM2 : M ≤ 11) (hw : ∀ x ∈ l, 0 ≤ x ∧ x ≤ (M : Int)) (ha : a ≤ 10) (hb : b ≤ 10) : own l p sw a b ≤ 220 ∧ wt l p * a ≤ 110 ∧ wt l (p + 1) * b ≤ 110 := by
 have h1 : wt l p * a ≤ 11 * 10 := Nat.mul_le_mul (by have := wt_le hw p; omega) ha
 have h2 : wt l (p + 1) * b ≤ 11 * 10 := Nat.mul_le_mul (by have := wt_le hw (p + 1); omega) hb
 unfold own
 split <;> omega
noncomputable def gg (l : List Int) (M p : Nat) (sw : Bool) (a b : Nat) : Bool := mad M (skipF p (if sw = true then 2 else 1) 0 l) (own l p sw a b)
theorem tst_eq {M x a b : Nat} (hx : x ≤ 30) (ha : a < b) (hb : b < 10) : (Int.tmod (wrap64 ((x : Int) * wrap64 ((b : Int) - (a : Int)))) (M : Int) = 0) ↔ tst M x a b = true := by
 have h1 : x * (b - a) ≤ 30 * 10 := Nat.mul_le_mul hx (by omega)
 rw [w64 (x := (b : Int) - a) (by omega) (by omega), show (b : Int) - a = ((b - a : Nat) : Int) by omega, ← Int.natCast_mul, w64n (by omega), tmodN]
 unfold tst; rw [decide_eq_true_eq]; omega
def encI : Option (Nat × Nat) → Int × Int × Bool
 | some (a, b) => ((a : Int), (b : Int), true)
 | none => (0, 0, false)
def encS : Option (Nat × Nat) → List Int × Bool
 | some (a, b) => ([(a : Int), (b : Int)], true)
 | none => ([], false)
section
variable {l : List Int} {M p : Nat} {sw : Bool} (hM : 2 ≤ M) (hM2 : M ≤ 11) (hw : ∀ x ∈ l, 0 ≤ x ∧ x ≤ (M : Int)) (hl : l.length ≤ 12) (hp : p + (if sw = true then 2 else 1) ≤ l.length)
include hM hM2 hw hl hp
theorem implU_l1 {x a : Nat} {rest : Int × Int × Bool} (hx : x ≤ 30) (h : Ev (fun k => impl_Check_untold.l0 k (p : Int) sw (wt l p : Int) (x : Int) (wrap64 ((a : Int) + 1)) l (M : Int)) rest) : ∀ e b : Nat, b + e = 10 → a < b →
  Ev (fun k => impl_Check_untold.l1 k (p : Int) sw (wt l p : Int) (x : Int) (a : Int) (b : Int) (a : Int) l (M : Int)) (match inB (fun b => tst M x a b && gg l M p sw a b) e b with | some b => ((a : Int), (b : Int), true) | none => rest)
 | 0, b, hb, _ => Ev.step (fun _ => impl_Check_untold.l1.eq_2 ..) (Ev.neg (by omega) h)
 | e + 1, b, hb, hab => by
  have ih := implU_l1 hx h e (b + 1) (by omega) (by omega)
  have ho := own_le (p := p) (sw := sw) hM2 hw (a := a) (b := b) (by omega) (by omega)
  refine Ev.step (fun _ => impl_Check_untold.l1.eq_2 ..) (Ev.pos (by omega) (Ev.neg (by omega) ?_))
  rw [inB, wsucc (m := 10) (show b < 10 by omega) (by omega)]
  by_cases ht : tst M x a b = true
  ·refine Ev.pos ((tst_eq hx hab (by omega)).2 ht) ?_
   have key : ∀ v : Bool, gg l M p sw a b = v → (if (tst M x a b && gg l M p sw a b) = true then some b else inB (fun b => tst M x a b && gg l M p sw a b) e (b + 1)) = if v = true then some b else inB (fun b => tst M x a b && gg l M p sw a b) e (b + 1) := by
    intro v hv; rw [ht, hv, Bool.true_and]
   rw [key _ rfl]
   have hw11 : ∀ x ∈ l, 0 ≤ x ∧ x ≤ 11 := fun x hx => by have := hw x hx; omega
   cases hsw : sw with
   | true =>
    rw [hsw, if_pos rfl] at hp
    rw [hsw] at ih ho
    refine Ev.pos rfl ?_
    have e1 : wrap64 ((p : Int) + 1) = ((p + 1 : Nat) : Int) := by rw [w64 (by omega) (by omega)]; rfl
    rw [e1]
    clear e1
    refine Ev.pos (by omega) (Ev.pos (by omega) ?_)
    rw [rd_wt hw (by omega), ← Int.natCast_mul, ← Int.natCast_mul, w64n (x := wt l p * a) (Nat.le_trans ho.2.1 (by decide)), w64n (x := wt l (p + 1) * b) (Nat.le_trans ho.2.2 (by decide)), ← Int.natCast_add, w64n (x := wt l p * a + wt l (p + 1) * b) (Nat.le_trans (Nat.add_le_add ho.2.1 ho.2.2) (by decide))]
    refine Ev.bind (hasSound_f l M p 2 _ hM hM2 hw11 hl hp (Nat.le_trans (Nat.add_le_add ho.2.1 ho.2.2) (by decide))) ?_
    have hg : gg l M p true a b = mad M (skipF p 2 0 l) (wt l p * a + wt l (p + 1) * b) := rfl
    rw [← hg]
    by_cases hv : gg l M p true a b = true
    ·rw [if_pos hv]; exact Ev.pos hv (Ev.now _)
    ·rw [if_neg hv]; exact Ev.neg hv ih
   | false =>
    rw [hsw, if_neg (by decide)] at hp
    rw [hsw] at ih ho
    refine Ev.neg (by decide) ?_
    rw [← Int.natCast_mul, w64n (x := wt l p * a) (Nat.le_trans ho.2.1 (by decide))]
    refine Ev.bind (hasSound_f l M p 1 _ hM hM2 hw11 hl hp (Nat.le_trans ho.2.1 (by decide))) ?_
    have hg : gg l M p false a b = mad M (skipF p 1 0 l) (wt l p * a) := rfl
    rw [← hg]
    by_cases hv : gg l M p false a b = true
    ·rw [if_pos hv]; exact Ev.pos hv (Ev.now _)
    ·rw [if_neg hv]; exact Ev.neg hv ih
  ·refine Ev.neg (fun h => ht ((tst_eq hx hab (by omega)).1 h)) ?_
   rw [if_neg (by rw [Bool.and_eq_true]; exact fun x => ht x.1)]
   exact ih
theorem implU_l0 {x : Nat} (hx : x ≤ 30) : ∀ e a : Nat, a + e = 10 →
  Ev (fun k => impl_Check_untold.l0 k (p : Int) sw (wt l p : Int) (x : Int) (a : Int) l (M : Int)) (encI (inA (fun a b => tst M x a b && gg l M p sw a b) e a))
 | 0, a, ha => Ev.step (fun _ => impl_Check_untold.l0.eq_2 ..) (Ev.neg (by omega) (Ev.now _))
 | e + 1, a, ha => by
  have ih := implU_l0 hx e (a + 1) (by omega)
  refine Ev.step (fun _ => impl_Check_untold.l0.eq_2 ..) (Ev.pos (by omega) ?_)
  rw [wsucc (m := 10) (show a < 10 by omega) (by omega)]
  rw [← wsucc (m := 10) (show a < 10 by omega) (by omega)] at ih
  have hh := implU_l1 hM hM2 hw hl hp hx ih (9 - a) (a + 1) (by omega) (by omega)
  rw [inA]
  refine Ev.eq ?_ hh
  cases inB (fun b => tst M x a b && gg l M p sw a b) (9 - a) (a + 1) <;> rfl
omit hM2 hw hl hp in
theorem pair_l1 {x a : Nat} {rest : List Int × Bool} (hx : x ≤ 30) (h : Ev (fun k => spec_slPair.l0 k (x : Int) (wrap64 ((a : Int) + 1)) l (M : Int)) rest) : ∀ e b : Nat, b + e = 10 → a < b →
  Ev (fun k => spec_slPair.l1 k (x : Int) (a : Int) (b : Int) l (M : Int)) (match inB (fun b => tst M x a b) e b with | some b => ([(a : Int), (b : Int)], true) | none => rest)
 | 0, b, hb, _ => Ev.step (fun _ => spec_slPair.l1.eq_2 ..) (Ev.neg (by omega) h)
 | e + 1, b, hb, hab => by
  have ih := pair_l1 hx h e (b + 1) (by omega) (by omega)
  refine Ev.step (fun _ => spec_slPair.l1.eq_2 ..) (Ev.pos (by omega) (Ev.neg (by omega) ?_))
  rw [inB, wsucc (m := 10) (show b < 10 by omega) (by omega)]
  by_cases ht : tst M x a b = true
  ·rw [if_pos ht]; exact Ev.pos ((tst_eq hx hab (by omega)).2 ht) (Ev.now _)
  ·rw [if_neg ht]; exact Ev.neg (fun h => ht ((tst_eq hx hab (by omega)).1 h)) ih
omit hM2 hw hl hp in
theorem pair_l0 {x : Nat} (hx : x ≤ 30) : ∀ e a : Nat, a + e = 10 → Ev (fun k => spec_slPair.l0 k (x : Int) (a : Int) l (M : Int)) (encS (inA (fun a b => tst M x a b) e a))
 | 0, a, ha => Ev.step (fun _ => spec_slPair.l0.eq_2 ..) (Ev.neg (by omega) (Ev.now _))
 | e + 1, a, ha => by
  have ih := pair_l0 hx e (a + 1) (by omega)
  refine Ev.step (fun _ => spec_slPair.l0.eq_2 ..) (Ev.pos (by omega) ?_)
  rw [wsucc (m := 10) (show a < 10 by omega) (by omega)]
  rw [← wsucc (m := 10) (show a < 10 by omega) (by omega)] at ih
  have hh := pair_l1 hM hx ih (9 - a) (a + 1) (by omega) (by omega)
  rw [inA]
  refine Ev.eq ?_ hh
  cases inB (fun b => tst M x a b) (9 - a) (a + 1) <;> rfl
theorem slMade_f {a b : Nat} (ha : a ≤ 10) (hb : b ≤ 10) : Ev (fun k => spec_slMade.f k l (M : Int) (p : Int) [(a : Int), (b : Int)] sw) (gg l M p sw a b) := by
 have ho := own_le (p := p) (sw := sw) hM2 hw (a := a) (b := b) ha hb
 have hw11 : ∀ x ∈ l, 0 ≤ x ∧ x ≤ 11 := fun x hx => by have := hw x hx; omega
 have r0 : rd [(a : Int), (b : Int)] 0 = a := rfl
 have r1 : rd [(a : Int), (b : Int)] 1 = b := rfl
 refine Ev.pos (by omega) (Ev.pos (by split at hp <;> omega) (Ev.pos (by simp) ?_))
 rw [r0, r1, rd_wt hw (by split at hp <;> omega), ← Int.natCast_mul, w64n (x := wt l p * a) (Nat.le_trans ho.2.1 (by decide))]
 cases hsw : sw with
 | true =>
  rw [hsw, if_pos rfl] at hp
  rw [hsw] at ho
  refine Ev.pos rfl ?_
  have e1 : wrap64 ((p : Int) + 1) = ((p + 1 : Nat) : Int) := by rw [w64 (by omega) (by omega)]; rfl
  rw [e1]
  clear e1
  refine Ev.pos (by omega) (Ev.pos (by omega) (Ev.pos (by simp) ?_))
  rw [rd_wt hw (by omega), ← Int.natCast_mul, w64n (x := wt l (p + 1) * b) (Nat.le_trans ho.2.2 (by decide)), ← Int.natCast_add, w64n (x := wt l p * a + wt l (p + 1) * b) (Nat.le_trans (Nat.add_le_add ho.2.1 ho.2.2) (by decide))]
  exact made_j0 l M p _ true hM hM2 hw11 hl (by omega) (Nat.le_trans (Nat.add_le_add ho.2.1 ho.2.2) (by decide))
 | false =>
  rw [hsw, if_neg (by decide)] at hp
  exact Ev.neg (by decide) (made_j0 l M p _ false hM hM2 hw11 hl (by omega) (Nat.le_trans ho.2.1 (by decide)))
theorem specU_l1 {x a : Nat} {rest : List Int × Bool} (hx : x ≤ 30) (h : Ev (fun k => spec_slUntold.l0 k (p : Int) sw (x : Int) (wrap64 ((a : Int) + 1)) l (M : Int)) rest) : ∀ e b : Nat, b + e = 10 → a < b →
  Ev (fun k => spec_slUntold.l1 k (p : Int) sw (x : Int) (a : Int) (b : Int) l (M : Int)) (match inB (fun b => tst M x a b && gg l M p sw a b) e b with | some b => ([(a : Int), (b : Int)], true) | none => rest)
 | 0, b, hb, _ => Ev.step (fun _ => spec_slUntold.l1.eq_2 ..) (Ev.neg (by omega) h)
 | e + 1, b, hb, hab => by
  have ih := specU_l1 hx h e (b + 1) (by omega) (by omega)
  refine Ev.step (fun _ => spec_slUntold.l1.eq_2 ..) (Ev.pos (by omega) (Ev.neg (by omega) ?_))
  rw [inB, wsucc (m := 10) (show b < 10 by omega) (by omega)]
  by_cases ht : tst M x a b = true
  ·refine Ev.pos ((tst_eq hx hab (by omega)).2 ht) (Ev.bind (slMade_f hM hM2 hw hl hp (by omega) (by omega)) ?_)
   rw [ht, Bool.true_and]
   by_cases hv : gg l M p sw a b = true
   ·rw [if_pos hv]; exact Ev.pos hv (Ev.now _)
   ·rw [if_neg hv]; exact Ev.neg hv ih
  ·refine Ev.neg (fun h => ht ((tst_eq hx hab (by omega)).1 h)) ?_
   rw [if_neg (by rw [Bool.and_eq_true]; exact fun x => ht x.1)]
   exact ih
theorem specU_l0 {x : Nat} (hx : x ≤ 30) : ∀ e a : Nat, a + e = 10 →
  Ev (fun k => spec_slUntold.l0 k (p : Int) sw (x : Int) (a : Int) l (M : Int)) (encS (inA (fun a b => tst M x a b && gg l M p sw a b) e a))
 | 0, a, ha => Ev.step (fun _ => spec_slUntold.l0.eq_2 ..) (Ev.neg (by omega) (Ev.now _))
 | e + 1, a, ha => by
  have ih := specU_l0 hx e (a + 1) (by omega)
  refine Ev.step (fun _ => spec_slUntold.l0.eq_2 ..) (Ev.pos (by omega) ?_)
  rw [wsucc (m := 10) (show a < 10 by omega) (by omega)]
  rw [← wsucc (m := 10) (show a < 10 by omega) (by omega)] at ih
  have hh := specU_l1 hM hM2 hw hl hp hx ih (9 - a) (a + 1) (by omega) (by omega)
  rw [inA]
  refine Ev.eq ?_ hh
  cases inB (fun b => tst M x a b && gg l M p sw a b) (9 - a) (a + 1) <;> rfl
omit hM hM2 hw hl hp in
theorem inA_lt {g : Nat → Nat → Bool} : ∀ e a, a + e = 10 → ∀ c, inA g e a = some c → c.1 ≤ 10 ∧ c.2 ≤ 10
 | 0, a, _, c, h => by simp [inA] at h
 | e + 1, a, he, c, h => by
  rw [inA] at h
  cases hb : inB (g a) (9 - a) (a + 1) with
  | some b =>
   rw [hb] at h
   obtain rfl := Option.some.inj h
   have : ∀ e b0 b, inB (g a) e b0 = some b → b ≤ b0 + e := by
    intro e
    induction e with
    | zero => intro b0 b h; simp [inB] at h
    | succ e ih =>
     intro b0 b h
     rw [inB] at h
     split at h
     ·obtain rfl := Option.some.inj h; omega
     ·have := ih _ _ h; omega
   have := this _ _ _ hb
   exact ⟨by show a ≤ 10; omega, by show b ≤ 10; omega⟩
  | none => rw [hb] at h; exact inA_lt e (a + 1) (by omega) c h
theorem specU_j0 {x : Nat} (hx : x ≤ 30) : Ev (fun k => spec_slUntold.j0 k (p : Int) sw (x : Int) l (M : Int)) (encS (inA (fun a b => tst M x a b && gg l M p sw a b) 10 0)) := by
 have ha := inA_and (g := fun a b => tst M x a b) (m := gg l M p sw) 10 0
 refine Ev.step (fun _ => spec_slUntold.j0.eq_2 ..) (Ev.bind (pair_l0 (l := l) hM hx 10 0 rfl) ?_)
 cases h : inA (fun a b => tst M x a b) 10 0 with
 | none =>
  rw [ha.2 h]
  exact Ev.neg (by simp [encS]) (Ev.step (fun _ => spec_slUntold.j1.eq_2 ..) (Ev.pos rfl (Ev.now _)))
 | some c =>
  obtain ⟨a, b⟩ := c
  have hlt := inA_lt 10 0 rfl _ h
  refine Ev.pos rfl (Ev.bind (slMade_f hM hM2 hw hl hp hlt.1 hlt.2) (Ev.step (fun _ => spec_slUntold.j1.eq_2 ..) ?_))
  by_cases hv : gg l M p sw a b = true
  ·rw [ha.1 _ h hv]
   exact Ev.pos hv (Ev.now _)
  ·exact Ev.neg hv (specU_l0 hM hM2 hw hl hp hx 10 0 rfl)
end
theorem tst_add {M x a b : Nat} : tst M (x + M) a b = tst M x a b := by
 unfold tst; rw [Nat.add_mul, Nat.add_mul_mod_self_left]
theorem tst_sub {M x a b : Nat} (hx : x ≤ M) : tst M (M - x) a b = tst M x a b := by
 unfold tst
 have : (M - x) * (b - a) + x * (b - a) = M * (b - a) := by rw [← Nat.add_mul, Nat.sub_add_cancel hx]
 rw [Bool.eq_iff_iff, decide_eq_true_eq, decide_eq_true_eq]
 constructor
 ·intro h
  have h2 : M ∣ (M - x) * (b - a) + x * (b - a) := by rw [this]; exact Nat.dvd_mul_right ..
  exact Nat.mod_eq_zero_of_dvd ((Nat.dvd_add_right (Nat.dvd_of_mod_eq_zero h)).1 h2)
 ·intro h
  have h2 : M ∣ (M - x) * (b - a) + x * (b - a) := by rw [this]; exact Nat.dvd_mul_right ..
  exact Nat.mod_eq_zero_of_dvd ((Nat.dvd_add_left (Nat.dvd_of_mod_eq_zero h)).1 h2)
theorem implU_f {l : List Int} {M p : Nat} {sw : Bool} (hM : 2 ≤ M) (hM2 : M ≤ 11) (hw : ∀ x ∈ l, 0 ≤ x ∧ x ≤ (M : Int)) (hl : l.length ≤ 12) (hp : p + (if sw = true then 2 else 1) ≤ l.length) :
  Ev (fun k => impl_Check_untold.f k l (M : Int) (p : Int) sw) (encI (inA (fun a b => tst M (if sw = true then wt l p + M - wt l (p + 1) else wt l p) a b && gg l M p sw a b) 10 0)) := by
 have h1 := wt_le hw p
 have h2 := wt_le hw (p + 1)
 refine Ev.pos (by omega) (Ev.pos (by split at hp <;> omega) ?_)
 rw [rd_wt hw (by split at hp <;> omega)]
 cases hsw : sw with
 | true =>
  rw [hsw, if_pos rfl] at hp
  have e1 : wrap64 ((p : Int) + 1) = ((p + 1 : Nat) : Int) := by rw [w64 (by omega) (by omega)]; rfl
  refine Ev.pos rfl ?_
  rw [e1]
  clear e1
  refine Ev.pos (by omega) (Ev.pos (by omega) ?_)
  rw [rd_wt hw (by omega), w64 (x := (wt l p : Int) - (wt l (p + 1) : Int)) (by omega) (by omega), w64 (by omega) (by omega), show (wt l p : Int) - (wt l (p + 1) : Int) + (M : Int) = ((wt l p + M - wt l (p + 1) : Nat) : Int) by omega]
  exact Ev.step (fun _ => impl_Check_untold.j0.eq_2 ..) (implU_l0 hM hM2 hw hl (sw := true) hp (by omega) 10 0 rfl)
 | false =>
  rw [hsw, if_neg (by decide)] at hp
  exact Ev.neg (by decide) (Ev.step (fun _ => impl_Check_untold.j0.eq_2 ..) (implU_l0 hM hM2 hw hl (sw := false) hp (by omega) 10 0 rfl))
theorem slAbs_f {v : Int} (h1 : -1000 ≤ v) (h2 : v ≤ 1000) : spec_l1Abs.f v = some (v.natAbs : Int) := by
 unfold spec_l1Abs.f spec_l1Most.f
 rw [w64 (x := -v) (by omega) (by omega)]
 by_cases h : v > -v
 ·rw [if_pos h]; show some v = _; congr 1; omega
 ·rw [if_neg h]; show some (-v) = _; congr 1; omega
theorem specU_f {l : List Int} {M p : Nat} {sw : Bool} (hM : 2 ≤ M) (hM2 : M ≤ 11) (hw : ∀ x ∈ l, 0 ≤ x ∧ x ≤ (M : Int)) (hl : l.length ≤ 12) (hp : p + (if sw = true then 2 else 1) ≤ l.length) :
  Ev (fun k => spec_slUntold.f k l (M : Int) (p : Int) sw) (encS (inA (fun a b => tst M (if sw = true then wt l p + M - wt l (p + 1) else wt l p) a b && gg l M p sw a b) 10 0)) := by
 have h1 := wt_le hw p
 have h2 := wt_le hw (p + 1)
 refine Ev.pos (by omega) (Ev.pos (by split at hp <;> omega) ?_)
 rw [rd_wt hw (by split at hp <;> omega)]
 cases hsw : sw with
 | true =>
  rw [hsw, if_pos rfl] at hp
  have e1 : wrap64 ((p : Int) + 1) = ((p + 1 : Nat) : Int) := by rw [w64 (by omega) (by omega)]; rfl
  refine Ev.pos rfl ?_
  rw [e1]
  clear e1
  refine Ev.pos (by omega) (Ev.pos (by omega) ?_)
  rw [rd_wt hw (by omega), w64 (x := (wt l p : Int) - (wt l (p + 1) : Int)) (by omega) (by omega)]
  refine Ev.sm (slAbs_f (by omega) (by omega)) ?_
  have hh := specU_j0 hM hM2 hw hl (sw := true) hp (x := ((wt l p : Int) - (wt l (p + 1) : Int)).natAbs) (by omega)
  rw [inA_congr 10 0 rfl (h := fun a b => tst M (if true = true then wt l p + M - wt l (p + 1) else wt l p) a b && gg l M p true a b)] at hh
  ·exact hh
  ·intro a b _ _
   rw [if_pos rfl]
   congr 1
   by_cases hc : wt l (p + 1) ≤ wt l p
   ·rw [show ((wt l p : Int) - (wt l (p + 1) : Int)).natAbs = wt l p - wt l (p + 1) by omega, show wt l p + M - wt l (p + 1) = wt l p - wt l (p + 1) + M by omega, tst_add]
   ·rw [show ((wt l p : Int) - (wt l (p + 1) : Int)).natAbs = wt l (p + 1) - wt l p by omega, show wt l p + M - wt l (p + 1) = M - (wt l (p + 1) - wt l p) by omega, tst_sub (by omega)]
 | false =>
  rw [hsw, if_neg (by decide)] at hp
  exact Ev.neg (by decide) (specU_j0 hM hM2 hw hl (sw := false) hp (by omega))
theorem bit_f (b : Bool) : impl_bit.f b = some (if b = true then 1 else 0) := by unfold impl_bit.f; split <;> rfl
noncomputable def unA (l : List Int) (M : Nat) (sw : Bool) (p : Nat) : Option (Nat × Nat) := inA (fun a b => tst M (if sw = true then wt l p + M - wt l (p + 1) else wt l p) a b && gg l M p sw a b) 10 0
def rowU (p : Nat) : Option (Nat × Nat) → List (List Int)
 | some (a, b) => [[(p : Int), (a : Int), (b : Int)]]
 | none => []
noncomputable def allU (l : List Int) (M : Nat) (sw : Bool) : Nat → Nat → List (List Int)
 | 0, _ => []
 | e + 1, p => rowU p (unA l M sw p) ++ allU l M sw e (p + 1)
section
variable {l : List Int} {M : Nat} (hM : 2 ≤ M) (hM2 : M ≤ 11) (hw : ∀ x ∈ l, 0 ≤ x ∧ x ≤ (M : Int)) (hl : l.length ≤ 12)
include hM hM2 hw hl
theorem allUntold_l0 (sw : Bool) (n : Nat) (hn : n + (if sw = true then 1 else 0) = l.length) : ∀ (e p : Nat) (acc : List (List Int)), p + e = n → acc.length ≤ p →
  Ev (fun k => impl_Check_allUntold.l0 k sw acc (n : Int) (p : Int) l (M : Int)) (acc ++ allU l M sw e p)
 | 0, p, acc, h, _ => Ev.step (fun _ => impl_Check_allUntold.l0.eq_2 ..) (Ev.neg (by omega) (Ev.eq (by rw [allU, List.append_nil]) (Ev.now _)))
 | e + 1, p, acc, h, ha => by
  have hs : (if sw = true then 2 else 1) = (if sw = true then 1 else 0) + 1 := by split <;> rfl
  refine Ev.step (fun _ => impl_Check_allUntold.l0.eq_2 ..) (Ev.pos (by omega) (Ev.bind (implU_f (M := M) (p := p) (sw := sw) hM hM2 hw hl (by rw [hs]; omega)) ?_))
  rw [show inA (fun a b => tst M (if sw = true then wt l p + M - wt l (p + 1) else wt l p) a b && gg l M p sw a b) 10 0 = unA l M sw p from rfl, wsucc (m := 100) (by omega) (by omega), allU]
  have hn12 : n ≤ 12 := by split at hn <;> omega
  cases ho : unA l M sw p with
  | none => exact Ev.neg (by simp [encI]) (Ev.eq (by rw [rowU, List.nil_append]) (allUntold_l0 sw n hn e (p + 1) acc (by omega) (by omega)))
  | some c =>
   obtain ⟨a, b⟩ := c
   refine Ev.pos rfl (Ev.pos (by omega) (Ev.eq ?_ (allUntold_l0 sw n hn e (p + 1) (acc ++ [[(p : Int), (a : Int), (b : Int)]]) (by omega) (by rw [List.length_append, List.length_singleton]; omega))))
   rw [rowU, List.append_assoc]
theorem allUntold_f (sw : Bool) (n : Nat) (hn : n + (if sw = true then 1 else 0) = l.length) : Ev (fun k => impl_Check_allUntold.f k l (M : Int) sw) (allU l M sw n 0) := by
 refine Ev.sm (bit_f sw) ?_
 have hn12 : n ≤ 12 := by split at hn <;> omega
 rw [show wrap64 ((l.length : Int) - (if sw = true then 1 else 0)) = (n : Int) by rw [w64 (by split <;> omega) (by split <;> omega)]; split at hn <;> split <;> first | omega | contradiction]
 have h := allUntold_l0 hM hM2 hw hl sw n hn n 0 [] (by omega) (by simp)
 rw [List.nil_append] at h
 exact h
theorem slList_l0 (sw : Bool) (n : Nat) (hn : n + (if sw = true then 1 else 0) = l.length) : ∀ (e p : Nat) (acc : List (List Int)), p + e = n → acc.length ≤ p →
  Ev (fun k => spec_slList.l0 k sw acc (l.length : Int) (p : Int) l (M : Int)) (acc ++ allU l M sw e p)
 | 0, p, acc, h, _ => by
  refine Ev.step (fun _ => spec_slList.l0.eq_2 ..) ?_
  cases hsw : sw with
  | true =>
   rw [hsw, if_pos rfl] at hn
   refine Ev.pos (by omega) (Ev.pos rfl ?_)
   rw [w64 (x := (l.length : Int) - 1) (by omega) (by omega), show ((p : Int) == (l.length : Int) - 1) = true by rw [beq_iff_eq]; omega]
   exact Ev.step (fun _ => spec_slList.j1.eq_2 ..) (Ev.pos rfl (Ev.eq (by rw [allU, List.append_nil]) (Ev.now _)))
  | false =>
   rw [hsw, if_neg (by decide)] at hn
   exact Ev.neg (by omega) (Ev.eq (by rw [allU, List.append_nil]) (Ev.now _))
 | e + 1, p, acc, h, ha => by
  have hs : (if sw = true then 2 else 1) = (if sw = true then 1 else 0) + 1 := by split <;> rfl
  have hn12 : n ≤ 12 := by split at hn <;> omega
  have hpl : p < l.length := by split at hn <;> omega
  have hj : Ev (fun k => spec_slList.j1 k sw acc (p : Int) (l.length : Int) (p : Int) false l (M : Int)) (acc ++ allU l M sw (e + 1) p) := by
   refine Ev.step (fun _ => spec_slList.j1.eq_2 ..) (Ev.neg (by decide) (Ev.bind (specU_f (M := M) (p := p) (sw := sw) hM hM2 hw hl (by rw [hs]; omega)) ?_))
   rw [show inA (fun a b => tst M (if sw = true then wt l p + M - wt l (p + 1) else wt l p) a b && gg l M p sw a b) 10 0 = unA l M sw p from rfl, wsucc (m := 100) (by omega) (by omega), allU]
   cases ho : unA l M sw p with
   | none => exact Ev.neg (by simp [encS]) (Ev.eq (by rw [rowU, List.nil_append]) (slList_l0 sw n hn e (p + 1) acc (by omega) (by omega)))
   | some c =>
    obtain ⟨a, b⟩ := c
    refine Ev.pos rfl (Ev.sm rfl (Ev.pos (by simp [encS]) (Ev.pos (by omega) (Ev.eq ?_ (slList_l0 sw n hn e (p + 1) (acc ++ [[(p : Int), (a : Int), (b : Int)]]) (by omega) (by rw [List.length_append, List.length_singleton]; omega))))))
    rw [rowU, List.append_assoc]
  refine Ev.step (fun _ => spec_slList.l0.eq_2 ..) (Ev.pos (by omega) ?_)
  by_cases hsw : sw = true
  ·refine Ev.pos hsw ?_
   rw [if_pos hsw] at hn
   rw [w64 (x := (l.length : Int) - 1) (by omega) (by omega), show ((p : Int) == (l.length : Int) - 1) = false by rw [beq_eq_false_iff_ne]; omega]
   exact hj
  ·exact Ev.neg hsw hj
theorem slList_f (sw : Bool) (n : Nat) (hn : n + (if sw = true then 1 else 0) = l.length) : Ev (fun k => spec_slList.f k l (M : Int) sw) (allU l M sw n 0) := by
 have h := slList_l0 hM hM2 hw hl sw n hn n 0 [] (by omega) (by simp)
 rw [List.nil_append] at h
 exact h
end
theorem inB_none {g : Nat → Bool} : ∀ e b, inB g e b = none ↔ ∀ c, b ≤ c → c < b + e → g c = false
 | 0, b => ⟨fun _ c h1 h2 => by omega, fun _ => rfl⟩
 | e + 1, b => by
  rw [inB]
  by_cases h : g b = true
  ·rw [if_pos h]
   exact ⟨fun h2 => (by cases h2), fun h2 => (by rw [h2 b (Nat.le_refl _) (by omega)] at h; cases h)⟩
  ·rw [if_neg h, inB_none e (b + 1)]
   refine ⟨fun h2 c h3 h4 => ?_, fun h2 c h3 h4 => h2 c (by omega) (by omega)⟩
   by_cases e : c = b
   ·subst e; simpa using h
   ·exact h2 c (by omega) (by omega)
theorem inA_none {g : Nat → Nat → Bool} : ∀ e a, a + e = 10 → (inA g e a = none ↔ ∀ a' b', a ≤ a' → a' < b' → b' < 10 → g a' b' = false)
 | 0, a, h => ⟨fun _ a' b' h1 h2 h3 => by omega, fun _ => rfl⟩
 | e + 1, a, h => by
  rw [inA]
  cases hb : inB (g a) (9 - a) (a + 1) with
  | some b =>
   refine ⟨fun h2 => (by cases h2), fun h2 => ?_⟩
   have : inB (g a) (9 - a) (a + 1) = none := (inB_none _ _).2 (fun c h3 h4 => h2 a c (Nat.le_refl _) (by omega) (by omega))
   rw [this] at hb; cases hb
  | none =>
   have ih := inA_none (g := g) e (a + 1) (by omega)
   show inA g e (a + 1) = none ↔ _
   rw [ih]
   refine ⟨fun h2 a' b' h3 h4 h5 => ?_, fun h2 a' b' h3 h4 h5 => h2 a' b' (by omega) h4 h5⟩
   by_cases e : a' = a
   ·subst e; exact (inB_none _ _).1 hb b' (by omega) (by omega)
   ·exact h2 a' b' (by omega) h4 h5
theorem pair_tells {M x : Nat} : (inA (fun a b => tst M x a b) 10 0).isSome = !tellsTo M x 9 := by
 cases hi : inA (fun a b => tst M x a b) 10 0 with
 | none =>
  have h := (inA_none 10 0 rfl).1 hi
  have : tellsTo M x 9 = true := by
   unfold tellsTo
   rw [List.all_eq_true]
   intro i hm
   rw [List.mem_range] at hm
   have h2 := h 0 (i + 1) (Nat.le_refl _) (by omega) (by omega)
   unfold tst at h2
   rw [decide_eq_false_iff_not, Nat.sub_zero] at h2
   rw [decide_eq_true_eq]; exact h2
  rw [this]; rfl
 | some c =>
  cases ht : tellsTo M x 9 with
  | false => rfl
  | true =>
   exfalso
   have : inA (fun a b => tst M x a b) 10 0 = none := (inA_none 10 0 rfl).2 (fun a b _ h2 h3 => by
    unfold tellsTo at ht
    rw [List.all_eq_true] at ht
    have h4 := ht (b - a - 1) (List.mem_range.2 (by omega))
    rw [decide_eq_true_eq, show b - a - 1 + 1 = b - a by omega] at h4
    unfold tst
    rw [decide_eq_false_iff_not]; exact h4)
   rw [this] at hi; cases hi
theorem slPair_f (l : List Int) {M x : Nat} (hM : 2 ≤ M) (hx : x ≤ 30) : ∃ y, Ev (fun k => spec_slPair.f k l (M : Int) (x : Int)) (y, !tellsTo M x 9) := by
 have h := pair_l0 (l := l) hM hx 10 0 rfl
 rw [← pair_tells]
 cases hi : inA (fun a b => tst M x a b) 10 0 with
 | none => rw [hi] at h; exact ⟨[], h⟩
 | some c => rw [hi] at h; exact ⟨_, h⟩
theorem sums_zero : ∀ ws : List Int, Sums ws 0
 | [] => rfl
 | w :: t => ⟨0, by omega, 0, sums_zero t, by simp⟩
noncomputable def sol (M : Nat) (l : List Int) : Bool := decide ((allU l M false l.length 0).length = 0) && decide ((allU l M true (l.length - 1) 0).length = 0)
theorem allU_none {l : List Int} {M : Nat} {sw : Bool} : ∀ e p, (allU l M sw e p).length = 0 → ∀ q, p ≤ q → q < p + e → unA l M sw q = none
 | 0, p, _, q, h1, h2 => by omega
 | e + 1, p, h, q, h1, h2 => by
  rw [allU, List.length_append] at h
  by_cases c : q = p
  ·subst c
   cases hu : unA l M sw q with
   | none => rfl
   | some c => rw [hu, rowU] at h; simp at h
  ·exact allU_none e (p + 1) (by omega) q (by omega) (by omega)
theorem adj_no {l : List Int} {M p : Nat} (hM : 2 ≤ M) (hM2 : M ≤ 11) (hp : p + 1 < l.length) (h : wt l p = wt l (p + 1)) : sol M l = false := by
 unfold sol
 rw [Bool.and_eq_false_iff]
 right
 rw [decide_eq_false_iff_not]
 intro h0
 have hn := allU_none _ _ h0 p (Nat.zero_le _) (by omega)
 unfold unA at hn
 have key : ∀ a b, a < b → b < 10 → a + b = M → False := by
  intro a b h1 h2 h3
  have hf := (inA_none 10 0 rfl).1 hn a b (Nat.zero_le _) h1 h2
  rw [if_pos rfl, ← h, Nat.add_sub_cancel_left] at hf
  have ht : tst M M a b = true := by unfold tst; rw [Nat.mul_mod_right]; rfl
  have hg : gg l M p true a b = true := by
   unfold gg
   rw [if_pos rfl, mad_t]
   refine ⟨0, sums_zero _, ?_⟩
   unfold own
   rw [if_pos rfl, ← h, ← Nat.mul_add, h3, Nat.add_zero, Nat.mul_mod_left]
  rw [ht, hg] at hf
  cases hf
 rcases Nat.lt_or_ge M 10 with c | c
 ·exact key 0 M (by omega) c (by omega)
 ·exact key (M - 9) 9 (by omega) (by omega) (by omega)
def fsW (f : Int → Option (List Int)) : List Int → Option (List Int)
 | [] => none
 | w :: t => match f w with
  | some x => some x
  | none => fsW f t
noncomputable def srch (M : Nat) : Nat → List Int → Option (List Int)
 | 0, l => if sol M l = true then some l else none
 | m + 1, l => fsW (fun w => srch M m (l ++ [w])) (goodL M M)
theorem fsW_none {f : Int → Option (List Int)} : ∀ ws, (∀ w ∈ ws, f w = none) → fsW f ws = none
 | [], _ => rfl
 | w :: t, h => by rw [fsW, h w List.mem_cons_self]; exact fsW_none t (fun x hx => h x (List.mem_cons_of_mem _ hx))
theorem wt_app {l : List Int} {w : Int} {p : Nat} (hp : p < l.length) : wt (l ++ [w]) p = wt l p := by
 unfold wt
 rw [List.getD_eq_getElem?_getD, List.getD_eq_getElem?_getD, List.getElem?_append_left hp]
theorem srch_adj {M : Nat} (hM : 2 ≤ M) (hM2 : M ≤ 11) : ∀ (m : Nat) (l : List Int) (p : Nat), p + 1 < l.length → wt l p = wt l (p + 1) → srch M m l = none
 | 0, l, p, hp, h => by rw [srch, adj_no hM hM2 hp h]; rfl
 | m + 1, l, p, hp, h => by
  rw [srch]
  refine fsW_none _ (fun w _ => srch_adj hM hM2 m (l ++ [w]) p (by rw [List.length_append]; omega) ?_)
  rw [wt_app (by omega), wt_app hp]; exact h
/-- The last weight once more: nothing is found. -/
theorem srch_last {M : Nat} (hM : 2 ≤ M) (hM2 : M ≤ 11) {m : Nat} {l : List Int} (hl : 0 < l.length) {w : Int} (hw : rd l ((l.length - 1 : Nat) : Int) = w) : srch M m (l ++ [w]) = none := by
 refine srch_adj hM hM2 m (l ++ [w]) (l.length - 1) (by rw [List.length_append, List.length_singleton]; omega) ?_
 rw [wt_app (by omega), show l.length - 1 + 1 = l.length by omega]
 unfold wt
 rw [rd_nat] at hw
 rw [hw, List.getD_eq_getElem?_getD, List.getElem?_append_right (Nat.le_refl _), Nat.sub_self]; rfl
/-- The numbers from a on. -/
def upf (a : Int) (n : Nat) : List Int := tab n (fun j => a + j)
theorem markIntS_l0 (l : List Int) (a : Int) (ha : 0 ≤ a ∧ a ≤ 100000000) (hl : l.length ≤ 100000000) : ∀ d n : Nat, n + d = l.length →
  Ev (fun k => laws_markIntS.l0 k (tab l.length (fun j => if j < n then a + j else rd l (j : Int))) (a + (n : Int)) (n : Int)) (a + (l.length : Int), upf a l.length)
 | 0, n, h => by
  refine Ev.step (fun _ => laws_markIntS.l0.eq_2 ..) (Ev.neg (by rw [tab_length]; omega) (Ev.eq ?_ (Ev.now _)))
  obtain rfl : n = l.length := by omega
  unfold upf
  rw [tab_congr (f := fun j => if j < l.length then a + j else rd l (j : Int)) (g := fun j => a + j) (fun j hj => if_pos hj)]
 | d + 1, n, h => by
  refine Ev.step (fun _ => laws_markIntS.l0.eq_2 ..) ?_
  rw [tab_length]
  refine Ev.pos (by omega) (Ev.pos (by omega) ?_)
  rw [Int.toNat_natCast, set_tab, wsucc (m := l.length) (by omega) (by omega), w64 (x := a + (n : Int) + 1) (by omega) (by omega)]
  rw [tab_congr (g := fun j => if j < n + 1 then a + j else rd l (j : Int)), show a + (n : Int) + 1 = a + ((n + 1 : Nat) : Int) by omega]
  ·exact markIntS_l0 l a ha hl d (n + 1) (by omega)
  ·intro j _
   by_cases e : j = n
   ·subst e; rw [if_pos rfl, if_pos (by omega)]
   ·rw [if_neg e]
    by_cases e2 : j < n
    ·rw [if_pos e2, if_pos (by omega)]
    ·rw [if_neg e2, if_neg (by omega)]
theorem markIntS_f (l : List Int) (a : Int) (ha : 0 ≤ a ∧ a ≤ 100000000) (hl : l.length ≤ 100000000) : Ev (fun k => laws_markIntS.f k l a) (a + (l.length : Int), upf a l.length) := by
 have h := markIntS_l0 l a ha hl l.length 0 (by omega)
 rw [tab_congr (f := fun j => if j < 0 then a + j else rd l (j : Int)) (g := fun j => rd l (j : Int)) (fun j _ => if_neg (by omega)), tab_self, show a + ((0 : Nat) : Int) = a by omega] at h
 exact h
theorem heldIntS_l0 (m : Nat) (a : Int) (ha : 0 ≤ a ∧ a ≤ 100000000) (hl : m ≤ 100000000) : ∀ d n : Nat, n + d = m →
  Ev (fun k => laws_heldIntS.l0 k (upf a m) (a + (n : Int)) (n : Int)) (a + (m : Int))
 | 0, n, h => by
  obtain rfl : n = m := by omega
  exact Ev.step (fun _ => laws_heldIntS.l0.eq_2 ..) (Ev.neg (by unfold upf; rw [tab_length]; omega) (Ev.now _))
 | d + 1, n, h => by
  refine Ev.step (fun _ => laws_heldIntS.l0.eq_2 ..) ?_
  have hr : rd (upf a m) (n : Int) = a + n := rd_tab (by omega)
  have hlen : (upf a m).length = m := tab_length ..
  rw [hr, hlen]
  refine Ev.pos (by omega) (Ev.pos (by omega) (Ev.pos rfl ?_))
  rw [wsucc (m := m) (by omega) (by omega), w64 (x := a + (n : Int) + 1) (by omega) (by omega), show a + (n : Int) + 1 = a + ((n + 1 : Nat) : Int) by omega]
  exact heldIntS_l0 m a ha hl d (n + 1) (by omega)
theorem heldIntS_f (m : Nat) (a : Int) (ha : 0 ≤ a ∧ a ≤ 100000000) (hl : m ≤ 100000000) : Ev (fun k => laws_heldIntS.f k (upf a m) a) (a + (m : Int)) := by
 have h := heldIntS_l0 m a ha hl m 0 (by omega)
 rw [show a + ((0 : Nat) : Int) = a by omega] at h
 exact h
def okW (M : Nat) (l : List Int) : Prop := ∀ x ∈ l, 0 ≤ x ∧ x ≤ (M : Int)
theorem okW_app {M x : Nat} {l : List Int} (h : okW M l) (hx : x < M) : okW M (l ++ [(x : Int)]) := by
 intro y hy
 rcases List.mem_append.1 hy with h1 | h1
 ·exact h y h1
 ·rw [List.mem_singleton] at h1; omega
theorem leaf_f {M : Nat} {l : List Int} (hM : 2 ≤ M) (hM2 : M ≤ 11) (hw : okW M l) (hl : l.length ≤ 12) (h1 : 1 ≤ l.length) : Ev (fun k => leafF k (M : Int) l) (if sol M l = true then some l else none) := by
 unfold leafF sol
 refine Ev.bind (allUntold_f hM hM2 hw hl false l.length (by simp)) ?_
 by_cases c : (allU l M false l.length 0).length = 0
 ·refine Ev.pos c (Ev.bind (allUntold_f hM hM2 hw hl true (l.length - 1) (by rw [if_pos rfl]; omega)) ?_)
  rw [decide_eq_true c, Bool.true_and]
  by_cases c2 : (allU l M true (l.length - 1) 0).length = 0
  ·rw [decide_eq_true c2, if_pos rfl]; exact Ev.pos c2 (Ev.now _)
  ·rw [decide_eq_false c2, if_neg Bool.false_ne_true]; exact Ev.neg c2 (Ev.now _)
 ·rw [decide_eq_false c, Bool.false_and, if_neg Bool.false_ne_true]
  exact Ev.neg c (Ev.now _)
def goodFrom (M x e : Nat) : List Int := ((List.range' x e).filter (fun w => tellsTo M w 9)).map (fun w : Nat => (w : Int))
theorem good_from (M : Nat) : goodL M M = goodFrom M 0 M := by unfold goodL goodFrom; rw [List.range_eq_range']
theorem from_step (M x e : Nat) : goodFrom M x (e + 1) = if tellsTo M x 9 = true then (x : Int) :: goodFrom M (x + 1) e else goodFrom M (x + 1) e := by
 unfold goodFrom
 rw [List.range'_succ]
 by_cases c : tellsTo M x 9 = true
 ·rw [if_pos c, List.filter_cons_of_pos (by exact c)]; rfl
 ·rw [if_neg c, List.filter_cons_of_neg (by exact c)]
theorem good_mem {M n : Nat} {w : Int} (h : w ∈ goodL M n) : ∃ x : Nat, x < n ∧ w = (x : Int) := by
 unfold goodL at h
 obtain ⟨x, hx, rfl⟩ := List.mem_map.1 h
 exact ⟨x, List.mem_range.1 (List.mem_filter.1 hx).1, rfl⟩
theorem impl_find {M : Nat} (hM : 2 ≤ M) (hM2 : M ≤ 11) : ∀ (m : Nat) (l : List Int), okW M l → l.length + m ≤ 6 → 1 ≤ l.length + m → Ev (fun k => findF k ((l.length + m : Nat) : Int) (M : Int) (goodL M M) l) (srch M m l)
 | 0, l, hw, hl, h1 => by
  refine Ev.step (fun _ => findF.eq_2 ..) ?_
  exact Ev.pos (by omega) (Ev.pos rfl (leaf_f hM hM2 hw (by omega) (by omega)))
 | m + 1, l, hw, hl, h1 => by
  have hloop : ∀ (ws : List Int) (j : Nat), (goodL M M).drop j = ws → Ev (fun k => loopF k ((l.length + (m + 1) : Nat) : Int) (M : Int) (goodL M M) l j) (fsW (fun w => srch M m (l ++ [w])) ws) := by
   intro ws
   induction ws with
   | nil =>
    intro j hj
    have := drop_nil hj
    refine Ev.step (fun _ => loopF.eq_2 ..) ?_
    exact Ev.neg (by omega) (Ev.now _)
   | cons w t ih =>
    intro j hj
    obtain ⟨h2, h3, h4⟩ := drop_cons hj
    have hr : rd (goodL M M) (j : Int) = w := by rw [rd_nat, List.getD_eq_getElem?_getD, h3]; rfl
    obtain ⟨x, hx, hwx⟩ := good_mem (M := M) (n := M) (w := w) (by rw [← List.take_append_drop j (goodL M M), hj]; exact List.mem_append_right _ List.mem_cons_self)
    have hrec := impl_find hM hM2 m (l ++ [w]) (by rw [hwx]; exact okW_app hw hx) (by rw [List.length_append, List.length_singleton]; omega) (by rw [List.length_append, List.length_singleton]; omega)
    rw [List.length_append, List.length_singleton, show l.length + 1 + m = l.length + (m + 1) by omega] at hrec
    refine Ev.step (fun _ => loopF.eq_2 ..) ?_
    rw [hr]
    refine Ev.pos h2 (Ev.bind hrec ?_)
    rw [fsW]
    cases hs : srch M m (l ++ [w]) with
    | some l2 => exact Ev.now _
    | none => exact ih (j + 1) h4
  refine Ev.step (fun _ => findF.eq_2 ..) ?_
  exact Ev.pos (by omega) (Ev.neg (by omega) (hloop _ 0 rfl))
def Enc (f : Nat → Option (List Int × Bool)) (res : Option (List Int)) : Prop := ∃ y, Ev f (y, res.isSome) ∧ ∀ z, res = some z → y = z
theorem l1Own_f {l : List Int} (h : l.length ≤ 1000) : spec_l1Own.f l = some l := by
 unfold spec_l1Own.f
 rw [Option.bind_some, if_pos (by simp; omega), List.nil_append]
theorem spec_best {M : Nat} (hM : 2 ≤ M) (hM2 : M ≤ 11) : ∀ (m : Nat) (l : List Int), okW M l → l.length + m ≤ 6 → 1 ≤ l.length + m → Enc (fun k => spec_slBest.f k (m : Int) l (M : Int)) (srch M m l) ∧ (1 ≤ m → Ev (fun k => spec_slBest.f k (m : Int) l (M : Int)) (bestA (srch M m l)))
 | 0, l, hw, hl, h1 => by
  refine ⟨⟨l, ?_, fun z hz => by rw [srch] at hz; split at hz <;> cases hz; rfl⟩, fun h => by omega⟩
  refine Ev.step (fun _ => spec_slBest.f.eq_2 ..) (Ev.pos rfl (Ev.bind (slList_f hM hM2 hw (by omega) false l.length (by simp)) ?_))
  rw [srch]
  unfold sol
  by_cases c : (allU l M false l.length 0).length = 0
  ·refine Ev.pos (by omega) (Ev.bind (slList_f hM hM2 hw (by omega) true (l.length - 1) (by rw [if_pos rfl]; omega)) ?_)
   rw [decide_eq_true c, Bool.true_and]
   by_cases c2 : (allU l M true (l.length - 1) 0).length = 0
   ·rw [decide_eq_true c2, if_pos rfl, c2]; exact Ev.now _
   ·rw [decide_eq_false c2, if_neg Bool.false_ne_true]
    refine Ev.eq ?_ (Ev.now _)
    rw [show (((allU l M true (l.length - 1) 0).length : Int) == 0) = false by rw [beq_eq_false_iff_ne]; omega]; rfl
  ·rw [decide_eq_false c, Bool.false_and, if_neg Bool.false_ne_true]
   exact Ev.neg (by omega) (Ev.now _)
 | m + 1, l, hw, hl, h1 => by
  have hloop : ∀ e x : Nat, x + e = M → Ev (fun k => spec_slBest.l0 k ((m + 1 : Nat) : Int) (x : Int) l (M : Int)) (bestA (fsW (fun w => srch M m (l ++ [w])) (goodFrom M x e))) := by
   intro e
   induction e with
   | zero => intro x hx; exact Ev.step (fun _ => spec_slBest.l0.eq_2 ..) (Ev.neg (by omega) (Ev.now _))
   | succ e ih =>
    intro x hx
    obtain ⟨y1, hy1⟩ := slPair_f l hM (x := x) (by omega)
    have ihx := ih (x + 1) (by omega)
    have hnext : wrap64 ((x : Int) + 1) = ((x + 1 : Nat) : Int) := wsucc (m := 20) (by omega) (by omega)
    have hskip : ∀ r, Ev (fun k => spec_slBest.l0 k ((m + 1 : Nat) : Int) ((x + 1 : Nat) : Int) l (M : Int)) r → Ev (fun k => spec_slBest.j1 k ((m + 1 : Nat) : Int) (x : Int) true l (M : Int)) r := by
     intro r h2
     refine Ev.step (fun _ => spec_slBest.j1.eq_2 ..) (Ev.pos rfl ?_)
     rw [hnext]; exact h2
    have hmain : ∀ r, Ev (fun k => spec_slBest.l0 k ((m + 1 : Nat) : Int) ((x + 1 : Nat) : Int) l (M : Int)) (bestA r) → Ev (fun k => spec_slBest.j1 k ((m + 1 : Nat) : Int) (x : Int) false l (M : Int)) (bestA (match srch M m (l ++ [(x : Int)]) with | some z => some z | none => r)) := by
     intro r h2
     obtain ⟨y2, h4, h5⟩ := (spec_best hM hM2 m (l ++ [(x : Int)]) (okW_app hw (by omega)) (by rw [List.length_append, List.length_singleton]; omega) (by rw [List.length_append, List.length_singleton]; omega)).1
     have hm1 : wrap64 (((m + 1 : Nat) : Int) - 1) = (m : Int) := by rw [w64 (by omega) (by omega)]; omega
     refine Ev.step (fun _ => spec_slBest.j1.eq_2 ..) (Ev.neg Bool.false_ne_true (Ev.sm (l1Own_f (by omega)) (Ev.sm rfl (Ev.pos (by simp; omega) ?_))))
     rw [hm1, hnext]
     cases hs : srch M m (l ++ [(x : Int)]) with
     | some z =>
      rw [hs] at h4
      obtain rfl := h5 z hs
      exact Ev.bind h4 (Ev.pos rfl (Ev.now _))
     | none =>
      rw [hs] at h4
      exact Ev.bind h4 (Ev.neg Bool.false_ne_true h2)
    refine Ev.step (fun _ => spec_slBest.l0.eq_2 ..) (Ev.pos (by omega) (Ev.bind hy1 ?_))
    rw [from_step]
    by_cases ht : tellsTo M x 9 = true
    ·rw [if_pos ht, fsW, ht]
     have hm := hmain _ ihx
     by_cases hlen : 0 < l.length
     ·have hw1 : wrap64 ((l.length : Int) - 1) = ((l.length - 1 : Nat) : Int) := by rw [w64 (by omega) (by omega)]; omega
      rw [hw1]
      by_cases hlast : rd l ((l.length - 1 : Nat) : Int) = (x : Int)
      ·have hno := srch_last hM hM2 (m := m) hlen hlast
       rw [hno]
       refine Ev.neg (fun h => Bool.noConfusion h) (Ev.pos (by omega) (Ev.pos (by omega) (Ev.pos (by omega) ?_)))
       rw [beq_iff_eq.2 hlast]; exact hskip _ ihx
      ·refine Ev.neg (fun h => Bool.noConfusion h) (Ev.pos (by omega) (Ev.pos (by omega) (Ev.pos (by omega) ?_)))
       rw [beq_eq_false_iff_ne.2 hlast]; exact hm
     ·exact Ev.neg (fun h => Bool.noConfusion h) (Ev.neg (by omega) hm)
    ·rw [if_neg ht]
     exact Ev.pos (by rw [Bool.not_eq_true']; simpa using ht) (hskip _ ihx)
  have h2 := hloop M 0 (by omega)
  rw [← good_from] at h2
  have h3 : Ev (fun k => spec_slBest.f k ((m + 1 : Nat) : Int) l (M : Int)) (bestA (srch M (m + 1) l)) := Ev.step (fun _ => spec_slBest.f.eq_2 ..) (Ev.neg (by omega) h2)
  refine ⟨?_, fun _ => h3⟩
  cases hs : srch M (m + 1) l with
  | some z => rw [hs] at h3; exact ⟨z, h3, fun z2 h => Option.some.inj h⟩
  | none => rw [hs] at h3; exact ⟨[], h3, fun z2 h => by cases h⟩
theorem srch_len {M : Nat} : ∀ (m : Nat) (l z : List Int), srch M m l = some z → z.length = l.length + m
 | 0, l, z, h => by
  rw [srch] at h
  split at h
  ·cases h; rfl
  ·cases h
 | m + 1, l, z, h => by
  rw [srch] at h
  have hf : ∀ ws, fsW (fun w => srch M m (l ++ [w])) ws = some z → z.length = l.length + (m + 1) := by
   intro ws
   induction ws with
   | nil => intro h; cases h
   | cons w t ih =>
    intro h
    rw [fsW] at h
    cases hs : srch M m (l ++ [w]) with
    | some z2 =>
     rw [hs] at h
     obtain rfl := Option.some.inj h
     have := srch_len m _ _ hs
     rw [List.length_append, List.length_singleton] at this
     omega
    | none => rw [hs] at h; exact ih h
  exact hf _ h
noncomputable def bwAns (a b : Int) : List Int × Bool := if (2 ≤ a ∧ a ≤ 6) ∧ 2 ≤ b ∧ b ≤ 11 then bestA (srch b.toNat a.toNat []) else ([], false)
theorem bw_len (a b : Int) : (bwAns a b).1.length ≤ 6 := by
 unfold bwAns
 split
 ·rename_i h
  cases hs : srch b.toNat a.toNat [] with
  | none => exact Nat.zero_le _
  | some z =>
   have := srch_len _ _ _ hs
   show z.length ≤ 6
   simp at this; omega
 ·exact Nat.zero_le _
theorem specBW_f (a b : Int) : Ev (fun k => spec_BestWeights.f k a b) (bwAns a b) := by
 unfold bwAns
 refine Ev.sm (l1In_f _ _ _) ?_
 by_cases ha : 2 ≤ a ∧ a ≤ 6
 ·refine Ev.pos (by rw [decide_eq_true ha.1, decide_eq_true ha.2]; rfl) (Ev.sm (l1In_f _ _ _) ?_)
  by_cases hb : 2 ≤ b ∧ b ≤ 11
  ·rw [if_pos ⟨ha, hb⟩]
   obtain ⟨P, rfl⟩ : ∃ P : Nat, a = (P : Int) := ⟨a.toNat, by omega⟩
   obtain ⟨M, rfl⟩ : ∃ M : Nat, b = (M : Int) := ⟨b.toNat, by omega⟩
   rw [Int.toNat_natCast, Int.toNat_natCast]
   exact Ev.pos (by rw [decide_eq_true hb.1, decide_eq_true hb.2]; rfl) (Ev.bind ((spec_best (M := M) (by omega) (by omega) P [] (fun x hx => by cases hx) (by simp; omega) (by simp; omega)).2 (by omega)) (Ev.now _))
  ·rw [if_neg (fun h => hb h.2)]
   exact Ev.neg (by rw [Bool.and_eq_true, decide_eq_true_eq, decide_eq_true_eq]; exact hb) (Ev.now _)
 ·rw [if_neg (fun h => ha h.1)]
  exact Ev.neg (by rw [Bool.and_eq_true, decide_eq_true_eq, decide_eq_true_eq]; exact ha) (Ev.now _)
theorem implBW_f (a b : Int) : Ev (fun k => impl_BestWeights.f k a b) (bwAns a b) := by
 unfold bwAns impl_BestWeights.f
 by_cases h : (2 ≤ a ∧ a ≤ 6) ∧ 2 ≤ b ∧ b ≤ 11
 ·rw [if_pos h]
  refine Ev.pos h ?_
  obtain ⟨ha, hb⟩ := h
  obtain ⟨P, rfl⟩ : ∃ P : Nat, a = (P : Int) := ⟨a.toNat, by omega⟩
  obtain ⟨M, rfl⟩ : ∃ M : Nat, b = (M : Int) := ⟨b.toNat, by omega⟩
  have h2 := impl_find (M := M) (by omega) (by omega) P [] (fun x hx => by cases hx) (by simp; omega) (by simp; omega)
  simp only [List.length_nil, Nat.zero_add] at h2
  rw [Int.toNat_natCast, Int.toNat_natCast]
  obtain ⟨K, h3⟩ := h2
  refine ⟨K, fun k hk => ?_⟩
  have h4 : findF k (P : Int) (M : Int) (goodL M M) [] = _ := h3 k hk
  show (findF k (P : Int) (M : Int) (goodL M M) []).map bestA = _
  rw [h4]; rfl
 ·rw [if_neg h]
  exact Ev.neg h (Ev.now _)
theorem FnExactBestWeights : laws_FnExactBestWeights.Pure := by
 intro a b _ _
 refine Ev.rounds (g := fun k => laws_FnExactBestWeights.f k a b) ?_
 unfold laws_FnExactBestWeights.f
 have hr := bw_len a b
 have he : Ev (fun k => laws_eqIntS.f k (bwAns a b).1 (bwAns a b).1) true := eqIntS_f _ (by omega)
 refine Ev.bind (specBW_f a b) (Ev.bind (implBW_f a b) (Ev.bind he (Ev.pos rfl ?_)))
 refine Ev.step (fun _ => laws_FnExactBestWeights.j0.eq_2 ..) (Ev.neg (by simp) (Ev.bind (markIntS_f _ 1 (by omega) (by omega)) (Ev.bind (heldIntS_f _ 1 (by omega) (by omega)) (Ev.neg (by omega) (Ev.pos rfl (Ev.bind (implBW_f a b) (Ev.bind he (Ev.pos rfl ?_))))))))
 exact Ev.step (fun _ => laws_FnExactBestWeights.j1.eq_2 ..) (Ev.neg (by simp) (Ev.bind (heldIntS_f _ 1 (by omega) (by omega)) (Ev.neg (by omega) (Ev.pos rfl (Ev.now _)))))
end Go.Proofs.Ytkbbmkbkpkmdkac.Pure
