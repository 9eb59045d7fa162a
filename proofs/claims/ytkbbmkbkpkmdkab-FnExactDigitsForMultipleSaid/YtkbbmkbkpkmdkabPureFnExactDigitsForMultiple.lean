/- The plain law of FnExactDigitsForMultiple: at all arguments the printed function of the law answers true after some number of rounds. Conditions: none beyond the bounds that the printed statement itself bears. -/
import Derived.Test.YtkbbmkbkpkmdkabQFnExactDigitsForMultiplex3
import Derived.Lib.ItoaNum
namespace Go.Proofs.Ytkbbmkbkpkmdkab.Pure
open Go.RowKit Go.Proofs.Ytkbbmkbkpkmdkab.QFnExactDigitsForMultiple Go.Proofs.YtkbbmkbkpkmdkabW.PrintWords Go.Proofs.YtkbbmkbkpkmdkabW.PrintLast Go.Proofs.Ytkbbmkbkpkmdkab.Ext
set_option linter.unusedVariables false


/-! ## base -/
/-! numbers in 64 bits -/
theorem w64 {x : Int} (h1 : -9223372036854775808 ≤ x) (h2 : x ≤ 9223372036854775807) : wrap64 x = x := by unfold wrap64; omega
theorem w64n {x : Nat} (h2 : x ≤ 9223372036854775807) : wrap64 (x : Int) = (x : Int) := w64 (by omega) (by omega)
theorem wf64 {x : Int} (h : (Lit.int .i64 x).wf = true) : -9223372036854775808 ≤ x ∧ x ≤ 9223372036854775807 := by
  have hmin : IntKind.i64.min = -9223372036854775808 := rfl
  have hmax : IntKind.i64.max = 9223372036854775807 := rfl
  simp only [Lit.wf, Bool.and_eq_true, decide_eq_true_eq, hmin, hmax] at h
  exact h
theorem tmodN (a b : Nat) : Int.tmod (a : Int) (b : Int) = ((a % b : Nat) : Int) := rfl
theorem tdivN (a b : Nat) : Int.tdiv (a : Int) (b : Int) = ((a / b : Nat) : Int) := rfl
theorem tmod_nn {a b : Int} (h : 0 ≤ a) : Int.tmod a b = a % b := Int.tmod_eq_emod_of_nonneg h
theorem tdiv_nn {a b : Int} (h : 0 ≤ a) : Int.tdiv a b = a / b := Int.tdiv_eq_ediv_of_nonneg h
/-! from some number of rounds on -/
theorem Ev.pos {α : Type} {c : Prop} [Decidable c] {f g : Nat → Option α} {r : α} (h : c) (e : Ev f r) : Ev (fun k => if c then f k else g k) r := by simpa only [if_pos h] using e
theorem Ev.neg {α : Type} {c : Prop} [Decidable c] {f g : Nat → Option α} {r : α} (h : ¬ c) (e : Ev g r) : Ev (fun k => if c then f k else g k) r := by simpa only [if_neg h] using e
theorem Ev.sm {α β : Type} {f : Nat → α → Option β} {a : α} {o : Option α} {r : β} (h : o = some a) (e : Ev (fun n => f n a) r) : Ev (fun n => o.bind (f n)) r := by subst h; simpa only [Option.bind_some] using e
theorem Ev.eq {α : Type} {f : Nat → Option α} {r r' : α} (h : r' = r) (e : Ev f r) : Ev f r' := h ▸ e
theorem Ev.of_some {α : Type} {o : Option α} {r : α} (h : o = some r) : Ev (fun _ => o) r := ⟨0, fun _ _ => h⟩
theorem Ev.uniq {α : Type} {g : Nat → Option α} {r q : α} (h : Ev g r) (h' : Ev g q) : r = q := by
  obtain ⟨K, h⟩ := h
  obtain ⟨K', h'⟩ := h'
  have := (h (max K K') (by omega)).symm.trans (h' (max K K') (by omega))
  exact Option.some.inj this
/-! a string as a list of numbers -/
def L (s : ByteArray) : List Int := s.data.toList.map (fun c => (c.toNat : Int))
theorem L_length (s : ByteArray) : (L s).length = s.size := by simp [L]
theorem bt_lo (s : ByteArray) (i : Int) : 0 ≤ bt s i := by unfold bt; split <;> omega
theorem bt_hi (s : ByteArray) (i : Int) : bt s i ≤ 255 := by
  unfold bt; split
  · have := UInt8.toNat_lt (s[i.toNat]); omega
  · omega
theorem bt_L (s : ByteArray) (n : Nat) : bt s (n : Int) = (L s).getD n 0 := by
  unfold bt L
  by_cases h : n < s.size
  · simp [h, List.getD_eq_getElem?_getD]; rfl
  · simp [h, List.getD_eq_getElem?_getD]
theorem L_get (s : ByteArray) (n : Nat) (h : n < s.size) : (L s)[n]? = some (bt s n) := by
  rw [bt_L, List.getD_eq_getElem?_getD]
  have : n < (L s).length := by rw [L_length]; exact h
  simp [this]
theorem L_mem {s : ByteArray} {c : Int} (h : c ∈ L s) : 0 ≤ c ∧ c ≤ 255 := by
  unfold L at h
  obtain ⟨u, _, rfl⟩ := List.mem_map.1 h
  have := UInt8.toNat_lt u
  omega
theorem map_toNat_inj : ∀ (l m : List UInt8), l.map (fun c => (c.toNat : Int)) = m.map (fun c => (c.toNat : Int)) → l = m
  | [], [], _ => rfl
  | [], _ :: _, h => by simp at h
  | _ :: _, [], h => by simp at h
  | a :: l, b :: m, h => by
    simp only [List.map_cons, List.cons.injEq] at h
    have h1 : a = b := by apply UInt8.toNat_inj.1; omega
    rw [h1, map_toNat_inj l m h.2]
theorem L_inj {s t : ByteArray} (h : L s = L t) : s = t := by
  have := map_toNat_inj _ _ h
  cases s; cases t
  congr 1
  exact Array.toList_inj.1 this
theorem toList_L {s t : ByteArray} : s.data.toList = t.data.toList ↔ L s = L t := by
  constructor
  · intro h; unfold L; rw [h]
  · intro h; exact map_toNat_inj _ _ h
theorem L_append (s t : ByteArray) : L (s ++ t) = L s ++ L t := by
  unfold L
  rw [ByteArray.data_append]
  simp
/-- The rest of a list from a place on. -/
theorem drop_cons {α : Type} {l : List α} {n : Nat} {c : α} {t : List α} (h : l.drop n = c :: t) : n < l.length ∧ l[n]? = some c ∧ l.drop (n + 1) = t := by
  have h1 : n < l.length := by
    by_cases h1 : n < l.length
    · exact h1
    · rw [List.drop_eq_nil_of_le (by omega)] at h; cases h
  rw [List.drop_eq_getElem_cons h1] at h
  simp only [List.cons.injEq] at h
  exact ⟨h1, by rw [List.getElem?_eq_getElem h1, h.1], h.2⟩
theorem drop_nil {α : Type} {l : List α} {n : Nat} (h : l.drop n = []) : l.length ≤ n := by simpa using h
theorem sdrop_cons {s : ByteArray} {n : Nat} {c : Int} {t : List Int} (h : (L s).drop n = c :: t) : n < s.size ∧ bt s n = c ∧ (L s).drop (n + 1) = t := by
  obtain ⟨h1, h2, h3⟩ := drop_cons h
  rw [L_length] at h1
  rw [L_get s n h1] at h2
  exact ⟨h1, Option.some.inj h2, h3⟩
theorem sdrop_nil {s : ByteArray} {n : Nat} (h : (L s).drop n = []) : s.size ≤ n := by have := drop_nil h; rwa [L_length] at this
theorem wsucc {n m : Nat} (h : n < m) (hm : m ≤ 140737488355328) : wrap64 ((n : Int) + 1) = ((n + 1 : Nat) : Int) := by rw [w64 (by omega) (by omega)]; rfl
/-! digits -/
def isD (c : Int) : Bool := decide (48 ≤ c) && decide (c ≤ 57)
theorem isD_t {c : Int} : isD c = true ↔ 48 ≤ c ∧ c ≤ 57 := by simp [isD]
theorem isD_f {c : Int} : isD c = false ↔ c < 48 ∨ 57 < c := by
  rw [← Bool.not_eq_true, isD_t]; omega
theorem dig_mod {c : Int} (h : isD c = true) : (c - 48) % 256 = c - 48 := by rw [isD_t] at h; omega
/-! ## multRun -/
/-! impl.multiple's breadth first run, and the run that stops where the rest 0 is first met -/
abbrev StN := List Nd × List Bool
/-- The nodes up to there are kept. -/
def Ext2 (a b : List Nd) : Prop := a.length ≤ b.length ∧ ∀ k, k < a.length → ndOf b k = ndOf a k
theorem Ext2.refl (a : List Nd) : Ext2 a a := ⟨Nat.le_refl _, fun _ _ => rfl⟩
theorem Ext2.trans {a b c : List Nd} (h : Ext2 a b) (k : Ext2 b c) : Ext2 a c := ⟨Nat.le_trans h.1 k.1, fun j hj => (k.2 j (Nat.lt_of_lt_of_le hj h.1)).trans (h.2 j hj)⟩
theorem Ext2.push (n : Nat) (s : StN) (b : Int) (r : Nat) (d : Int) : Ext2 s.1 (pushN n s b r d).1 := ⟨push_len n s b r d, fun _ hk => push_old n s b r d hk⟩
def pushesN (n : Nat) (D : List Int) (s : StN) (b : Int) (r : Nat) : StN := D.foldl (fun s d => pushN n s b r d) s
theorem round_pushes (n : Nat) (D : List Int) (s : StN) (i r : Nat) : roundN n D s i r = pushesN n D s (i : Int) r := rfl
theorem Ext2.round (n : Nat) (i : Int) (r : Nat) : ∀ (D : List Int) (s : StN), Ext2 s.1 (pushesN n D s i r).1
  | [], s => Ext2.refl _
  | d :: D, s => (Ext2.push n s i r d).trans (Ext2.round n i r D _)
def GoodS (n : Nat) (s : StN) : Prop := GoodN n s.1 s.2
def digsD (D : List Int) : Prop := ∀ d ∈ D, 48 ≤ d ∧ d ≤ 57
theorem GoodS.round {n : Nat} (h1 : 1 ≤ n) {i : Int} (hi0 : -1 ≤ i) (r : Nat) : ∀ (D : List Int) (s : StN), digsD D → i < s.1.length → GoodS n s → GoodS n (pushesN n D s i r)
  | [], s, _, _, h => h
  | d :: D, s, hD, hi, h => by
    have hl := push_len n s i r d
    have hg : GoodS n (pushN n s i r d) := GoodN.push h h1 hi0 hi (hD d List.mem_cons_self)
    exact GoodS.round h1 hi0 r D (pushN n s i r d) (fun x hx => hD x (List.mem_cons_of_mem _ hx)) (by omega) hg
/-- The path of a node by any rounds that are enough, in any longer list. -/
theorem pathL_eq {a b : List Nd} (h : ∀ k, k < a.length → ndOf b k = ndOf a k ∧ (ndOf a k).2.1 < k) : ∀ (f f' : Nat) (k : Int), k < a.length → k < f → k < f' → pathL b f' k = pathL a f k
  | 0, f', k, _, h0, _ => by
    cases f' with
    | zero => rfl
    | succ f' =>
      show pathL b (f' + 1) k = []
      rw [pathL, if_pos (by omega)]
  | f + 1, 0, k, _, _, h0 => by rw [pathL, pathL, if_pos (by omega)]
  | f + 1, f' + 1, k, hk, h1, h2 => by
    rw [pathL, pathL]
    by_cases c : k < 0
    · rw [if_pos c, if_pos c]
    · rw [if_neg c, if_neg c]
      obtain ⟨e1, e2⟩ := h k.toNat (by omega)
      rw [e1, pathL_eq h f f' _ (by omega) (by omega) (by omega)]
theorem path_ext {n : Nat} {a b : List Nd} {met : List Bool} (g : GoodN n a met) (h : Ext2 a b) {f f' : Nat} {k : Int} (hk : k < a.length) (h1 : k < f) (h2 : k < f') : pathL b f' k = pathL a f k :=
  pathL_eq (fun j hj => ⟨h.2 j hj, (g.nd j hj).2.2.2.1⟩) f f' k hk h1 h2
/-- A node with rest 0 is laid at j, none ahead of it: the run answers its path. -/
theorem run_found {n : Nat} (h1 : 1 ≤ n) {D : List Int} (hD : digsD D) : ∀ (f i j : Nat) (s : StN), GoodS n s → i ≤ j → j < s.1.length → (∀ k, k < j → (ndOf s.1 k).1 ≠ 0) → (ndOf s.1 j).1 = 0 → j < f + i →
    Ext.runN n D f i s = some (some (pathL s.1 (j + 1) (j : Int)).reverse)
  | 0, i, j, s, _, hij, _, _, _, hf => by omega
  | f + 1, i, j, s, g, hij, hj, hn, h0, hf => by
    rw [Ext.runN, if_pos (by omega)]
    by_cases e : i = j
    · subst e; rw [if_pos h0]
    · rw [if_neg (hn i (by omega)), round_pushes]
      have hx := Ext2.round n (i : Int) (ndOf s.1 i).1.toNat D s
      have hg := GoodS.round (i := (i : Int)) h1 (by omega) (ndOf s.1 i).1.toNat D s hD (by omega) g
      rw [run_found h1 hD f (i + 1) j _ hg (by omega) (Nat.lt_of_lt_of_le hj hx.1) (fun k hk => by rw [hx.2 k (by omega)]; exact hn k hk) (by rw [hx.2 j hj]; exact h0) (by omega)]
      rw [path_ext g hx (by omega) (show (j : Int) < ((j + 1 : Nat) : Int) by omega) (by omega)]
/-- No node has the rest 0. -/
def NZ (s : StN) : Prop := s.2.getD 0 true = false ∧ ∀ k, k < s.1.length → (ndOf s.1 k).1 ≠ 0
theorem NZ.push {n : Nat} {s : StN} (h : NZ s) {b : Int} {r : Nat} {d : Int} (hq : pushR n r d ≠ 0) : NZ (pushN n s b r d) := by
  unfold pushN
  split
  · exact h
  · refine ⟨?_, fun k hk => ?_⟩
    · have h0 := h.1
      rw [List.getD_eq_getElem?_getD] at h0 ⊢
      rw [List.getElem?_set_ne hq]; exact h0
    · simp only [List.length_append, List.length_singleton] at hk
      by_cases e : k < s.1.length
      · show (ndOf (s.1 ++ _) k).1 ≠ 0
        rw [ndOf_old e]; exact h.2 k e
      · obtain rfl : k = s.1.length := by omega
        show (ndOf (s.1 ++ _) s.1.length).1 ≠ 0
        rw [ndOf_new]; simp only []; omega
/-- The digits from a node on, up to one that gives the rest 0. -/
def innN (n : Nat) (b : Int) (r : Nat) : List Int → StN → Option Int × StN
  | [], s => (none, s)
  | d :: D, s => if pushR n r d = 0 then (some d, s) else innN n b r D (pushN n s b r d)
theorem inn_none {n : Nat} {b : Int} {r : Nat} : ∀ (D : List Int) (s s' : StN), NZ s → innN n b r D s = (none, s') → pushesN n D s b r = s' ∧ NZ s'
  | [], s, s', hz, h => by
    obtain rfl : s = s' := congrArg Prod.snd h
    exact ⟨rfl, hz⟩
  | d :: D, s, s', hz, h => by
    rw [innN] at h
    by_cases c : pushR n r d = 0
    · rw [if_pos c] at h; cases congrArg Prod.fst h
    · rw [if_neg c] at h; exact inn_none D _ s' (hz.push c) h
theorem inn_some {n : Nat} (h1 : 1 ≤ n) {b : Int} {r : Nat} : ∀ (D : List Int) (s s' : StN) (d : Int), digsD D → GoodS n s → NZ s → -1 ≤ b → b < s.1.length → innN n b r D s = (some d, s') →
    ∃ j, s.1.length ≤ j ∧ j < (pushesN n D s b r).1.length ∧ (∀ k, k < j → (ndOf (pushesN n D s b r).1 k).1 ≠ 0) ∧ ndOf (pushesN n D s b r).1 j = (0, b, d)
  | [], s, s', d, _, _, _, _, _, h => by cases congrArg Prod.fst h
  | e :: D, s, s', d, hD, g, hz, hb0, hb, h => by
    rw [innN] at h
    have hx := Ext2.round n b r D (pushN n s b r e)
    have hl := push_len n s b r e
    show ∃ j, s.1.length ≤ j ∧ j < (pushesN n D (pushN n s b r e) b r).1.length ∧ (∀ k, k < j → (ndOf (pushesN n D (pushN n s b r e) b r).1 k).1 ≠ 0) ∧ ndOf (pushesN n D (pushN n s b r e) b r).1 j = (0, b, d)
    by_cases c : pushR n r e = 0
    · rw [if_pos c] at h
      obtain rfl : e = d := Option.some.inj (congrArg Prod.fst h)
      have hp : pushN n s b r e = (s.1 ++ [((0 : Int), b, e)], s.2.set 0 true) := by
        unfold pushN; rw [c, if_neg (by rw [hz.1]; decide)]; rfl
      rw [hp] at hx ⊢
      have hl2 : (s.1 ++ [((0 : Int), b, e)]).length = s.1.length + 1 := by simp
      refine ⟨s.1.length, Nat.le_refl _, ?_, fun k hk => ?_, ?_⟩
      · have := hx.1; rw [hl2] at this; omega
      · rw [hx.2 k (by rw [hl2]; omega)]
        show (ndOf (s.1 ++ _) k).1 ≠ 0
        rw [ndOf_old hk]; exact hz.2 k hk
      · rw [hx.2 s.1.length (by rw [hl2]; omega)]
        show ndOf (s.1 ++ _) s.1.length = _
        rw [ndOf_new]
    · rw [if_neg c] at h
      have hg2 : GoodS n (pushN n s b r e) := GoodN.push g h1 (by omega) (by omega) (hD e List.mem_cons_self)
      have hb2 : b < ((pushN n s b r e).1.length : Int) := by omega
      obtain ⟨j, q1, q2, q3, q4⟩ := inn_some h1 D (pushN n s b r e) s' d (fun x hx => hD x (List.mem_cons_of_mem _ hx)) hg2 (hz.push c) hb0 hb2 h
      exact ⟨j, by omega, q2, q3, q4⟩
def specB (n : Nat) (D : List Int) : Nat → Nat → StN → Option (Option (List Int))
  | 0, _, _ => none
  | f + 1, i, s => if i < s.1.length then
      (match (innN n (i : Int) (ndOf s.1 i).1.toNat D s).1 with
        | some d => some (some ((pathL s.1 (i + 1) (i : Int)).reverse ++ [d]))
        | none => specB n D f (i + 1) (innN n (i : Int) (ndOf s.1 i).1.toNat D s).2)
    else some none
theorem run_spec {n : Nat} (h1 : 1 ≤ n) {D : List Int} (hD : digsD D) : ∀ (f i : Nat) (s : StN), GoodS n s → NZ s → n + 2 ≤ f + i → Ext.runN n D f i s = specB n D f i s
  | 0, i, s, _, _, _ => rfl
  | f + 1, i, s, g, hz, hf => by
    rw [Ext.runN, specB]
    by_cases hi : i < s.1.length
    · rw [if_pos hi, if_pos hi, if_neg (hz.2 i hi), round_pushes]
      have hx := Ext2.round n (i : Int) (ndOf s.1 i).1.toNat D s
      have hg := GoodS.round (i := (i : Int)) h1 (by omega) (ndOf s.1 i).1.toNat D s hD (by omega) g
      have hgl := hg.le
      obtain ⟨⟨o, s'⟩, ho⟩ : ∃ o, innN n (i : Int) (ndOf s.1 i).1.toNat D s = o := ⟨_, rfl⟩
      rw [ho]
      cases o with
      | none =>
        obtain ⟨e1, e2⟩ := inn_none D s s' hz ho
        rw [e1] at hg ⊢
        exact run_spec h1 hD f (i + 1) s' hg e2 (by omega)
      | some d =>
        obtain ⟨j, q1, q2, q3, q4⟩ := inn_some h1 D s s' d hD g hz (by omega) (by omega) ho
        rw [run_found h1 hD f (i + 1) j _ hg (by omega) q2 q3 (by rw [q4]) (by omega)]
        rw [pathL, if_neg (by omega), Int.toNat_natCast, q4]
        simp only [List.reverse_cons]
        rw [path_ext g hx (by omega) (show (i : Int) < ((i + 1 : Nat) : Int) by omega) (by omega)]
    · rw [if_neg hi, if_neg hi]

/-- A run that begins with some state: what is laid there, or the first one without rest 0 yet. -/
def rootD (D : List Int) : List Int := D.filter (fun d => decide (d ≠ 48))
def s0N (n : Nat) : StN := ([], List.replicate n false)
theorem start_pushes (n : Nat) : ∀ (D : List Int) (s : StN), D.foldl (fun s d => if d = 48 then s else pushN n s (-1) 0 d) s = pushesN n (rootD D) s (-1) 0
  | [], s => rfl
  | d :: D, s => by
    rw [List.foldl_cons, start_pushes n D]
    unfold rootD
    by_cases c : d = 48
    · rw [if_pos c, List.filter_cons_of_neg (by simpa using c)]
    · rw [if_neg c, List.filter_cons_of_pos (by simpa using c)]; rfl
def multN (n : Nat) (D : List Int) : Option (Option (List Int)) := match innN n (-1) 0 (rootD D) (s0N n) with
  | (some d, _) => some (some [d])
  | (none, s) => specB n D (n + 2) 0 s
theorem good0 {n : Nat} : GoodS n (s0N n) := ⟨by simp [s0N], by simp [s0N, List.count_replicate], fun k hk => by cases hk⟩
theorem nz0 {n : Nat} (h1 : 1 ≤ n) : NZ (s0N n) := by
  refine ⟨?_, fun k hk => by cases hk⟩
  obtain ⟨m, rfl⟩ : ∃ m, n = m + 1 := ⟨n - 1, by omega⟩
  rfl
theorem digs_root {D : List Int} (h : digsD D) : digsD (rootD D) := fun d hd => h d (List.mem_filter.1 hd).1
theorem run_mult {n : Nat} (h1 : 1 ≤ n) {D : List Int} (hD : digsD D) : Ext.runN n D (n + 2) 0 (startN n D) = multN n D := by
  unfold multN startN
  rw [start_pushes n D]
  obtain ⟨⟨o, s'⟩, ho⟩ : ∃ o, innN n (-1) 0 (rootD D) (s0N n) = o := ⟨_, rfl⟩
  have hg := GoodS.round (i := -1) h1 (by omega) 0 (rootD D) (s0N n) (digs_root hD) (by omega) good0
  show Ext.runN n D (n + 2) 0 (pushesN n (rootD D) (s0N n) (-1) 0) = _
  rw [ho]
  cases o with
  | none =>
    obtain ⟨e1, e2⟩ := inn_none _ _ s' (nz0 h1) ho
    rw [e1] at hg ⊢
    exact run_spec h1 hD _ _ s' hg e2 (by omega)
  | some d =>
    obtain ⟨j, q1, q2, q3, q4⟩ := inn_some h1 _ _ s' d (digs_root hD) good0 (nz0 h1) (by omega) (by omega) ho
    have hl := hg.le
    rw [run_found h1 hD (n + 2) 0 j _ hg (by omega) q2 q3 (by rw [q4]) (by omega)]
    rw [pathL, if_neg (by omega), Int.toNat_natCast, q4]
    simp only [List.reverse_cons]
    cases j with
    | zero => rfl
    | succ j => rw [pathL, if_pos (by omega)]; rfl
/-! ## mult01 -/
/-! with the digits 0 and 1 there is always a multiple -/
structure InvN (n : Nat) (D : List Int) (i : Nat) (s : StN) : Prop where
  good : GoodS n s
  nz : NZ s
  src : ∀ q, q < n → s.2.getD q true = true → ∃ k, k < s.1.length ∧ (ndOf s.1 k).1 = (q : Int)
  clo : ∀ k, k < i → ∀ d ∈ D, s.2.getD (pushR n (ndOf s.1 k).1.toNat d) true = true
theorem met_set (l : List Bool) (q p : Nat) : (l.set q true).getD p true = true ↔ l.getD p true = true ∨ q = p := by
  rw [List.getD_eq_getElem?_getD, List.getD_eq_getElem?_getD]
  by_cases e : q = p
  · subst e
    refine ⟨fun _ => .inr rfl, fun _ => ?_⟩
    by_cases h : q < l.length
    · rw [List.getElem?_set_self h]; rfl
    · rw [List.getElem?_eq_none (by rw [List.length_set]; omega)]; rfl
  · rw [List.getElem?_set_ne e]
    exact ⟨.inl, fun h => h.resolve_right e⟩
theorem met_push {n : Nat} {s : StN} {b : Int} {r : Nat} {d : Int} {p : Nat} (h : s.2.getD p true = true) : (pushN n s b r d).2.getD p true = true := by
  unfold pushN; split
  · exact h
  · exact (met_set _ _ _).2 (.inl h)
theorem met_new {n : Nat} {s : StN} {b : Int} {r : Nat} {d : Int} : (pushN n s b r d).2.getD (pushR n r d) true = true := by
  unfold pushN; split
  · assumption
  · exact (met_set _ _ _).2 (.inr rfl)
theorem met_pushes {n : Nat} {b : Int} {r : Nat} : ∀ (D : List Int) (s : StN) {p : Nat}, s.2.getD p true = true → (pushesN n D s b r).2.getD p true = true
  | [], _, _, h => h
  | d :: D, s, _, h => met_pushes D _ (met_push h)
theorem met_all {n : Nat} {b : Int} {r : Nat} : ∀ (D : List Int) (s : StN), ∀ d ∈ D, (pushesN n D s b r).2.getD (pushR n r d) true = true
  | [], _, _, h => by cases h
  | e :: D, s, d, h => by
    rcases List.mem_cons.1 h with rfl | h
    · exact met_pushes D _ met_new
    · exact met_all D _ d h
theorem src_push {n : Nat} {s : StN} {b : Int} {r : Nat} {d : Int} (h : ∀ q, q < n → s.2.getD q true = true → ∃ k, k < s.1.length ∧ (ndOf s.1 k).1 = (q : Int)) :
    ∀ q, q < n → (pushN n s b r d).2.getD q true = true → ∃ k, k < (pushN n s b r d).1.length ∧ (ndOf (pushN n s b r d).1 k).1 = (q : Int) := by
  intro q hq
  unfold pushN
  split
  · exact h q hq
  · intro hm
    rcases (met_set _ _ _).1 hm with h1 | rfl
    · obtain ⟨k, k1, k2⟩ := h q hq h1
      exact ⟨k, by simp only [List.length_append, List.length_singleton]; omega, by show (ndOf (s.1 ++ _) k).1 = _; rw [ndOf_old k1]; exact k2⟩
    · exact ⟨s.1.length, by simp only [List.length_append, List.length_singleton]; omega, by show (ndOf (s.1 ++ _) s.1.length).1 = _; rw [ndOf_new]⟩
theorem src_pushes {n : Nat} {b : Int} {r : Nat} : ∀ (D : List Int) (s : StN), (∀ q, q < n → s.2.getD q true = true → ∃ k, k < s.1.length ∧ (ndOf s.1 k).1 = (q : Int)) →
    ∀ q, q < n → (pushesN n D s b r).2.getD q true = true → ∃ k, k < (pushesN n D s b r).1.length ∧ (ndOf (pushesN n D s b r).1 k).1 = (q : Int)
  | [], _, h => h
  | d :: D, s, h => src_pushes D _ (src_push h)
theorem InvN.step {n : Nat} (h1 : 1 ≤ n) {D : List Int} (hD : digsD D) {i : Nat} {s s' : StN} (h : InvN n D i s) (hi : i < s.1.length) (hin : innN n (i : Int) (ndOf s.1 i).1.toNat D s = (none, s')) : InvN n D (i + 1) s' := by
  obtain ⟨rfl, hz⟩ := inn_none D s s' h.nz hin
  have hx := Ext2.round n (i : Int) (ndOf s.1 i).1.toNat D s
  refine ⟨GoodS.round h1 (by omega) _ D s hD (by omega) h.good, hz, src_pushes D s h.src, fun k hk d hd => ?_⟩
  rw [hx.2 k (by omega)]
  by_cases e : k = i
  · subst e; exact met_all D s d hd
  · exact met_pushes D s (h.clo k (by omega) d hd)
theorem spec_none {n : Nat} (h1 : 1 ≤ n) {D : List Int} (hD : digsD D) (p : Nat) : ∀ (f i : Nat) (s : StN), InvN n D i s → s.2.getD p true = true → specB n D f i s = some none → ∃ s' j, InvN n D j s' ∧ s'.1.length ≤ j ∧ s'.2.getD p true = true
  | 0, _, _, _, _, e => by cases e
  | f + 1, i, s, h, hp, e => by
    rw [specB] at e
    by_cases hi : i < s.1.length
    · rw [if_pos hi] at e
      obtain ⟨⟨o, s'⟩, ho⟩ : ∃ o, innN n (i : Int) (ndOf s.1 i).1.toNat D s = o := ⟨_, rfl⟩
      rw [ho] at e
      cases o with
      | some d => cases e
      | none =>
        have hm : s'.2.getD p true = true := by
          obtain ⟨rfl, _⟩ := inn_none D s s' h.nz ho
          exact met_pushes D s hp
        exact spec_none h1 hD p f (i + 1) s' (h.step h1 hD hi ho) hm e
    · exact ⟨s, i, h, by omega, hp⟩
theorem reach {n : Nat} (h1 : 1 ≤ n) {D : List Int} {j : Nat} {s : StN} (h : InvN n D j s) (hj : s.1.length ≤ j) : ∀ (ds : List Int) (r : Nat), (∀ d ∈ ds, d ∈ D) → r < n → s.2.getD r true = true → s.2.getD (ds.foldl (pushR n) r) true = true
  | [], _, _, _, hm => hm
  | d :: ds, r, hd, hr, hm => by
    obtain ⟨k, k1, k2⟩ := h.src r hr hm
    have hc := h.clo k (by omega) d (hd d List.mem_cons_self)
    rw [k2, Int.toNat_natCast] at hc
    exact reach h1 h hj ds (pushR n r d) (fun x hx => hd x (List.mem_cons_of_mem _ hx)) (pushR_lt h1 r d) hc
/-- Where digits give the rest 0, the run finds a multiple. -/
theorem mult_found {n : Nat} (h1 : 1 ≤ n) {D : List Int} (hD : digsD D) {d : Int} {ds : List Int} (hd : d ∈ rootD D) (hds : ∀ x ∈ ds, x ∈ D) (h0 : (d :: ds).foldl (pushR n) 0 = 0) : multN n D ≠ some none := by
  unfold multN
  obtain ⟨⟨o, s'⟩, ho⟩ : ∃ o, innN n (-1) 0 (rootD D) (s0N n) = o := ⟨_, rfl⟩
  rw [ho]
  cases o with
  | some d => intro e; cases e
  | none =>
    obtain ⟨rfl, e2⟩ := inn_none _ _ s' (nz0 h1) ho
    intro e
    have hi : InvN n D 0 (pushesN n (rootD D) (s0N n) (-1) 0) := by
      refine ⟨GoodS.round h1 (by omega) 0 _ _ (digs_root hD) (by show (-1 : Int) < ((0 : Nat) : Int); omega) good0, e2, src_pushes _ _ (fun q hq hm => ?_), fun k hk => by omega⟩
      have : (s0N n).2.getD q true = false := by unfold s0N; simp [List.getD_eq_getElem?_getD, hq]
      rw [this] at hm; cases hm
    obtain ⟨s', j, q1, q2, q3⟩ := spec_none h1 hD (pushR n 0 d) _ 0 _ hi (met_all _ _ d hd) e
    have := reach h1 q1 q2 ds (pushR n 0 d) hds (pushR_lt h1 0 d) q3
    rw [List.foldl_cons] at h0
    rw [h0, q1.nz.1] at this
    cases this
/-- The run never runs out of rounds. -/
theorem spec_some {n : Nat} (h1 : 1 ≤ n) {D : List Int} (hD : digsD D) : ∀ (f i : Nat) (s : StN), GoodS n s → NZ s → i ≤ s.1.length → n + 2 ≤ f + i → specB n D f i s ≠ none
  | 0, i, s, g, _, hi, hf => by have := GoodN.le g; omega
  | f + 1, i, s, g, hz, hil, hf => by
    rw [specB]
    by_cases hi : i < s.1.length
    · rw [if_pos hi]
      obtain ⟨⟨o, s'⟩, ho⟩ : ∃ o, innN n (i : Int) (ndOf s.1 i).1.toNat D s = o := ⟨_, rfl⟩
      rw [ho]
      cases o with
      | some d => intro e; cases e
      | none =>
        obtain ⟨rfl, e2⟩ := inn_none D s s' hz ho
        have hx := Ext2.round n (i : Int) (ndOf s.1 i).1.toNat D s
        exact spec_some h1 hD f (i + 1) (pushesN n D s (i : Int) (ndOf s.1 i).1.toNat) (GoodS.round h1 (by omega) _ D s hD (by omega) g) e2 (by have := hx.1; omega) (by omega)
    · rw [if_neg hi]; intro e; cases e
theorem mult_some {n : Nat} (h1 : 1 ≤ n) {D : List Int} (hD : digsD D) : multN n D ≠ none := by
  unfold multN
  obtain ⟨⟨o, s'⟩, ho⟩ : ∃ o, innN n (-1) 0 (rootD D) (s0N n) = o := ⟨_, rfl⟩
  rw [ho]
  cases o with
  | some d => intro e; cases e
  | none =>
    obtain ⟨rfl, e2⟩ := inn_none _ _ s' (nz0 h1) ho
    exact spec_some h1 hD _ 0 _ (GoodS.round h1 (by omega) 0 _ _ (digs_root hD) (by show (-1 : Int) < ((0 : Nat) : Int); omega) good0) e2 (Nat.zero_le _) (by omega)
def tab01 : List Nat := [1, 2, 7, 4, 2, 14, 9, 8, 511, 2, 3, 28, 9, 18, 14, 16, 29, 1022, 25, 4, 21, 6, 53, 56, 4, 18, 895, 36, 109, 14, 59, 32, 63, 58, 18, 2044, 7, 50, 21, 8, 31, 42, 109, 12, 1022, 106, 19, 112, 97, 4, 35, 36, 35, 1790, 6, 72, 25, 218, 223, 28, 37, 118, 991, 64, 18, 126, 107, 116, 133, 18, 19, 4088, 17, 14, 28, 100, 9, 42, 147, 16, 1021, 62, 43, 84, 58, 218, 215, 24, 213, 1022, 9, 212, 131, 38, 50, 224, 225, 194, 262143, 4, 5, 70, 225, 72, 42, 70, 275, 3580, 599, 6, 7, 144, 91, 50, 106, 436, 1407, 446, 315, 56, 27, 74, 1127, 236, 8, 1982, 211, 128, 289, 18, 41, 252, 239, 214, 1790, 232, 17, 266, 437, 36, 19, 38, 9, 8176, 218, 34, 97, 28, 55, 28, 113, 200, 1527, 18, 118, 84, 1387, 294, 35, 32, 239, 2042, 87, 124, 126, 86, 251, 168, 189, 58, 991, 436, 717, 430, 36, 48, 303, 426, 215, 2044, 79, 18, 37, 424, 14, 262, 75, 76, 5591, 50, 239, 448, 25, 450, 42, 388, 837, 524286, 451, 8, 145, 10, 215, 140, 62, 450, 1787, 144, 39, 42, 419, 140, 19, 550, 218, 7160, 131, 1198, 119, 12, 315, 14, 633, 288, 2044, 182, 205, 100, 1059, 106, 63, 872, 499, 2814, 38, 892, 343, 630, 127, 112, 61, 54, 2551, 148, 194, 2254, 513, 472, 993, 8, 393, 3964, 249, 422, 70, 256, 41, 578, 21, 36, 1519, 82, 141, 504, 70, 478, 767, 428, 291, 1790, 31, 464, 21, 34, 12, 532, 445, 874, 2007, 72, 327, 38, 1211, 76, 50, 18, 93, 16352, 817, 218, 311, 68, 391, 194, 446, 56, 507903, 110, 1197, 28, 847, 226, 95, 400, 74, 3054, 1123, 36, 945, 118, 337, 168, 203, 2774, 1982, 588, 4159, 70, 489, 64, 423, 478, 213, 4084, 36, 174, 599, 248, 241, 126, 479, 172, 511, 502, 214, 336, 11, 378, 683, 116, 201, 1982, 97, 872, 266, 1434, 701, 860, 801, 36, 5727, 96, 1385, 606, 38, 852, 315, 430, 599, 4088, 239, 158, 573, 36, 34, 74, 13, 848, 3707, 14, 315, 524, 347, 150, 56, 152, 227, 11182, 301, 100, 349, 478, 213, 896, 18, 50, 2013, 900, 91, 42, 3525, 776, 41, 1674, 294, 1048572, 209, 902, 991, 16]
def bitsL : Nat → Nat → List Int
  | 0, _ => []
  | f + 1, m => if m ≤ 1 then [] else bitsL f (m / 2) ++ [48 + ((m % 2 : Nat) : Int)]
set_option maxRecDepth 100000 in
theorem tab01_ok : (List.range 400).all (fun i => Nat.beq ((49 :: bitsL 20 (tab01.getD i 0)).foldl (pushR (i + 1)) 0) 0) = true := by decide +kernel
theorem bitsL_mem : ∀ (f m : Nat), ∀ d ∈ bitsL f m, d ∈ [(48 : Int), 49]
  | 0, _, d, h => by cases h
  | f + 1, m, d, h => by
    rw [bitsL] at h
    split at h
    · cases h
    · rcases List.mem_append.1 h with h | h
      · exact bitsL_mem f _ d h
      · rw [List.mem_singleton] at h
        subst h
        have := Nat.mod_lt m (show 0 < 2 by omega)
        rcases (show m % 2 = 0 ∨ m % 2 = 1 by omega) with e | e <;> rw [e] <;> simp
theorem digs01 : digsD [48, 49] := by
  intro d hd
  simp only [List.mem_cons, List.not_mem_nil, or_false] at hd
  omega
theorem mult01 {n : Nat} (h1 : 1 ≤ n) (h2 : n ≤ 400) : ∃ l, multN n [48, 49] = some (some l) := by
  have h := List.all_eq_true.1 tab01_ok (n - 1) (List.mem_range.2 (by omega))
  rw [show n - 1 + 1 = n by omega] at h
  have hf := mult_found h1 digs01 (d := 49) (by decide) (bitsL_mem 20 (tab01.getD (n - 1) 0)) (Nat.eq_of_beq_eq_true h)
  have hs := mult_some h1 digs01
  cases hm : multN n [48, 49] with
  | none => exact absurd hm hs
  | some o =>
    cases o with
    | none => exact absurd hm hf
    | some l => exact ⟨l, rfl⟩
theorem mult0 (n : Nat) : multN n [48] = some none := rfl
theorem inn_good {n : Nat} (h1 : 1 ≤ n) {b : Int} {r : Nat} : ∀ (D : List Int) (s s' : StN), digsD D → -1 ≤ b → b < s.1.length → GoodS n s → innN n b r D s = (none, s') → GoodS n s' ∧ Ext2 s.1 s'.1
  | [], s, s', _, _, _, g, h => by
    obtain rfl : s = s' := congrArg Prod.snd h
    exact ⟨g, Ext2.refl _⟩
  | d :: D, s, s', hD, hb0, hb, g, h => by
    rw [innN] at h
    by_cases c : pushR n r d = 0
    · rw [if_pos c] at h; cases congrArg Prod.fst h
    · rw [if_neg c] at h
      have hl := push_len n s b r d
      have hg : GoodS n (pushN n s b r d) := GoodN.push g h1 hb0 hb (hD d List.mem_cons_self)
      obtain ⟨q1, q2⟩ := inn_good h1 D (pushN n s b r d) s' (fun x hx => hD x (List.mem_cons_of_mem _ hx)) hb0 (by omega) hg h
      exact ⟨q1, (Ext2.push n s b r d).trans q2⟩
/-! ## str -/
theorem tl_eq {s t : ByteArray} : s.toList = t.toList ↔ s = t := by
  rw [ByteArray.toList_eq, ByteArray.toList_eq, toList_L]
  exact ⟨L_inj, fun h => by rw [h]⟩
theorem L_extract (s : ByteArray) (a b : Nat) : L (s.extract a b) = ((L s).take b).drop a := by
  unfold L
  rw [ByteArray.data_extract]
  simp [List.map_drop, List.map_take, List.drop_take]
theorem L_nil : L (⟨#[]⟩ : ByteArray) = [] := rfl
theorem size_L (s : ByteArray) : s.size = (L s).length := (L_length s).symm
theorem size_ext (s : ByteArray) (a b : Nat) : (s.extract a b).size = min b s.size - a := by rw [size_L, L_extract, List.length_drop, List.length_take, L_length]
theorem size_app (s t : ByteArray) : (s ++ t).size = s.size + t.size := by rw [size_L, L_append, List.length_append, L_length, L_length]
/-! ## strnum -/
theorem ofNat_toNat {c : Int} (h : 0 ≤ c ∧ c ≤ 255) : (((UInt8.ofNat c.toNat).toNat : Nat) : Int) = c := by
  rw [UInt8.toNat_ofNat', Nat.mod_eq_of_lt (by omega)]; omega
theorem L_strOfNums (l : List Int) (h : ∀ c ∈ l, 0 ≤ c ∧ c ≤ 255) : L (strOfNums l) = l := by
  unfold L strOfNums
  rw [List.map_map]
  conv => rhs; rw [← List.map_id l]
  exact List.map_congr_left (fun c hc => ofNat_toNat (h c hc))
/-! ## multSpec -/
/-! spec.leMultiple against multN -/
theorem bytesOf_L (s : ByteArray) : bytesOf s = L s := rfl
theorem sn_nil : strOfNums [] = ⟨#[]⟩ := rfl
theorem sn_app (l m : List Int) : strOfNums (l ++ m) = strOfNums l ++ strOfNums m := by
  apply ByteArray.ext
  apply Array.ext'
  rw [ByteArray.data_append, Array.toList_append]
  simp [strOfNums]
theorem sn_size (l : List Int) : (strOfNums l).size = l.length := by simp [strOfNums, ByteArray.size]
theorem sn_one {X : ByteArray} {i : Nat} (h : i < X.size) : X.extract i (i + 1) = strOfNums [bt X (i : Int)] := by
  have e0 := bt_lo X (i : Int)
  have e1 := bt_hi X (i : Int)
  apply L_inj
  rw [L_extract, L_strOfNums _ (by intro c hc; rw [List.mem_singleton] at hc; subst hc; exact ⟨e0, e1⟩)]
  apply List.ext_getElem?
  intro j
  rw [List.getElem?_drop]
  cases j with
  | zero =>
    rw [List.getElem?_take_of_lt (by omega), Nat.add_zero, L_get X i h]; rfl
  | succ j => rw [List.getElem?_eq_none (by rw [List.length_take]; omega)]; rfl
def txb (ns : List Nd) (b : Int) : ByteArray := strOfNums (pathL ns (b + 1).toNat b).reverse
def lvT (ns : List Nd) (lo hi : Nat) : List ByteArray := (List.range' lo (hi - lo)).map (fun j : Nat => txb ns (j : Int))
def lvR (ns : List Nd) (lo hi : Nat) : List Int := (List.range' lo (hi - lo)).map (fun j : Nat => (ndOf ns j).1)
theorem lvT_len (ns : List Nd) (lo hi : Nat) : (lvT ns lo hi).length = hi - lo := by simp [lvT]
theorem lvR_len (ns : List Nd) (lo hi : Nat) : (lvR ns lo hi).length = hi - lo := by simp [lvR]
theorem lvT_at {ns : List Nd} {lo hi k : Nat} (h : k < hi - lo) : rdOf ByteArray.empty (lvT ns lo hi) (k : Int) = txb ns ((lo + k : Nat) : Int) := by
  unfold rdOf lvT
  rw [Int.toNat_natCast, List.getD_eq_getElem?_getD, List.getElem?_map, List.getElem?_range' h, Nat.one_mul]; rfl
theorem lvR_at {ns : List Nd} {lo hi k : Nat} (h : k < hi - lo) : rd (lvR ns lo hi) (k : Int) = (ndOf ns (lo + k)).1 := by
  unfold rd lvR
  rw [Int.toNat_natCast, List.getD_eq_getElem?_getD, List.getElem?_map, List.getElem?_range' h, Nat.one_mul]; rfl
theorem txb_ext {n : Nat} {a b : List Nd} {met : List Bool} (g : GoodN n a met) (h : Ext2 a b) {k : Int} (h0 : -1 ≤ k) (hk : k < a.length) : txb b k = txb a k := by
  unfold txb
  by_cases e : k = -1
  · subst e; rfl
  · rw [path_ext g h hk (f := (k + 1).toNat) (f' := (k + 1).toNat) (by omega) (by omega)]
theorem lvT_ext {n : Nat} {a b : List Nd} {met : List Bool} (g : GoodN n a met) (h : Ext2 a b) {lo hi : Nat} (hh : hi ≤ a.length) : lvT b lo hi = lvT a lo hi := by
  unfold lvT
  refine List.map_congr_left (fun j hj => ?_)
  have := List.mem_range'_1.1 hj
  exact txb_ext g h (by omega) (by omega)
theorem lvR_ext {a b : List Nd} (h : Ext2 a b) {lo hi : Nat} (hh : hi ≤ a.length) : lvR b lo hi = lvR a lo hi := by
  unfold lvR
  refine List.map_congr_left (fun j hj => ?_)
  have := List.mem_range'_1.1 hj
  rw [h.2 j (by omega)]
theorem lvT_snoc (ns : List Nd) {lo hi : Nat} (h : lo ≤ hi) : lvT ns lo (hi + 1) = lvT ns lo hi ++ [txb ns (hi : Int)] := by
  unfold lvT
  rw [show hi + 1 - lo = (hi - lo) + 1 by omega, List.range'_concat, List.map_append, Nat.one_mul, show lo + (hi - lo) = hi by omega]; rfl
theorem lvR_snoc (ns : List Nd) {lo hi : Nat} (h : lo ≤ hi) : lvR ns lo (hi + 1) = lvR ns lo hi ++ [(ndOf ns hi).1] := by
  unfold lvR
  rw [show hi + 1 - lo = (hi - lo) + 1 by omega, List.range'_concat, List.map_append, Nat.one_mul, show lo + (hi - lo) = hi by omega]; rfl
theorem path_len (ns : List Nd) : ∀ (f : Nat) (k : Int), (pathL ns f k).length ≤ f
  | 0, _ => Nat.le_refl _
  | f + 1, k => by
    rw [pathL]; split
    · exact Nat.zero_le _
    · rw [List.length_cons]; have := path_len ns f (ndOf ns k.toNat).2.1; omega
theorem txb_size (ns : List Nd) (b : Int) : (txb ns b).size ≤ (b + 1).toNat := by
  unfold txb; rw [sn_size, List.length_reverse]; exact path_len _ _ _
theorem txb_nil (ns : List Nd) {b : Int} (h : -1 ≤ b) : (txb ns b).toList = [] ↔ b < 0 := by
  rw [show ([] : List UInt8) = (⟨#[]⟩ : ByteArray).toList by rw [ByteArray.toList_eq], tl_eq]
  by_cases c : b < 0
  · obtain rfl : b = -1 := by omega
    exact ⟨fun _ => c, fun _ => rfl⟩
  · refine ⟨fun h => ?_, fun h => absurd h c⟩
    have h2 := congrArg ByteArray.size h
    unfold txb at h2
    obtain ⟨m, hm⟩ : ∃ m, (b + 1).toNat = m + 1 := ⟨(b + 1).toNat - 1, by omega⟩
    rw [sn_size, List.length_reverse, hm, pathL, if_neg c] at h2
    cases h2
/-- The state behind a push of a rest not met. -/
theorem push_new {n : Nat} {s : StN} {b : Int} {r : Nat} {d : Int} (h : s.2.getD (pushR n r d) true = false) : pushN n s b r d = (s.1 ++ [(((pushR n r d : Nat) : Int), b, d)], s.2.set (pushR n r d) true) := by
  unfold pushN; rw [if_neg (by rw [h]; decide)]
theorem push_same {n : Nat} {s : StN} {b : Int} {r : Nat} {d : Int} (h : s.2.getD (pushR n r d) true = true) : pushN n s b r d = s := by
  unfold pushN; rw [if_pos h]
theorem txb_new {n : Nat} {ns : List Nd} {met : List Bool} (g : GoodN n ns met) {q : Int} {b : Int} {d : Int} (h0 : -1 ≤ b) (hb : b < ns.length) : txb (ns ++ [(q, b, d)]) (ns.length : Int) = txb ns b ++ strOfNums [d] := by
  have hx : Ext2 ns (ns ++ [(q, b, d)]) := ⟨by simp, fun k hk => ndOf_old hk⟩
  have he : pathL (ns ++ [(q, b, d)]) ns.length b = pathL ns (b + 1).toNat b := by
    by_cases e : b = -1
    · subst e
      cases ns.length with
      | zero => rfl
      | succ m => rw [pathL, if_pos (by omega)]; rfl
    · exact path_ext g hx hb (by omega) (by omega)
  unfold txb
  rw [show ((ns.length : Int) + 1).toNat = ns.length + 1 by omega, pathL, if_neg (by omega), Int.toNat_natCast, ndOf_new]
  simp only []
  rw [he, List.reverse_cons, sn_app]
abbrev RM := ByteArray × Bool
def edN (b : Int) (E : List Int) : List Int := if b < 0 then rootD E else E
theorem digs_ed {b : Int} {E : List Int} (h : digsD E) : digsD (edN b E) := by
  unfold edN; split
  · exact digs_root h
  · exact h
section
variable {n : Nat} (h1 : 1 ≤ n) (h4 : n ≤ 400) {X : ByteArray} (hX : digsD (L X)) (hXs : X.size ≤ 1000)
include h1 h4 hX hXs
/-- What follows the digits of one node. -/
def goOn (n : Nat) (X : ByteArray) (x8 : List Int) (hi : Nat) (now : List ByteArray) (x23 : Int) (kk : Nat) (T : ByteArray) (R : RM) : Option Int × StN → Prop
  | (some d, _) => R = (T ++ strOfNums [d], true)
  | (none, s) => Ev (fun k => spec_leMultiple.l1 k (n : Int) X s.2 x8 (lvT s.1 hi s.1.length) (lvR s.1 hi s.1.length) now x23 ((kk + 1 : Nat) : Int)) R
theorem l2_f {x8 : List Int} {hi : Nat} {now : List ByteArray} {x23 : Int} {kk : Nat} {T : ByteArray} {R : RM} {b : Int} {r : Nat} (hr : r < n) (h8 : rd x8 (kk : Int) = (r : Int)) (hk8 : kk < x8.length) (hkk : kk ≤ 1000) (hb0 : -1 ≤ b) :
    ∀ (E : List Int) (i : Nat) (s : StN), (L X).drop i = E → GoodS n s → b < s.1.length → hi ≤ s.1.length → txb s.1 b = T → goOn n X x8 hi now x23 kk T R (innN n b r (edN b E) s) →
      Ev (fun k => spec_leMultiple.l2 k (n : Int) X s.2 x8 (lvT s.1 hi s.1.length) (lvR s.1 hi s.1.length) (kk : Int) T (i : Int) now x23 (kk : Int)) R
  | [], i, s, hE, g, hb, hhi, hT, hQ => by
    have hi' := sdrop_nil hE
    refine Ev.step (fun _ => spec_leMultiple.l2.eq_2 ..) (Ev.neg (by omega) ?_)
    rw [wsucc (m := 2000) (by omega) (by omega)]
    have e : innN n b r (edN b []) s = (none, s) := by unfold edN; split <;> rfl
    rw [e] at hQ
    exact hQ
  | d :: E, i, s, hE, g, hb, hhi, hT, hQ => by
    obtain ⟨hi1, hi2, hi3⟩ := sdrop_cons hE
    have hd : 48 ≤ d ∧ d ≤ 57 := hX d (List.mem_of_mem_drop (by rw [hE]; exact List.mem_cons_self))
    have hw1 : wrap64 ((i : Int) + 1) = ((i + 1 : Nat) : Int) := wsucc (m := 2000) (by omega) (by omega)
    have hlen := GoodN.le g
    have hTs := txb_size s.1 b
    rw [hT] at hTs
    have hon : (strOfNums [d]).size = 1 := sn_size _
    have hex : X.extract i (i + 1) = strOfNums [d] := by rw [sn_one hi1, hi2]
    have hj : ∀ fl : Bool, (fl = true ↔ (b < 0 ∧ d = 48)) → Ev (fun k => spec_leMultiple.j3 k (n : Int) X s.2 x8 (lvT s.1 hi s.1.length) (lvR s.1 hi s.1.length) (kk : Int) T (i : Int) now x23 (kk : Int) fl) R := by
      intro fl hfl
      refine Ev.step (fun _ => spec_leMultiple.j3.eq_2 ..) ?_
      rw [hw1]
      clear hw1
      by_cases c : fl = true
      · refine Ev.pos c (l2_f hr h8 hk8 hkk hb0 E (i + 1) s hi3 g hb hhi hT ?_)
        obtain ⟨c1, c2⟩ := hfl.1 c
        have e : edN b (d :: E) = edN b E := by
          unfold edN rootD
          rw [if_pos c1, if_pos c1, List.filter_cons_of_neg (by simpa using c2)]
        rw [← e]; exact hQ
      · have e : edN b (d :: E) = d :: edN b E := by
          unfold edN rootD
          by_cases c1 : b < 0
          · rw [if_pos c1, if_pos c1, List.filter_cons_of_pos (by simpa using fun h => c (hfl.2 ⟨c1, h⟩))]
          · rw [if_neg c1, if_neg c1]
        rw [e, innN] at hQ
        have hq := pushR_lt h1 r d
        have ht : Int.tmod (wrap64 (wrap64 (10 * rd x8 (kk : Int)) + ((bt X (i : Int) - 48) % 256))) (n : Int) = ((pushR n r d : Nat) : Int) := by
          rw [h8, hi2, show (d - 48) % 256 = d - 48 by omega, w64 (x := 10 * (r : Int)) (by omega) (by omega), w64 (by omega) (by omega), tmod_nn (by omega)]
          unfold pushR
          have := Int.emod_nonneg (10 * (r : Int) + (d - 48)) (show (n : Int) ≠ 0 by omega)
          omega
        have hml : s.2.length = n := GoodN.len g
        rw [ht, Int.toNat_natCast, Int.toNat_natCast, Int.toNat_natCast, hex]
        clear ht hex
        refine Ev.neg c (Ev.pos (by omega) (Ev.pos (by omega) (Ev.pos (by omega) (Ev.pos (by omega) (Ev.neg (by omega) ?_)))))
        by_cases h0 : pushR n r d = 0
        · rw [if_pos h0] at hQ
          refine Ev.pos (by omega) (Ev.pos (by omega) (Ev.pos (by omega) (Ev.pos (by omega) (Ev.eq ?_ (Ev.now _)))))
          exact hQ
        · rw [if_neg h0] at hQ
          have hrdof : rdOf false s.2 ((pushR n r d : Nat) : Int) = s.2.getD (pushR n r d) true := by
            unfold rdOf
            rw [Int.toNat_natCast, List.getD_eq_getElem?_getD, List.getD_eq_getElem?_getD, List.getElem?_eq_getElem (by omega)]; rfl
          rw [hrdof]
          refine Ev.neg (by omega) (Ev.pos (by omega) (Ev.pos (by omega) ?_))
          by_cases hm : s.2.getD (pushR n r d) true = true
          · rw [push_same hm] at hQ
            exact Ev.pos hm (l2_f hr h8 hk8 hkk hb0 E (i + 1) s hi3 g hb hhi hT hQ)
          · have hm' : s.2.getD (pushR n r d) true = false := by simpa using hm
            have hg2 : GoodS n (pushN n s b r d) := GoodN.push g h1 hb0 hb hd
            rw [push_new hm'] at hQ hg2
            have hx : Ext2 s.1 (s.1 ++ [(((pushR n r d : Nat) : Int), b, d)]) := ⟨by simp, fun k hk => ndOf_old hk⟩
            have hl2 : (s.1 ++ [(((pushR n r d : Nat) : Int), b, d)]).length = s.1.length + 1 := by simp
            refine Ev.neg hm (Ev.pos (by omega) (Ev.pos (by omega) (Ev.pos (by omega) (Ev.pos (by rw [lvT_len]; omega) (Ev.pos (by rw [lvR_len]; omega) ?_)))))
            have := l2_f hr h8 hk8 hkk hb0 E (i + 1) _ hi3 hg2 (by rw [hl2]; omega) (by rw [hl2]; omega) (by show txb (s.1 ++ _) b = T; rw [txb_ext g hx hb0 hb, hT]) hQ
            simp only [] at this
            rw [hl2, lvT_snoc _ hhi, lvR_snoc _ hhi, lvT_ext g hx (Nat.le_refl _), lvR_ext hx (Nat.le_refl _), txb_new g hb0 hb, hT, ndOf_new] at this
            exact this
    clear hw1
    have hx := txb_nil s.1 hb0
    rw [hT] at hx
    refine Ev.step (fun _ => spec_leMultiple.l2.eq_2 ..) (Ev.pos (by omega) ?_)
    by_cases c : b < 0
    · refine Ev.pos (hx.2 c) (Ev.pos (by omega) (hj _ ?_))
      rw [hi2, beq_iff_eq]; exact ⟨fun h => ⟨c, h⟩, fun h => h.2⟩
    · exact Ev.neg (fun h => c (hx.1 h)) (hj _ ⟨fun h => Bool.noConfusion h, fun h => absurd h.1 c⟩)
def ansM : Option (List Int) → RM
  | some l => (strOfNums l, true)
  | none => (⟨#[]⟩, false)
/-- The rounds of a level from some node on. -/
def LvOK (n : Nat) (X : ByteArray) (f : Nat) : Prop := ∀ (i lo hi : Nat) (s : StN) (R : Option (List Int)), lo ≤ i → i ≤ hi → hi ≤ s.1.length → GoodS n s → specB n (L X) f i s = some R →
  Ev (fun k => spec_leMultiple.l1 k (n : Int) X s.2 (lvR s.1 lo hi) (lvT s.1 hi s.1.length) (lvR s.1 hi s.1.length) (lvT s.1 lo hi) ((hi - lo : Nat) : Int) ((i - lo : Nat) : Int)) (ansM R)
theorem rnd_f {f : Nat} (IH : LvOK n X f) {i lo hi : Nat} {s : StN} {R : Option (List Int)} (hlo : lo ≤ i) (hih : i < hi) (hhi : hi ≤ s.1.length) (g : GoodS n s) (hR : specB n (L X) (f + 1) i s = some R) :
    Ev (fun k => spec_leMultiple.l1 k (n : Int) X s.2 (lvR s.1 lo hi) (lvT s.1 hi s.1.length) (lvR s.1 hi s.1.length) (lvT s.1 lo hi) ((hi - lo : Nat) : Int) ((i - lo : Nat) : Int)) (ansM R) := by
  have hlen := GoodN.le g
  obtain ⟨r0, r1, _, _, _, _⟩ := GoodN.nd g i (by omega)
  rw [specB, if_pos (by omega)] at hR
  refine Ev.step (fun _ => spec_leMultiple.l1.eq_2 ..) (Ev.pos (by omega) (Ev.pos (by omega) (Ev.pos (by rw [lvT_len]; omega) ?_)))
  rw [lvT_at (by omega), show lo + (i - lo) = i by omega]
  refine l2_f h1 h4 hX hXs (b := (i : Int)) (r := (ndOf s.1 i).1.toNat) (by omega) (by rw [lvR_at (by omega), show lo + (i - lo) = i by omega]; omega) (by rw [lvR_len]; omega) (by omega) (by omega) (L X) 0 s rfl g (by omega) hhi rfl ?_
  have he : edN (i : Int) (L X) = L X := by unfold edN; rw [if_neg (by omega)]
  rw [he]
  obtain ⟨⟨o, s'⟩, ho⟩ : ∃ o, innN n (i : Int) (ndOf s.1 i).1.toNat (L X) s = o := ⟨_, rfl⟩
  rw [ho] at hR ⊢
  cases o with
  | some d =>
    show ansM R = _
    simp only [Option.some.injEq] at hR
    subst hR
    unfold ansM txb
    simp only []
    rw [sn_app, show ((i : Int) + 1).toNat = i + 1 by omega]
  | none =>
    obtain ⟨hg', hx⟩ := inn_good h1 _ s s' hX (by omega) (by omega) g ho
    have := IH (i + 1) lo hi s' R (by omega) (by omega) (by have := hx.1; omega) hg' hR
    rw [lvR_ext hx hhi, lvT_ext g hx hhi, show i + 1 - lo = i - lo + 1 by omega] at this
    exact this
theorem l0_of {f : Nat} (IH : LvOK n X f) {hi : Nat} {s : StN} {R : Option (List Int)} (hhi : hi ≤ s.1.length) (g : GoodS n s) (hR : specB n (L X) (f + 1) hi s = some R) :
    Ev (fun k => spec_leMultiple.l0 k (n : Int) X s.2 (lvT s.1 hi s.1.length) (lvR s.1 hi s.1.length)) (ansM R) := by
  refine Ev.step (fun _ => spec_leMultiple.l0.eq_2 ..) ?_
  rw [lvT_len]
  by_cases c : hi < s.1.length
  · refine Ev.pos (by omega) ?_
    have := rnd_f h1 h4 hX hXs IH (Nat.le_refl _) c (Nat.le_refl _) g hR
    rw [Nat.sub_self, show lvT s.1 s.1.length s.1.length = [] by unfold lvT; rw [Nat.sub_self]; rfl, show lvR s.1 s.1.length s.1.length = [] by unfold lvR; rw [Nat.sub_self]; rfl] at this
    exact this
  · rw [specB, if_neg c] at hR
    obtain rfl := Option.some.inj hR
    exact Ev.neg (by omega) (Ev.now _)
theorem lvOK : ∀ f, LvOK n X f
  | 0 => by intro i lo hi s R _ _ _ _ h; cases h
  | f + 1 => by
    intro i lo hi s R hlo hih hhi g hR
    have IH := lvOK f
    by_cases c : i < hi
    · exact rnd_f h1 h4 hX hXs IH hlo c hhi g hR
    · obtain rfl : i = hi := by omega
      exact Ev.step (fun _ => spec_leMultiple.l1.eq_2 ..) (Ev.neg (by omega) (l0_of h1 h4 hX hXs IH hhi g hR))
theorem leMultiple_f {R : Option (List Int)} (hR : multN n (L X) = some R) : Ev (fun k => spec_leMultiple.f k (n : Int) X) (ansM R) := by
  refine Ev.pos (by omega) (Ev.pos (by omega) ?_)
  rw [Int.toNat_natCast]
  refine Ev.step (fun _ => spec_leMultiple.l0.eq_2 ..) (Ev.pos (by decide) (Ev.step (fun _ => spec_leMultiple.l1.eq_2 ..) (Ev.pos (by decide) (Ev.pos (by decide) (Ev.pos (by decide) ?_)))))
  refine l2_f h1 h4 hX hXs (b := -1) (r := 0) (hi := 0) (kk := 0) (by omega) rfl (by decide) (by omega) (by omega) (L X) 0 (s0N n) rfl good0 (by show (-1 : Int) < ((0 : Nat) : Int); omega) (Nat.zero_le _) rfl ?_
  have he : edN (-1) (L X) = rootD (L X) := rfl
  rw [he]
  unfold multN at hR
  obtain ⟨⟨o, s'⟩, ho⟩ : ∃ o, innN n (-1) 0 (rootD (L X)) (s0N n) = o := ⟨_, rfl⟩
  rw [ho] at hR ⊢
  cases o with
  | some d =>
    simp only [Option.some.injEq] at hR
    subst hR
    rfl
  | none =>
    obtain ⟨hg', hx⟩ := inn_good h1 _ (s0N n) s' (digs_root hX) (by omega) (by show (-1 : Int) < ((0 : Nat) : Int); omega) good0 ho
    exact Ev.step (fun _ => spec_leMultiple.l1.eq_2 ..) (Ev.neg (by decide) (l0_of h1 h4 hX hXs (lvOK h1 h4 hX hXs _) (Nat.zero_le _) hg' hR))
end
/-! ## within -/
theorem within_f (a b c : Int) : impl_within.f a b c = some (decide (b ≤ a) && decide (a ≤ c)) := by
  unfold impl_within.f; by_cases h : b ≤ a <;> simp [h]
/-! ## l1In -/
theorem l1In_f (a b c : Int) : spec_l1In.f a b c = some (decide (b ≤ a) && decide (a ≤ c)) := by
  unfold spec_l1In.f; by_cases h : b ≤ a <;> simp [h]
/-! ## multImpl -/
theorem digsD_all {X : ByteArray} (h : digsD (L X)) : (bytesOf X).all (fun d => decide (48 ≤ d) && decide (d ≤ 57)) = true := by
  rw [List.all_eq_true]
  intro d hd
  have := h d hd
  rw [Bool.and_eq_true, decide_eq_true_eq, decide_eq_true_eq]; exact this
theorem implM_f {n : Nat} (h1 : 1 ≤ n) (h4 : n ≤ 400) {X : ByteArray} (hX : digsD (L X)) (hXs : X.size ≤ 100) {R : Option (List Int)} (hR : multN n (L X) = some R) : impl_multiple.f (n : Int) X = some (ansM R) := by
  unfold impl_multiple.f
  rw [if_pos ⟨by omega, by omega, hXs, digsD_all hX⟩, Int.toNat_natCast, show Ext.runN n (bytesOf X) (n + 2) 0 (startN n (bytesOf X)) = multN n (L X) from run_mult h1 hX, hR]
  cases R <;> rfl
theorem mult_ex {n : Nat} (h1 : 1 ≤ n) {D : List Int} (hD : digsD D) : ∃ R, multN n D = some R := by
  cases h : multN n D with
  | none => exact absurd h (mult_some h1 hD)
  | some R => exact ⟨R, rfl⟩
theorem leDivisor_f (a : Int) : spec_leDivisor.f a = some (decide (1 ≤ a) && decide (a ≤ 400)) := by
  unfold spec_leDivisor.f; rw [l1In_f]; rfl
theorem isDivisor_f (a : Int) : impl_isDivisor.f a = some (decide (1 ≤ a) && decide (a ≤ 400)) := by
  unfold impl_isDivisor.f; rw [within_f]; rfl
/-! ## num -/
/-- Ten to a power. -/
def p10 (n : Nat) : Int := 10 ^ n
theorem p10_succ (n : Nat) : p10 (n + 1) = 10 * p10 n := by unfold p10; rw [Int.pow_succ, Int.mul_comm]
theorem p10_pos (n : Nat) : 1 ≤ p10 n := by
  induction n with
  | zero => decide
  | succ n ih => rw [p10_succ]; omega
theorem p10_mono {n m : Nat} (h : n ≤ m) : p10 n ≤ p10 m := by
  obtain ⟨d, rfl⟩ : ∃ d, m = n + d := ⟨m - n, by omega⟩
  clear h
  induction d with
  | zero => exact Int.le_refl _
  | succ d ih => rw [← Nat.add_assoc, p10_succ]; have := p10_pos (n + d); omega
theorem p10_9 {n : Nat} (h : n ≤ 9) : p10 n ≤ 1000000000 := p10_mono h
/-- The number that digits tell, behind what stands before them. -/
def numF (a : Int) (l : List Int) : Int := l.foldl (fun n c => 10 * n + (c - 48)) a
theorem numF_cons (a c : Int) (l : List Int) : numF a (c :: l) = numF (10 * a + (c - 48)) l := rfl
theorem numF_bd : ∀ (l : List Int) (a : Int), l.all isD = true → 0 ≤ a → a * p10 l.length ≤ numF a l ∧ numF a l < (a + 1) * p10 l.length
  | [], a, _, h => by simp [numF, p10]; omega
  | c :: l, a, hl, h => by
    rw [List.all_cons, Bool.and_eq_true] at hl
    have hc := isD_t.1 hl.1
    have ih := numF_bd l (10 * a + (c - 48)) hl.2 (by omega)
    have hp := p10_pos l.length
    rw [numF_cons, List.length_cons, p10_succ]
    have e1 : a * (10 * p10 l.length) ≤ (10 * a + (c - 48)) * p10 l.length := by
      rw [← Int.mul_assoc]; exact Int.mul_le_mul_of_nonneg_right (by omega) (by omega)
    have e2 : (10 * a + (c - 48) + 1) * p10 l.length ≤ (a + 1) * (10 * p10 l.length) := by
      rw [← Int.mul_assoc]; exact Int.mul_le_mul_of_nonneg_right (by omega) (by omega)
    omega
/-- A number with room for so many digits behind it. -/
theorem num_step {a c : Int} {n : Nat} (ha : 0 ≤ a) (hc : 48 ≤ c ∧ c ≤ 57) (h : (a + 1) * p10 (n + 1) ≤ 1000000000000000000) : 0 ≤ 10 * a + (c - 48) ∧ (10 * a + (c - 48) + 1) * p10 n ≤ 1000000000000000000 ∧ 10 * a + (c - 48) ≤ 1000000000000000000 := by
  have hp := p10_pos n
  rw [p10_succ, ← Int.mul_assoc] at h
  have e2 : (10 * a + (c - 48) + 1) * p10 n ≤ (a + 1) * 10 * p10 n := Int.mul_le_mul_of_nonneg_right (by omega) (by omega)
  have e3 : (10 * a + (c - 48) + 1) * 1 ≤ (10 * a + (c - 48) + 1) * p10 n := Int.mul_le_mul_of_nonneg_left hp (by omega)
  omega
/-! ## dec -/
/-- The decimal digits of a number, as bytes told as numbers. -/
def Dg (n : Nat) : List Int := (Go.Lib.decDigits n).map (fun c => (c.toNat : Int))
theorem u8n {n : Nat} (h : n < 256) : (((UInt8.ofNat n).toNat : Nat) : Int) = (n : Int) := by
  rw [UInt8.toNat_ofNat', Nat.mod_eq_of_lt (by omega)]
theorem Dg_small {n : Nat} (h : n < 10) : Dg n = [48 + (n : Int)] := by
  unfold Dg
  rw [Go.Lib.decDigits, dif_pos h, List.map_cons, List.map_nil, u8n (by omega)]
  rfl
theorem Dg_big {n : Nat} (h : 10 ≤ n) : Dg n = Dg (n / 10) ++ [48 + ((n % 10 : Nat) : Int)] := by
  unfold Dg
  conv => lhs; rw [Go.Lib.decDigits, dif_neg (by omega)]
  rw [List.map_append, List.map_cons, List.map_nil, u8n (by omega)]
  rfl
theorem L_itoa (n : Nat) : L (⟨(Go.Lib.itoa (n : Int)).toArray⟩ : ByteArray) = Dg n := by
  unfold L Dg Go.Lib.itoa
  rw [if_neg (by omega), Int.toNat_natCast]
theorem L_dec (n : Nat) : L (⟨(Go.Lib.decDigits n).toArray⟩ : ByteArray) = Dg n := rfl
theorem Dg_dig : ∀ b n : Nat, n ≤ b → (Dg n).all isD = true
  | 0, n, h => by
    rw [Dg_small (by omega)]
    simp [isD]; omega
  | b + 1, n, h => by
    by_cases hn : n < 10
    · rw [Dg_small hn]
      simp [isD]; omega
    · rw [Dg_big (by omega), List.all_append, Dg_dig b (n / 10) (by omega)]
      simp [isD]; omega
theorem Dg_isD (n : Nat) : (Dg n).all isD = true := Dg_dig n n (Nat.le_refl _)
theorem Dg_pos : ∀ n : Nat, 1 ≤ (Dg n).length := by
  intro n
  by_cases hn : n < 10
  · rw [Dg_small hn]; simp
  · rw [Dg_big (by omega)]; simp
theorem numF_app (a : Int) (l m : List Int) : numF a (l ++ m) = numF (numF a l) m := by unfold numF; rw [List.foldl_append]
theorem Dg_num : ∀ b n : Nat, n ≤ b → numF 0 (Dg n) = n
  | 0, n, h => by
    rw [Dg_small (by omega)]
    simp [numF]; omega
  | b + 1, n, h => by
    by_cases hn : n < 10
    · rw [Dg_small hn]
      simp [numF]; omega
    · rw [Dg_big (by omega), numF_app, Dg_num b (n / 10) (by omega)]
      simp [numF]; omega
theorem num_Dg (n : Nat) : numF 0 (Dg n) = n := Dg_num n n (Nat.le_refl _)
/-- The last k digits of a number, zeros in front. -/
def TD : Nat → Nat → List Int
  | 0, _ => []
  | k + 1, n => TD k (n / 10) ++ [48 + ((n % 10 : Nat) : Int)]
theorem TD_len : ∀ k n, (TD k n).length = k
  | 0, _ => rfl
  | k + 1, n => by rw [TD, List.length_append, TD_len k]; rfl
theorem TD_dig : ∀ k n, (TD k n).all isD = true
  | 0, _ => rfl
  | k + 1, n => by
    rw [TD, List.all_append, TD_dig k]
    simp [isD]; omega
theorem TD_num : ∀ k n : Nat, n < 10 ^ k → numF 0 (TD k n) = n
  | 0, n, h => by
    simp at h
    subst h
    rfl
  | k + 1, n, h => by
    rw [Nat.pow_succ] at h
    rw [TD, numF_app, TD_num k (n / 10) (by omega)]
    simp [numF]; omega
theorem TD_Dg : ∀ k n : Nat, n < 10 ^ (k + 1) → (Dg n).length ≤ k + 1 ∧ TD (k + 1) n = List.replicate (k + 1 - (Dg n).length) 48 ++ Dg n
  | 0, n, h => by
    have hn : n < 10 := by simpa using h
    rw [Dg_small hn]
    refine ⟨by simp, ?_⟩
    rw [TD, TD, Nat.mod_eq_of_lt hn]
    simp
  | k + 1, n, h => by
    rw [Nat.pow_succ] at h
    obtain ⟨h1, h2⟩ := TD_Dg k (n / 10) (by omega)
    rw [TD, h2]
    by_cases hn : n < 10
    · have h0 : n / 10 = 0 := by omega
      rw [h0, Dg_small hn, Dg_small (by omega), Nat.mod_eq_of_lt hn]
      refine ⟨by simp, ?_⟩
      simp only [List.length_singleton, Nat.add_sub_cancel]
      rw [List.replicate_succ']
      simp
    · rw [Dg_big (n := n) (by omega), List.length_append, List.length_singleton]
      refine ⟨by omega, ?_⟩
      rw [show k + 1 + 1 - ((Dg (n / 10)).length + 1) = k + 1 - (Dg (n / 10)).length by omega, List.append_assoc]
/-- Ten to a power in both kinds of numbers. -/
theorem p10_nat (k : Nat) : p10 k = ((10 ^ k : Nat) : Int) := by unfold p10; exact (Int.natCast_pow 10 k).symm
/-! ## decs -/
/-- A number's decimal text. -/
def decS (n : Nat) : ByteArray := ⟨(Go.Lib.decDigits n).toArray⟩
theorem L_decS (n : Nat) : L (decS n) = Dg n := rfl
theorem Dg_le19 (n : Nat) (h : n ≤ 9223372036854775807) : (Dg n).length ≤ 19 := (TD_Dg 18 n (by omega)).1
theorem size_decS (n : Nat) : (decS n).size = (Dg n).length := by rw [size_L, L_decS]
theorem one_dig {n : Nat} (h : n < 10) : strOfNums [wrap64 (48 + (n : Int)) % 256] = decS n := by
  apply L_inj
  rw [L_decS, Dg_small h, w64 (by omega) (by omega), Int.emod_eq_of_lt (by omega) (by omega), L_strOfNums]
  intro c hc
  rw [List.mem_singleton] at hc
  omega
/-! ## l1Num -/
theorem l1Num_b : ∀ b n : Nat, n ≤ b → n ≤ 9223372036854775807 → Ev (fun k => spec_l1Num.f k (n : Int)) (decS n)
  | 0, n, h, hb => by
    refine Ev.step (fun _ => spec_l1Num.f.eq_2 ..) (Ev.pos (by omega) (Ev.eq ?_ (Ev.now _)))
    exact (one_dig (by omega)).symm
  | b + 1, n, h, hb => by
    refine Ev.step (fun _ => spec_l1Num.f.eq_2 ..) ?_
    by_cases hn : n < 10
    · exact Ev.pos (by omega) (Ev.eq (one_dig hn).symm (Ev.now _))
    · refine Ev.neg (by omega) ?_
      rw [show Int.tdiv (n : Int) 10 = ((n / 10 : Nat) : Int) from rfl, w64n (x := n / 10) (by omega), show Int.tmod (n : Int) 10 = ((n % 10 : Nat) : Int) from rfl]
      refine Ev.bind (l1Num_b b (n / 10) (by omega) (by omega)) (Ev.sm rfl ?_)
      rw [one_dig (n := n % 10) (by omega)]
      have h1 : (decS (n / 10)).size ≤ 19 := by rw [size_decS]; exact Dg_le19 _ (by omega)
      have h2 : (decS (n % 10)).size ≤ 19 := by rw [size_decS]; exact Dg_le19 _ (by omega)
      refine Ev.pos (by omega) (Ev.eq ?_ (Ev.now _))
      apply L_inj
      rw [L_append, L_decS, L_decS, L_decS, Dg_big (n := n) (by omega), Dg_small (n := n % 10) (by omega)]
theorem l1Num_f (n : Nat) (h : n ≤ 9223372036854775807) : Ev (fun k => spec_l1Num.f k (n : Int)) (decS n) := l1Num_b n n (Nat.le_refl _) h
/-! ## FnExactDigitsForMultiple -/
/-! DigitsForMultiple -/
noncomputable def fnd (n a : Nat) : Bool := ((multN n [48 + (a : Int)]).getD none).isSome
noncomputable def fdT (n : Nat) : Nat → Nat → ByteArray
  | _, 0 => ⟨#[48, 49]⟩
  | a, e + 1 => if fnd n a = true then decS a else fdT n (a + 1) e
theorem L_dig {a : Nat} (h : a < 10) : L (decS a) = [48 + (a : Int)] := by rw [L_decS, Dg_small h]
theorem digs_dig {a : Nat} (h : a < 10) : digsD (L (decS a)) := by
  intro d hd
  rw [L_dig h, List.mem_singleton] at hd
  omega
theorem ansM_snd (R : Option (List Int)) : (ansM R).2 = R.isSome := by cases R <;> rfl
theorem size_dig {a : Nat} (h : a < 10) : (decS a).size = 1 := by rw [size_decS, Dg_small h]; rfl
theorem specDM_l0 {n : Nat} (h1 : 1 ≤ n) (h4 : n ≤ 400) : ∀ (e a : Nat), a + e = 10 → Ev (fun k => spec_DigitsForMultiple.l0 k (n : Int) (a : Int)) (fdT n a e, true)
  | 0, a, h => Ev.step (fun _ => spec_DigitsForMultiple.l0.eq_2 ..) (Ev.neg (by omega) (Ev.now _))
  | e + 1, a, h => by
    obtain ⟨R, hR⟩ := mult_ex h1 (digs_dig (a := a) (by omega))
    refine Ev.step (fun _ => spec_DigitsForMultiple.l0.eq_2 ..) (Ev.pos (by omega) (Ev.bind (l1Num_f a (by omega)) (Ev.bind (leMultiple_f h1 h4 (digs_dig (by omega)) (by rw [size_dig (by omega)]; omega) hR) ?_)))
    rw [wsucc (m := 20) (by omega) (by omega), fdT]
    have hf : fnd n a = R.isSome := by unfold fnd; rw [← L_dig (a := a) (by omega), hR]; rfl
    rw [ansM_snd, ← hf]
    by_cases c : fnd n a = true
    · rw [if_pos c]
      exact Ev.pos c (Ev.bind (l1Num_f a (by omega)) (Ev.now _))
    · rw [if_neg c]
      exact Ev.neg c (specDM_l0 h1 h4 e (a + 1) (by omega))
theorem sn_dig {a : Nat} (h : a < 10) : strOfNums [48 + (a : Int)] = decS a := by
  rw [← one_dig h, w64 (by omega) (by omega), Int.emod_eq_of_lt (by omega) (by omega)]
theorem implM_dig {n : Nat} (h1 : 1 ≤ n) (h4 : n ≤ 400) {a : Nat} (h : a < 10) : ∃ y, impl_multiple.f (n : Int) (decS a) = some (y, fnd n a) := by
  obtain ⟨R, hR⟩ := mult_ex h1 (digs_dig h)
  refine ⟨(ansM R).1, ?_⟩
  rw [implM_f h1 h4 (digs_dig h) (by rw [size_dig h]; omega) hR]
  have hf : fnd n a = R.isSome := by unfold fnd; rw [← L_dig h, hR]; rfl
  rw [hf, ← ansM_snd]
theorem emp_app (s : ByteArray) : (⟨#[]⟩ : ByteArray) ++ s = s := by
  apply L_inj
  rw [L_append]; rfl
/-- The second level: '01' is the first text there. -/
theorem second_l0 {n : Nat} (h1 : 1 ≤ n) (h4 : n ≤ 400) (acc : List ByteArray) (h : acc.length ≤ 10) (h0 : ∃ t, acc = decS 0 :: t) : Ev (fun k => impl_DigitsForMultiple.l0 k (n : Int) acc 1) ((⟨#[48, 49]⟩ : ByteArray), true) := by
  obtain ⟨t, rfl⟩ := h0
  have e0 : rdOf ByteArray.empty (decS 0 :: t) 0 = (⟨#[48]⟩ : ByteArray) := by
    show decS 0 = _
    rw [← sn_dig (by omega)]; rfl
  refine Ev.step (fun _ => impl_DigitsForMultiple.l0.eq_2 ..) (Ev.pos (by decide) (Ev.step (fun _ => impl_DigitsForMultiple.l1.eq_2 ..) (Ev.pos (by rw [List.length_cons]; omega) (Ev.pos (by decide) (Ev.pos (by rw [List.length_cons]; omega) ?_)))))
  rw [e0]
  have hz : wrap64 (((⟨#[48]⟩ : ByteArray).size : Int) - 1) = 0 := by rw [w64 (by decide) (by decide)]; rfl
  refine Ev.step (fun _ => impl_DigitsForMultiple.l2.eq_2 ..) ?_
  rw [hz]
  refine Ev.pos (by decide) (Ev.neg ?_ (Ev.pos (by decide) (Ev.pos (by decide) (Ev.step (fun _ => impl_DigitsForMultiple.j3.eq_2 ..) (Ev.pos (by decide) ?_)))))
  · rw [ByteArray.toList_eq]; decide
  · refine Ev.step (fun _ => impl_DigitsForMultiple.l2.eq_2 ..) ?_
    rw [hz]
    refine Ev.pos (by decide) (Ev.neg ?_ (Ev.pos (by decide) (Ev.pos (by decide) (Ev.step (fun _ => impl_DigitsForMultiple.j3.eq_2 ..) (Ev.neg (by decide) ?_)))))
    · rw [ByteArray.toList_eq]; decide
    · obtain ⟨l, hl⟩ := mult01 h1 h4
      have hl' : multN n (L ((⟨#[48]⟩ : ByteArray) ++ strOfNums [((48 : Int) + 1) % 256])) = some (some l) := hl
      have hd : digsD (L ((⟨#[48]⟩ : ByteArray) ++ strOfNums [((48 : Int) + 1) % 256])) := digs01
      refine Ev.sm (a := [((48 : Int) + 1) % 256]) rfl (Ev.pos (by decide) (Ev.sm (implM_f h1 h4 hd (by decide) hl') (Ev.pos rfl (Ev.eq (by decide) (Ev.now _)))))
theorem implDM_l2 {n : Nat} (h1 : 1 ≤ n) (h4 : n ≤ 400) : ∀ (e a : Nat) (acc : List ByteArray), 1 ≤ a → a + e = 10 → acc.length = a → (∃ t, acc = decS 0 :: t) →
    Ev (fun k => impl_DigitsForMultiple.l2 k (n : Int) acc ⟨#[]⟩ (48 + (a : Int)) 0 [⟨#[]⟩] (([⟨#[]⟩] : List ByteArray).length : Int) 0) (fdT n a e, true)
  | 0, a, acc, h0, h, ha, ht => by
    refine Ev.step (fun _ => impl_DigitsForMultiple.l2.eq_2 ..) (Ev.neg (by omega) (Ev.step (fun _ => impl_DigitsForMultiple.l1.eq_2 ..) ?_))
    rw [show wrap64 ((0 : Int) + 1) = 1 by rw [w64 (by decide) (by decide)]; rfl]
    refine Ev.neg (by decide) ?_
    exact second_l0 h1 h4 acc (by omega) ht
  | e + 1, a, acc, h0, h, ha, ht => by
    refine Ev.step (fun _ => impl_DigitsForMultiple.l2.eq_2 ..) (Ev.pos (by omega) (Ev.pos (by rw [ByteArray.toList_eq]) (Ev.step (fun _ => impl_DigitsForMultiple.j3.eq_2 ..) (Ev.neg Bool.false_ne_true (Ev.sm (a := [48 + (a : Int)]) rfl ?_)))))
    obtain ⟨y, hy⟩ := implM_dig h1 h4 (a := a) (by omega)
    rw [sn_dig (a := a) (by omega), emp_app, fdT, Int.emod_eq_of_lt (a := 48 + (a : Int) + 1) (by omega) (by omega), show 48 + (a : Int) + 1 = 48 + ((a + 1 : Nat) : Int) by omega]
    refine Ev.pos (by rw [size_dig (by omega)]; decide) (Ev.sm hy ?_)
    by_cases c : fnd n a = true
    · rw [if_pos c]; exact Ev.pos c (Ev.now _)
    · rw [if_neg c]
      obtain ⟨t, rfl⟩ := ht
      exact Ev.neg c (Ev.pos (by omega) (implDM_l2 h1 h4 e (a + 1) _ (by omega) (by omega) (by rw [List.length_append, ha]; rfl) ⟨_, rfl⟩))
theorem implDM_f {n : Nat} (h1 : 1 ≤ n) (h4 : n ≤ 400) : Ev (fun k => impl_DigitsForMultiple.l0 k (n : Int) [⟨#[]⟩] 0) (fdT n 1 9, true) := by
  refine Ev.step (fun _ => impl_DigitsForMultiple.l0.eq_2 ..) (Ev.pos (by decide) (Ev.step (fun _ => impl_DigitsForMultiple.l1.eq_2 ..) (Ev.pos (by decide) (Ev.pos (by decide) (Ev.pos (by decide) ?_)))))
  refine Ev.step (fun _ => impl_DigitsForMultiple.l2.eq_2 ..) (Ev.pos (by decide) (Ev.pos (by show (⟨#[]⟩ : ByteArray).toList = []; rw [ByteArray.toList_eq]) (Ev.step (fun _ => impl_DigitsForMultiple.j3.eq_2 ..) (Ev.neg Bool.false_ne_true (Ev.sm (a := [48 + ((0 : Nat) : Int)]) rfl ?_)))))
  obtain ⟨y, hy⟩ := implM_dig h1 h4 (a := 0) (by omega)
  have hf : fnd n 0 = false := by unfold fnd; rw [show multN n [48 + ((0 : Nat) : Int)] = some none from mult0 n]; rfl
  have e : (rdOf ByteArray.empty [(⟨#[]⟩ : ByteArray)] 0) = (⟨#[]⟩ : ByteArray) := rfl
  rw [sn_dig (a := 0) (by omega), e, emp_app]
  refine Ev.pos (by rw [size_dig (by omega)]; decide) (Ev.sm hy (Ev.neg (by rw [hf]; exact Bool.false_ne_true) (Ev.pos (by decide) ?_)))
  exact implDM_l2 h1 h4 9 1 [decS 0] (by omega) (by omega) rfl ⟨[], rfl⟩
theorem FnExactDigitsForMultiple : laws_FnExactDigitsForMultiple.Pure := by
  intro a _
  refine Ev.rounds (g := fun k => laws_FnExactDigitsForMultiple.f k a) ?_
  unfold laws_FnExactDigitsForMultiple.f
  by_cases ha : 1 ≤ a ∧ a ≤ 400
  · obtain ⟨n, rfl⟩ : ∃ n : Nat, a = (n : Int) := ⟨a.toNat, by omega⟩
    have hb : (decide (1 ≤ (n : Int)) && decide ((n : Int) ≤ 400)) = true := by rw [decide_eq_true ha.1, decide_eq_true ha.2]; rfl
    have hs : Ev (fun k => spec_DigitsForMultiple.f k (n : Int)) (fdT n 1 9, true) := Ev.sm (leDivisor_f _) (Ev.pos hb (specDM_l0 (by omega) (by omega) 9 1 rfl))
    have hi : Ev (fun k => impl_DigitsForMultiple.f k (n : Int)) (fdT n 1 9, true) := Ev.sm (isDivisor_f _) (Ev.pos hb (implDM_f (by omega) (by omega)))
    exact Ev.bind hs (Ev.bind hi (Ev.pos rfl (Ev.neg (by simp) (Ev.now _))))
  · have hb : ¬ (decide (1 ≤ a) && decide (a ≤ 400)) = true := by rw [Bool.and_eq_true, decide_eq_true_eq, decide_eq_true_eq]; exact ha
    exact Ev.bind (a := (⟨#[]⟩, false)) (Ev.sm (leDivisor_f _) (Ev.neg hb (Ev.now _))) (Ev.bind (a := (⟨#[]⟩, false)) (Ev.sm (isDivisor_f _) (Ev.neg hb (Ev.now _))) (Ev.pos rfl (Ev.neg (by decide) (Ev.now _))))

end Go.Proofs.Ytkbbmkbkpkmdkab.Pure
