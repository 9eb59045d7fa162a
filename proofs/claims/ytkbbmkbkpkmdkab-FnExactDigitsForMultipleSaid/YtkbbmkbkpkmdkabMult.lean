/- The contract of impl.multiple: the least multiple that is written with some digits, found breadth first. Conditions: 1 to 400, at most 100 digits (else the told function answers nothing). (Types and functions by their numbers at this seat.) -/
import Derived.Test.YtkbbmkbkpkmdkabPush
import Derived.Shelf.SlGeneric
import Derived.Shelf.SlicesE.Reverse
namespace Go.Proofs.Ytkbbmkbkpkmdkab.Ext
set_option linter.unusedVariables false
set_option linter.unusedSimpArgs false
open Go.RowKit Go.Shelf Go.Sort Go.Lib Go.Proofs.YtkbbmkbkpkmdkabW.PrintWords Go.Proofs.YtkbbmkbkpkmdkabW.PrintMore
def startN (n : Nat) (D : List Int) : List Nd × List Bool := D.foldl (fun s d => if d = 48 then s else pushN n s (-1) 0 d) ([], List.replicate n false)
def roundN (n : Nat) (D : List Int) (s : List Nd × List Bool) (i : Nat) (r : Nat) : List Nd × List Bool := D.foldl (fun s d => pushN n s (i : Int) r d) s
def ndOf (ns : List Nd) (k : Nat) : Nd := ns.getD k (0, 0, 0)
def pathL (ns : List Nd) : Nat → Int → List Int
  | 0, _ => []
  | f + 1, k => if k < 0 then [] else (ndOf ns k.toNat).2.2 :: pathL ns f (ndOf ns k.toNat).2.1
def runN (n : Nat) (D : List Int) : Nat → Nat → List Nd × List Bool → Option (Option (List Int))
  | 0, _, _ => none
  | f + 1, i, s => if i < s.1.length then (if (ndOf s.1 i).1 = 0 then some (some (pathL s.1 (i + 1) (i : Int)).reverse) else runN n D f (i + 1) (roundN n D s i (ndOf s.1 i).1.toNat)) else some none
def multA : Option (List Int) → ByteArray × Bool
  | some l => (strOfNums l, true)
  | none => (⟨#[]⟩, false)
def impl_multiple.f (a0 : Int) (a1 : ByteArray) : Option (ByteArray × Bool) := if 1 ≤ a0 ∧ a0 ≤ 400 ∧ a1.size ≤ 100 ∧ (bytesOf a1).all (fun d => decide (48 ≤ d) && decide (d ≤ 57)) = true then (runN a0.toNat (bytesOf a1) (a0.toNat + 2) 0 (startN a0.toNat (bytesOf a1))).map multA else none
theorem encU_one_ : OneCell encU := fun _ => rfl
def lReverse_ren : Go.Shelf.Ren := ⟨fun | 35 => 52 | n => n, fun | 22 => 44 | 23 => 5 | 3 => 3 | 4 => 4 | 0 => 0 | n => n, fun | n => n⟩
theorem lReverse : Go.Proofs.SlLaysE.n35 Try.prog lReverse_ren := {
  mixed := by kernel_rfl
  f35 := ⟨Try.f52.name, by decide, Try.func52.trans (congrArg some (by kernel_rfl))⟩
  t0 := Try.underlying0
  a0 := Try.isAgg0
  z0 := Try.sizeOf0
  v0 := Try.zeroValue0
  t3 := Try.underlying3
  a3 := Try.isAgg3
  z3 := Try.sizeOf3
  v3 := Try.zeroValue3
  t4 := Try.underlying4
  a4 := Try.isAgg4
  z4 := Try.sizeOf4
  v4 := Try.zeroValue4
  t22 := Try.underlying44
  a22 := Try.isAgg44
  z22 := Try.sizeOf44
  v22 := Try.zeroValue44
  a23 := Try.isAgg5
  z23 := Try.sizeOf5 }
theorem info5_ : (Try.prog.info? 5).map (fun i => (i.zero, i.size, i.bytes)) = some (some (.int .u8 0), 1, 1) := by kernel_rfl
theorem info4_ : (Try.prog.info? 4).map (fun i => (i.zero, i.size, i.bytes)) = some (some (.bool false), 1, 1) := by kernel_rfl
/-- What every list of nodes keeps. -/
structure GoodN (n : Nat) (ns : List Nd) (met : List Bool) : Prop where
  len : met.length = n
  cnt : ns.length = met.count true
  nd : ∀ k, k < ns.length → 0 ≤ (ndOf ns k).1 ∧ (ndOf ns k).1 < n ∧ -1 ≤ (ndOf ns k).2.1 ∧ (ndOf ns k).2.1 < k ∧ 48 ≤ (ndOf ns k).2.2 ∧ (ndOf ns k).2.2 ≤ 57
theorem GoodN.le {n : Nat} {ns : List Nd} {met : List Bool} (h : GoodN n ns met) : ns.length ≤ n := by
  rw [h.cnt, ← h.len]; exact List.count_le_length
theorem ndOf_old {ns : List Nd} {p : Nd} {k : Nat} (h : k < ns.length) : ndOf (ns ++ [p]) k = ndOf ns k := by
  unfold ndOf
  rw [List.getD_eq_getElem?_getD, List.getD_eq_getElem?_getD, List.getElem?_append_left h]
theorem ndOf_new {ns : List Nd} {p : Nd} : ndOf (ns ++ [p]) ns.length = p := by
  unfold ndOf
  rw [List.getD_eq_getElem?_getD, List.getElem?_append_right (Nat.le_refl _), Nat.sub_self]; rfl
theorem count_set_true : ∀ (l : List Bool) (q : Nat), q < l.length → l.getD q true = false → (l.set q true).count true = l.count true + 1
  | [], q, h, _ => by cases h
  | b :: l, 0, _, h => by
    have hb : b = false := h
    subst hb
    simp
  | b :: l, q + 1, h, hq => by
    have ih := count_set_true l q (by simpa using h) hq
    rw [List.set_cons_succ, List.count_cons, List.count_cons, ih]
    omega
theorem pushR_lt {n : Nat} (h : 1 ≤ n) (r : Nat) (d : Int) : pushR n r d < n := by
  unfold pushR
  have h1 := Int.emod_nonneg (10 * (r : Int) + (d - 48)) (show (n : Int) ≠ 0 by omega)
  have h2 := Int.emod_lt_of_pos (10 * (r : Int) + (d - 48)) (show (0 : Int) < (n : Int) by omega)
  omega
theorem GoodN.push {n : Nat} {ns : List Nd} {met : List Bool} (h : GoodN n ns met) (h1 : 1 ≤ n) {b : Int} (hb : -1 ≤ b) (hb2 : b < ns.length) {r : Nat} {d : Int} (hd : 48 ≤ d ∧ d ≤ 57) :
    GoodN n (pushN n (ns, met) b r d).1 (pushN n (ns, met) b r d).2 := by
  have hq := pushR_lt h1 r d
  unfold pushN
  by_cases c : met.getD (pushR n r d) true = true
  · rw [if_pos c]; exact h
  · rw [if_neg c]
    refine ⟨by rw [List.length_set]; exact h.len, ?_, ?_⟩
    · rw [List.length_append, h.cnt]
      exact (count_set_true met _ (by rw [h.len]; exact hq) (by simpa using c)).symm
    · intro k hk
      simp only [List.length_append, List.length_singleton] at hk
      by_cases e : k < ns.length
      · rw [ndOf_old e]; exact h.nd k e
      · obtain rfl : k = ns.length := by omega
        rw [ndOf_new]
        exact ⟨by simp only []; omega, by simp only []; omega, hb, hb2, hd.1, hd.2⟩
theorem push_len (n : Nat) (s : List Nd × List Bool) (b : Int) (r : Nat) (d : Int) : s.1.length ≤ (pushN n s b r d).1.length := by
  unfold pushN; split
  · exact Nat.le_refl _
  · rw [List.length_append]; omega
theorem push_old (n : Nat) (s : List Nd × List Bool) (b : Int) (r : Nat) (d : Int) {k : Nat} (h : k < s.1.length) : ndOf (pushN n s b r d).1 k = ndOf s.1 k := by
  unfold pushN; split
  · rfl
  · exact ndOf_old h
theorem take_snoc {D : List Int} {p : Nat} (h : p < D.length) : D.take (p + 1) = D.take p ++ [D.getD p 0] := by
  rw [List.take_succ_eq_append_getElem h, List.getD_eq_getElem?_getD, List.getElem?_eq_getElem h]; rfl
theorem startN_snoc (n : Nat) (D : List Int) (d : Int) : startN n (D ++ [d]) = if d = 48 then startN n D else pushN n (startN n D) (-1) 0 d := by
  unfold startN; rw [List.foldl_append]; rfl
theorem roundN_snoc (n : Nat) (D : List Int) (s : List Nd × List Bool) (i r : Nat) (d : Int) : roundN n (D ++ [d]) s i r = pushN n (roundN n D s i r) (i : Int) r d := by
  unfold roundN; rw [List.foldl_append]; rfl
/-- A text's bytes laid as a row. -/
def TextAt (W : World) (g : Nat) (s : ByteArray) : Prop := ∃ cs fz, W.heap[g]? = some (.cells cs 5 fz) ∧ ∀ j, j < s.size → cs[j]? = some (.int .u8 (bt s (j : Int)))
theorem TextAt.keep {W W' : World} {g : Nat} {s : ByteArray} (h : TextAt W g s) (k : Stays W W') : TextAt W' g s := by
  obtain ⟨cs, fz, h1, h2⟩ := h
  exact ⟨cs, fz, k g cs 5 fz (by decide) (by decide) (by decide) h1, h2⟩
theorem TextAt.cell {W : World} {g : Nat} {s : ByteArray} (h : TextAt W g s) {j : Nat} (hj : j < s.size) : W.cell? ⟨g, j, none⟩ = some (.int .u8 (bt s (j : Int))) := by
  obtain ⟨cs, fz, h1, h2⟩ := h
  rw [cell_of_row W g j cs 5 fz h1]
  exact h2 j hj
theorem conv_text (w : World) (s : ByteArray) : ∃ (cap : Nat) (W1 : World), (convert 9 44 (.string s)).run Try.prog w = .ok (.slice (some ⟨w.heap.size, 0, none⟩) s.size cap) W1 ∧ TextAt W1 w.heap.size s ∧ Below w.heap.size w W1 := by
  refine ⟨_, _, Lib.run_convert_string_bytes w 9 44 5 s Try.underlying9 Try.underlying44 Try.underlying5, ?_, bytesWorld_below w 5 s⟩
  refine ⟨_, _, Lib.bytesWorld_at_new w 5 s, fun j hj => ?_⟩
  have h := Lib.bytesWorld_cell w 5 s j hj
  rw [cell_of_row _ _ j _ _ _ (Lib.bytesWorld_at_new w 5 s)] at h
  rw [h]
  have hl : j < s.data.toList.length := by simpa using hj
  congr 2
  rw [← rd_bytesOf]
  simp [rd, bytesOf, List.getD_eq_getElem?_getD, List.getElem?_eq_getElem hl]
theorem node_cell {W : World} {base g c : Nat} {ns : List Nd} (ho : W.ownsRow base 56 3 (.slice (some ⟨g, 0, none⟩) ns.length c) ns.length (cellsN ns)) {k f : Nat} {u : Value} (hk : k < ns.length) (hf : f < 3) (hu : (ndCells (ndOf ns k))[f]? = some u) : W.cell? ⟨g, k * 3 + f, none⟩ = some u := by
  have h := ho.cells (g := g) rfl (3 * k + f) u ((cellsN_at ns k f hk hf).trans hu)
  rw [add_plain, Nat.mul_comm] at h
  exact h
theorem St.step {w0 W W1 : World} {n bN bM bL gM : Nat} {ns : List Nd} {met : List Bool} (h : St w0 W n bN bM bL gM ns met) (hb : Below W.heap.size W W1) : St w0 W1 n bN bM bL gM ns met := by
  obtain ⟨v, hv, ho⟩ := h.hl
  exact { below := below_step h.below hb, hn := blk_below h.hn hb, hm := blk_below h.hm hb, hg := blk_below h.hg hb, hmet := h.hmet, hl := ⟨v, blk_below hv hb, pw_own_below ho hb⟩, oN := h.oN, oM := h.oM, oL := h.oL, oG := h.oG }
/-- A row of bytes of one's own grew: the state stays. -/
theorem St.grown {w0 W W1 : World} {n bN bM bL gM base m : Nat} {ns : List Nd} {met : List Bool} {u : Value} {xs : List Value} (h : St w0 W n bN bM bL gM ns met) (ho : W.ownsRow base 5 1 u m xs) (hg : W.grownBy W1 u.ownBlock) (hb : Below w0.heap.size w0 W1) : St w0 W1 n bN bM bL gM ns met := by
  obtain ⟨v, hv, hl⟩ := h.hl
  exact { below := hb, hn := blk_grown h.hn hg (own_ne ho h.hn (by decide)), hm := blk_grown h.hm hg (own_ne ho h.hm (by decide)), hg := blk_grown h.hg hg (own_ne ho h.hg (by decide)), hmet := h.hmet, hl := ⟨v, blk_grown hv hg (own_ne ho hv (by decide)), own_other hl hg (own_type_ne hl ho (by decide))⟩, oN := h.oN, oM := h.oM, oL := h.oL, oG := h.oG }
theorem own_holds {W : World} {base g c : Nat} {xs : List Int} (h : W.ownsRow base 5 1 (.slice (some ⟨g, 0, none⟩) xs.length c) xs.length (nums .u8 xs)) : Holds encU W g 0 xs.toArray := by
  intro j hj
  have hj' : j < xs.length := by simpa using hj
  have h1 := own_at h (j : Int) (by omega) (by omega)
  rw [Int.toNat_natCast] at h1
  rw [Nat.zero_add]
  refine ⟨?_, h1.2⟩
  rw [h1.1, getElem!_pos _ j hj, List.getElem_toArray]
  simp [rd, encU, List.getD_eq_getElem?_getD, List.getElem?_eq_getElem hj']
theorem pathL_neg (ns : List Nd) (f : Nat) {k : Int} (h : k < 0) : pathL ns f k = [] := by
  cases f with
  | zero => rfl
  | succ f => rw [pathL, if_pos h]
theorem stays_below {W W1 : World} (hb : Below W.heap.size W W1) : Stays W W1 := fun _ _ _ _ _ _ _ h => blk_below h hb
theorem getD_bytes (s : ByteArray) (p : Nat) : (bytesOf s).getD p 0 = bt s (p : Int) := by
  rw [← rd_bytesOf]; rfl
theorem dig_bt {s : ByteArray} (h : (bytesOf s).all (fun d => decide (48 ≤ d) && decide (d ≤ 57)) = true) {p : Nat} (hp : p < s.size) : 48 ≤ bt s (p : Int) ∧ bt s (p : Int) ≤ 57 := by
  have hl : p < (bytesOf s).length := by rw [bytesOf_length]; exact hp
  have h1 := List.all_eq_true.1 h _ (List.getElem_mem hl)
  rw [Bool.and_eq_true, decide_eq_true_eq, decide_eq_true_eq] at h1
  have h2 := getD_bytes s p
  rw [List.getD_eq_getElem?_getD, List.getElem?_eq_getElem hl] at h2
  rw [← h2]; exact h1
section
variable (w : World) (o0 o1 o2 o3 o4 : Obj)
theorem blk_new1 (n : Nat) (h : n = w.heap.size) (o : Obj) : (w.alloc o).heap[n]? = some o := by rw [h]; exact blk_new w o
theorem chain0 : ((((((w.alloc o0).alloc o1).alloc o2).alloc o3).alloc o4).drew).heap[w.heap.size]? = some o0 := blk_drew (blk_alloc (blk_alloc (blk_alloc (blk_alloc (blk_new w o0) _) _) _) _)
theorem chain1 : ((((((w.alloc o0).alloc o1).alloc o2).alloc o3).alloc o4).drew).heap[w.heap.size + 1]? = some o1 := blk_drew (blk_alloc (blk_alloc (blk_alloc (blk_new1 _ _ (by simp) o1) _) _) _)
theorem chain2 : ((((((w.alloc o0).alloc o1).alloc o2).alloc o3).alloc o4).drew).heap[w.heap.size + 1 + 1]? = some o2 := blk_drew (blk_alloc (blk_alloc (blk_new1 _ _ (by simp) o2) _) _)
theorem chain3 : ((((((w.alloc o0).alloc o1).alloc o2).alloc o3).alloc o4).drew).heap[w.heap.size + 1 + 1 + 1]? = some o3 := blk_drew (blk_alloc (blk_new1 _ _ (by simp) o3) _)
theorem chain4 : ((((((w.alloc o0).alloc o1).alloc o2).alloc o3).alloc o4).drew).heap[w.heap.size + 1 + 1 + 1 + 1]? = some o4 := blk_drew (blk_new1 _ _ (by simp) o4)
end
set_option maxHeartbeats 4000000 in
set_option maxRecDepth 100000 in
theorem impl_multiple.calls (a0 : Int) (a1 : ByteArray) (r1 : ByteArray) (r2 : Bool) (w : World) (h : impl_multiple.f a0 a1 = some (r1, r2)) :
    Calls Try.prog 38 #[.int .i64 a0, .string a1] w fun e w' => e = .returned (.tuple #[.string r1, .bool r2]) ∧ Below w.heap.size w w' := by
  unfold impl_multiple.f at h
  split at h
  case isFalse => cases h
  rename_i hs
  obtain ⟨hs1, hs2, hs3, hs4⟩ := hs
  obtain ⟨n, rfl⟩ : ∃ n : Nat, a0 = (n : Int) := ⟨a0.toNat, by omega⟩
  rw [Int.toNat_natCast] at h
  have H0 := Lib.hid h
  have HD := Lib.hid hs4
  clear h hs4
  have hmk := print_make_of (P := Try.prog) 52 4 (.bool false) 1 Try.underlying52 info4_ rfl (by decide) n (by omega)
  have hmf : ∀ (fn : Fn) (first cap : Array Value) (w : World), (Instr.makeFunc fn first cap).run Try.prog w = .ok (.func fn first cap) w := fun _ _ _ _ => rfl
  go_enter Try.func38, Try.ntmps38
  go_wp2
  rename_i Q1 K1 hK1
  have hst : ∀ (bL bM gM gR : Nat) (W : World), Below w.heap.size w W → w.heap.size ≤ bL → w.heap.size ≤ bM → w.heap.size ≤ gM → w.heap.size ≤ gR → W.heap[w.heap.size]? = some (.cells #[.int .i64 (n : Int)] 3 (0, 0)) →
      W.heap[bM]? = some (.cells #[.slice (some ⟨gM, 0, none⟩) n n] 52 (0, 0)) → W.heap[gM]? = some (.cells (madeCells #[.bool false] n) 4 (0, 0)) → W.heap[bL]? = some (.cells #[.slice (some ⟨gR, 0, none⟩) 0 0] 54 (0, 0)) → W.heap[gR]? = some (.cells #[] 56 (0, 0)) → St w W n w.heap.size bM bL gM [] (List.replicate n false) := by
    intro bL bM gM gR W hB h1 h2 h3 h4 e1 e2 e3 e4 e5
    refine { below := hB, hn := e1, hm := e2, hg := ?_, hmet := by simp, hl := ⟨_, e4, rfl, .inr ⟨gR, 0, #[], rfl, h4, e5, Nat.le_refl _, Nat.zero_le _, rfl, rfl⟩⟩, oN := Nat.le_refl _, oM := h2, oL := h1, oG := h3 }
    rw [e3]
    congr 2
    apply Array.ext
    · simp [madeCells]
    · intro t a b
      simp [madeCells, Nat.mod_one]
  have key : ∀ (bL bM gM gR : Nat) (W : World), Below w.heap.size w W → w.heap.size ≤ bL → w.heap.size ≤ bM → w.heap.size ≤ gM → w.heap.size ≤ gR → W.heap[w.heap.size]? = some (.cells #[.int .i64 (n : Int)] 3 (0, 0)) → W.heap[bM]? = some (.cells #[.slice (some ⟨gM, 0, none⟩) n n] 52 (0, 0)) → W.heap[gM]? = some (.cells (madeCells #[.bool false] n) 4 (0, 0)) → W.heap[bL]? = some (.cells #[.slice (some ⟨gR, 0, none⟩) 0 0] 54 (0, 0)) → W.heap[gR]? = some (.cells #[] 56 (0, 0)) → K1 { tmps := #[Value.int .i64 (n : Int), Value.string a1, Value.pointer (some ⟨w.heap.size, 0, none⟩), undef, Value.string ⟨#[]⟩, Value.bool false, Value.pointer (some ⟨bL, 0, none⟩), Value.pointer (some ⟨bM, 0, none⟩), undef, undef, undef, undef, undef, undef, undef, undef, Value.slice (some ⟨gR, 0, none⟩) 0 0, Value.int .i64 (n : Int), Value.slice (some ⟨gM, 0, none⟩) n n, undef, undef, undef, undef, undef, undef, undef, undef, undef, undef, undef, undef, undef, undef, undef, undef, undef, undef, undef, undef, undef, undef, undef, undef, undef, undef, undef, undef, undef, undef, undef, undef, undef, undef, undef, undef, undef, undef, undef, undef, undef, undef, undef, undef, undef, undef, undef, undef, undef, undef, undef, undef, undef, undef, undef, undef, undef, undef, undef, undef, undef, undef, undef, undef], defers := [] } W := by
    intro bL bM gM gR W h0_ h1_ h2_ h3_ h4_ h5_ h6_ h7_ h8_ h9_
    have hS := hst bL bM gM gR W h0_ h1_ h2_ h3_ h4_ h5_ h6_ h7_ h8_ h9_
    clear h0_ h1_ h2_ h3_ h4_ h5_ h6_ h7_ h8_ h9_ hst
    apply hK1
    obtain ⟨cap, W1, hconv, hT, hB⟩ := conv_text W a1
    have hS1 := hS.step hB
    obtain ⟨g, hg⟩ : ∃ g : Nat, g = W.heap.size := ⟨_, rfl⟩
    rw [← hg] at hconv hT
    have HT := Lib.hid hT
    have HS := Lib.hid hS1
    have HGG := Lib.hid hg
    clear hT hS1 hS hB hmk hg
    go_wp2
    go_loopw [23] (fun v23 wr => ∃ (p : Nat) (ns : List Nd) (met : List Bool), v23 = .int .i64 (p : Int) ∧ p ≤ a1.size ∧ startN n ((bytesOf a1).take p) = (ns, met) ∧ GoodN n ns met ∧ St w wr n w.heap.size bM bL gM ns met ∧ TextAt wr g a1) (fun v23 _ => a1.size - (intOf v23).toNat)
    case atStart => exact ⟨0, [], List.replicate n false, rfl, Nat.zero_le _, rfl, ⟨by simp, by rw [List.count_replicate]; rfl, fun k hk => by cases hk⟩, HS.out, HT.out⟩
    case round =>
      obtain ⟨p, ns, met, rfl, hp, hst, hG, hSr, hTr⟩ := hrel
      by_cases hlt : p < a1.size
      · have hd := dig_bt HD.out hlt
        have hc := hTr.cell hlt
        have hsn : startN n ((bytesOf a1).take (p + 1)) = if bt a1 (p : Int) = 48 then (ns, met) else pushN n (ns, met) (-1) 0 (bt a1 (p : Int)) := by
          rw [take_snoc (by rw [bytesOf_length]; exact hlt), startN_snoc, hst, getD_bytes]
        obtain ⟨d, hde⟩ : ∃ d, d = bt a1 (p : Int) := ⟨_, rfl⟩
        rw [← hde] at hd hc hsn
        have HSN := Lib.hid hsn
        have HSR := Lib.hid hSr
        have HTR := Lib.hid hTr
        have HG := Lib.hid hG
        have r0 : ((p : Int) < (a1.size : Int)) = True := eq_true (by omega)
        have p0 : (0 ≤ (p : Int)) = True := eq_true (by omega)
        clear hsn hSr hTr hG hst hde
        by_cases h48 : d = 48
        · subst h48
          go_wp2
          go_roundw
          case rel => exact ⟨p + 1, ns, met, by first | rfl | (congr 1; omega), by omega, by rw [HSN.out, if_pos rfl], HG.out, HSR.out, HTR.out⟩
          case measure => simp only [intOf]; omega
        · have hne : (d = 48) = False := eq_false h48
          go_wp2_with (go_at_call 51; refine (push_calls w _ n w.heap.size bM bL gM ns met (-1) 0 d HSR.out (by omega) (by omega) (by omega) hd (by have := HG.out.le; omega)).mono ?_; rintro e w2 ⟨rfl, hS2, hSt2⟩)
          have hpn : pushN n (ns, met) (-1) 0 d = ((pushN n (ns, met) (-1) 0 d).1, (pushN n (ns, met) (-1) 0 d).2) := rfl
          go_roundw
          case rel => exact ⟨p + 1, _, _, by first | rfl | (congr 1; omega), by omega, by rw [HSN.out, if_neg h48], HG.out.push (by omega) (by omega) (by omega) hd, hS2, HTR.out.keep hSt2⟩
          case measure => simp only [intOf]; omega
      · obtain rfl : p = a1.size := by omega
        rw [List.take_of_length_le (by rw [bytesOf_length]; omega)] at hst
        have r0 : ((a1.size : Int) < (a1.size : Int)) = False := eq_false (by omega)
        have HST := Lib.hid hst
        have HSR := Lib.hid hSr
        have HG := Lib.hid hG
        obtain ⟨R, hR⟩ : ∃ R, R = runN n (bytesOf a1) (n + 2) 0 (startN n (bytesOf a1)) := ⟨_, rfl⟩
        have HR := Lib.hid hR
        have H1 := Lib.hid (show R.map multA = some (r1, r2) by rw [hR]; exact H0.out)
        clear hst hSr hG hTr hp hlt hR
        go_wp2
        go_loopw [11] (fun v11 wx => ∃ (i : Nat) (ns : List Nd) (met : List Bool), v11 = .int .i64 (i : Int) ∧ i ≤ ns.length ∧ GoodN n ns met ∧ St w wx n w.heap.size bM bL gM ns met ∧ runN n (bytesOf a1) (n + 2 - i) i (ns, met) = R) (fun v11 _ => n + 1 - (intOf v11).toNat)
        case atStart => exact ⟨0, ns, met, rfl, Nat.zero_le _, HG.out, HSR.out, by rw [HR.out, HST.out]; rfl⟩
        case round =>
          obtain ⟨i, ns2, met2, rfl, hi, hG, hS, hrun⟩ := hrel
          have hin := hG.le
          obtain ⟨v, hv, hown⟩ := hS.hl
          have cL : wr.cell? ⟨bL, 0, none⟩ = some v := by rw [blk_cell hv]; rfl
          obtain ⟨A, cp, rfl⟩ := own_slice hown
          rw [show n + 2 - i = (n + 1 - i) + 1 by omega, runN] at hrun
          simp only at hrun
          by_cases hlt : i < ns2.length
          · rw [if_pos hlt] at hrun
            obtain ⟨gL, rfl⟩ : ∃ gL, A = some ⟨gL, 0, none⟩ := by
              rcases hown.2 with ⟨_, h0⟩ | ⟨g', cap', cur, hv', _⟩
              · omega
              · exact ⟨g', by injection hv' with e1 _ _⟩
            obtain ⟨hr0, hr1, hb0, hb1, hd0, hd1⟩ := hG.nd i hlt
            obtain ⟨rr, hrr⟩ : ∃ rr : Nat, (ndOf ns2 i).1 = (rr : Int) := ⟨(ndOf ns2 i).1.toNat, by omega⟩
            have cN : wr.cell? ⟨gL, i * 3, none⟩ = some (.int .i64 (rr : Int)) := by
              have := node_cell (f := 0) hown hlt (by omega) (u := .int .i64 (rr : Int)) (by rw [← hrr]; rfl)
              simpa using this
            have HRUN := Lib.hid hrun
            have HG2 := Lib.hid hG
            have HS2 := Lib.hid hS
            have HOW := Lib.hid hown
            have HV := Lib.hid hv
            have HRR := Lib.hid hrr
            clear hrun hG hS hown hv hr0 hr1 hb0 hb1 hd0 hd1 hrr
            have r1' : ((i : Int) < (ns2.length : Int)) = True := eq_true (by omega)
            have p1' : (0 ≤ (i : Int)) = True := eq_true (by omega)
            by_cases hz : rr = 0
            · subst hz
              have cN0 : wr.cell? ⟨gL, i * 3, none⟩ = some (.int .i64 0) := cN
              have E := H1.out
              have hrn := HRUN.out
              rw [if_pos (by rw [HRR.out]; rfl)] at hrn
              rw [← hrn] at E
              simp only [Option.map_some, multA, Option.some.injEq, Prod.mk.injEq] at E
              obtain ⟨rfl, rfl⟩ := E
              clear cN hrn HRUN
              go_wp2
              go_loopw [12, 13] (fun v12 v13 wx => ∃ (f : Nat) (k : Int) (acc : List Int), v13 = .int .i64 k ∧ -1 ≤ k ∧ k ≤ (i : Int) ∧ k < (f : Int) ∧ (k = -1 → 1 ≤ acc.length) ∧ (acc.length : Int) + k ≤ 1000 ∧ (∀ c ∈ acc, 48 ≤ c ∧ c ≤ 57) ∧ acc ++ pathL ns2 f k = pathL ns2 (i + 1) (i : Int) ∧ wx.ownsRow w.heap.size 5 1 v12 acc.length (nums .u8 acc) ∧ St w wx n w.heap.size bM bL gM ns2 met2) (fun _ v13 _ => (intOf v13 + 1).toNat)
              case atStart =>
                refine ⟨i + 1, (i : Int), [], rfl, by omega, by omega, by omega, by omega, by simp; omega, by simp, rfl, ?_, ?_⟩
                · exact ⟨rfl, .inr ⟨wr.heap.size, 0, #[], rfl, HS2.out.below.size, blk_new wr _, Nat.le_refl _, Nat.zero_le _, rfl, rfl⟩⟩
                · exact HS2.out.step (below_alloc (Below.refl _ wr) _)
              case round =>
                obtain ⟨f, k, acc, rfl, hk1, hki, hkf, hka, hkl, hdig, hpath, hown, hS⟩ := hrel
                by_cases hkn : k = -1
                · subst hkn
                  rw [pathL_neg ns2 f (by omega), List.append_nil] at hpath
                  have hal := hka rfl
                  obtain ⟨A5, c5, rfl⟩ := own_slice hown
                  obtain ⟨gO, rfl, hgO⟩ : ∃ gO, A5 = some ⟨gO, 0, none⟩ ∧ w.heap.size ≤ gO := by
                    rcases hown.2 with ⟨_, h0⟩ | ⟨g', cap', cur, hv', hb', _⟩
                    · omega
                    · exact ⟨g', by injection hv' with e1 _ _, hb'⟩
                  have hH := own_holds hown
                  have HREV := Lib.hid (show Calls Try.prog 52 #[.slice (some ⟨gO, 0, none⟩) acc.length c5] wr fun e w' => e = .returned (.tuple #[]) ∧ (convert 44 9 (.slice (some ⟨gO, 0, none⟩) acc.length c5)).run Try.prog w' = .ok (.string (strOfNums (pathL ns2 (i + 1) (i : Int)).reverse)) w' ∧ Below w.heap.size w w' by
                    refine (AnyE.slices_Reverse lReverse encU encU_one_ gO 0 c5 acc wr hH (by omega)).mono ?_
                    rintro e w' ⟨rfl, qq, rfl⟩
                    have hH2 := holds_putRow encU (Sort.ahead wr qq) gO 0 acc.toArray acc.reverse.toArray (holds_ahead _ _ _ _ _ _ hH) (by simp)
                    rw [← hpath]
                    exact ⟨rfl, string_of_reads Try.underlying44 Try.underlying5 Try.underlying9 (holds_reads hH2 (by simp) (by omega)), putRow_below hS.below hgO qq⟩)
                  clear hH hown hS hpath hdig hkf hka
                  go_wp2_with fail
                  refine HREV.out.mono ?_
                  rintro e w5 ⟨rfl, hback, hb5⟩
                  have HB5 := Lib.hid hb5
                  clear hb5
                  go_wp2
                  go_ret2
                  exact ⟨rfl, HB5.out⟩
                · obtain ⟨m, rfl⟩ : ∃ m : Nat, k = (m : Int) := ⟨k.toNat, by omega⟩
                  obtain ⟨f, rfl⟩ : ∃ f', f = f' + 1 := ⟨f - 1, by omega⟩
                  rw [pathL, if_neg (by omega), Int.toNat_natCast] at hpath
                  have hml : m < ns2.length := by omega
                  obtain ⟨q0, q1, qb0, qb1, qd0, qd1⟩ := HG2.out.nd m hml
                  obtain ⟨d, hd⟩ : ∃ d, d = (ndOf ns2 m).2.2 := ⟨_, rfl⟩
                  obtain ⟨b, hb⟩ : ∃ b, b = (ndOf ns2 m).2.1 := ⟨_, rfl⟩
                  rw [← hd] at hpath qd0 qd1
                  rw [← hb] at hpath qb0 qb1
                  obtain ⟨v, hv, hownL⟩ := hS.hl
                  have cL3 : wr.cell? ⟨bL, 0, none⟩ = some v := by rw [blk_cell hv]; rfl
                  obtain ⟨A3, cp3, rfl⟩ := own_slice hownL
                  obtain ⟨gL3, rfl⟩ : ∃ gL, A3 = some ⟨gL, 0, none⟩ := by
                    rcases hownL.2 with ⟨_, h0⟩ | ⟨g', cap', cur, hv', _⟩
                    · omega
                    · exact ⟨g', by injection hv' with e1 _ _⟩
                  have cD : wr.cell? ⟨gL3, m * 3 + 2, none⟩ = some (.int .u8 d) := node_cell (f := 2) hownL hml (by omega) (by rw [hd]; rfl)
                  have HS5 := Lib.hid hS
                  have HPA := Lib.hid hpath
                  have HDG := Lib.hid hdig
                  have HO5 := Lib.hid hown
                  have HDD := Lib.hid hd
                  have HBB := Lib.hid hb
                  have m1 : ((m : Int) ≥ 0) = True := eq_true (by omega)
                  have m2 : (0 ≤ (m : Int)) = True := eq_true (by omega)
                  have m3 : ((m : Int) < (ns2.length : Int)) = True := eq_true (by omega)
                  clear hS hpath hdig hown hownL hv hd hb
                  go_wp2_with ((with_reducible refine gate_builtin (b := .append) (xs := #[.tmp 54, .tmp 60]) rfl ?_); at_builtin; refine Hid.out (?_ : Hid _))
                  refine Lib.hid ?_
                  refine print_append_num (w0 := w) (W := wr) w.heap.size rfl (.tmp 54) (.tmp 60) 44 5 .u8 1 rfl Try.underlying44 info5_ (by decide) u12 acc d rfl rfl HO5.out HS5.out.below HS5.out.below.size (by omega) ?_
                  intro v1 w1 ho1 hb1 hg1 hat
                  have hS6 := HS5.out.grown HO5.out hg1 hb1
                  obtain ⟨v, hv, hownL⟩ := hS6.hl
                  have cL4 : w1.cell? ⟨bL, 0, none⟩ = some v := by rw [blk_cell hv]; rfl
                  obtain ⟨A4, cp4, rfl⟩ := own_slice hownL
                  obtain ⟨gL4, rfl⟩ : ∃ gL, A4 = some ⟨gL, 0, none⟩ := by
                    rcases hownL.2 with ⟨_, h0⟩ | ⟨g', cap', cur, hv', _⟩
                    · omega
                    · exact ⟨g', by injection hv' with e1 _ _⟩
                  have cB : w1.cell? ⟨gL4, m * 3 + 1, none⟩ = some (.int .i64 b) := node_cell (f := 1) hownL hml (by omega) (by rw [HBB.out]; rfl)
                  have HS6 := Lib.hid hS6
                  have HO6 := Lib.hid ho1
                  clear hS6 ho1 hb1 hg1 hat hv hownL cL3 cD
                  go_wp2
                  go_roundw
                  case rel => exact ⟨f, b, acc ++ [d], rfl, qb0, by omega, by omega, fun _ => by simp, by simp; omega, by
                    intro c hc
                    rcases List.mem_append.1 hc with h | h
                    · exact HDG.out c h
                    · rw [List.mem_singleton] at h; rw [h]; exact ⟨qd0, qd1⟩, by rw [List.append_assoc]; exact HPA.out, HO6.out, HS6.out⟩
                  case measure => simp only [intOf]; omega
            · have hzf : ((rr : Int) = 0) = False := eq_false (by omega)
              have hbz : ((rr : Int) == 0) = false := beq_eq_false_iff_ne.2 (by omega)
              have hrn : runN n (bytesOf a1) (n + 1 - i) (i + 1) (roundN n (bytesOf a1) (ns2, met2) i rr) = R := by
                have h5 := HRUN.out
                rw [if_neg (by rw [HRR.out]; omega), HRR.out, Int.toNat_natCast] at h5
                exact h5
              have HRN := Lib.hid hrn
              clear hrn
              obtain ⟨cap2, W2, hconv2, hT2, hB2⟩ := conv_text wr a1
              have hS3 := HS2.out.step hB2
              obtain ⟨g2, hg2⟩ : ∃ g2 : Nat, g2 = wr.heap.size := ⟨_, rfl⟩
              rw [← hg2] at hconv2 hT2
              have HT2 := Lib.hid hT2
              have HS3 := Lib.hid hS3
              clear hT2 hS3 hB2 hg2
              have hrl : rr < n := by have := (HG2.out.nd i hlt).2.1; rw [HRR.out] at this; omega
              go_wp2
              go_loopw [69] (fun v69 wx => ∃ (p : Nat) (ns3 : List Nd) (met3 : List Bool), v69 = .int .i64 (p : Int) ∧ p ≤ a1.size ∧ roundN n ((bytesOf a1).take p) (ns2, met2) i rr = (ns3, met3) ∧ GoodN n ns3 met3 ∧ i < ns3.length ∧ ndOf ns3 i = ndOf ns2 i ∧ St w wx n w.heap.size bM bL gM ns3 met3 ∧ TextAt wx g2 a1) (fun v69 _ => a1.size - (intOf v69).toNat)
              case atStart => exact ⟨0, ns2, met2, rfl, Nat.zero_le _, rfl, HG2.out, hlt, rfl, HS3.out, HT2.out⟩
              case round =>
                obtain ⟨p, ns3, met3, rfl, hp, hst, hG, hi3, hnd, hSr, hTr⟩ := hrel
                by_cases hlt3 : p < a1.size
                · have hd := dig_bt HD.out hlt3
                  have hc := hTr.cell hlt3
                  have hsn : roundN n ((bytesOf a1).take (p + 1)) (ns2, met2) i rr = pushN n (ns3, met3) (i : Int) rr (bt a1 (p : Int)) := by
                    rw [take_snoc (by rw [bytesOf_length]; exact hlt3), roundN_snoc, hst, getD_bytes]
                  obtain ⟨d, hde⟩ : ∃ d, d = bt a1 (p : Int) := ⟨_, rfl⟩
                  rw [← hde] at hd hc hsn
                  obtain ⟨v, hv, hown⟩ := hSr.hl
                  have cL3 : wr.cell? ⟨bL, 0, none⟩ = some v := by rw [blk_cell hv]; rfl
                  obtain ⟨A3, cp3, rfl⟩ := own_slice hown
                  obtain ⟨gL3, rfl⟩ : ∃ gL, A3 = some ⟨gL, 0, none⟩ := by
                    rcases hown.2 with ⟨_, h0⟩ | ⟨g', cap', cur, hv', _⟩
                    · omega
                    · exact ⟨g', by injection hv' with e1 _ _⟩
                  have cN3 : wr.cell? ⟨gL3, i * 3, none⟩ = some (.int .i64 (rr : Int)) := by
                    have := node_cell (f := 0) hown hi3 (by omega) (u := .int .i64 (rr : Int)) (by rw [hnd, ← HRR.out]; rfl)
                    simpa using this
                  have HSN := Lib.hid hsn
                  have HSR := Lib.hid hSr
                  have HTR := Lib.hid hTr
                  have HG := Lib.hid hG
                  have HND := Lib.hid hnd
                  have r3 : ((p : Int) < (a1.size : Int)) = True := eq_true (by omega)
                  have p3 : (0 ≤ (p : Int)) = True := eq_true (by omega)
                  have r4 : ((i : Int) < (ns3.length : Int)) = True := eq_true (by omega)
                  clear hsn hSr hTr hG hst hde hown hv hnd
                  go_wp2_with (go_at_call 51; refine (push_calls w _ n w.heap.size bM bL gM ns3 met3 (i : Int) rr d HSR.out (by omega) (by omega) (by omega) hd (by have := HG.out.le; omega)).mono ?_; rintro e w2 ⟨rfl, hS2, hSt2⟩)
                  go_roundw
                  case rel => exact ⟨p + 1, _, _, by first | rfl | (congr 1; omega), by omega, by rw [HSN.out], HG.out.push (by omega) (by omega) (by omega) hd, Nat.lt_of_lt_of_le hi3 (push_len n (ns3, met3) (i : Int) rr d), (push_old n (ns3, met3) (i : Int) rr d hi3).trans HND.out, hS2, HTR.out.keep hSt2⟩
                  case measure => simp only [intOf]; omega
                · obtain rfl : p = a1.size := by omega
                  rw [List.take_of_length_le (by rw [bytesOf_length]; omega)] at hst
                  have r3 : ((a1.size : Int) < (a1.size : Int)) = False := eq_false (by omega)
                  have HST3 := Lib.hid hst
                  have HSR := Lib.hid hSr
                  have HG := Lib.hid hG
                  clear hst hSr hG hTr hp hlt3 hnd
                  go_wp2
                  go_roundw
                  case rel => exact ⟨i + 1, ns3, met3, by first | rfl | (congr 1; omega), by omega, HG.out, HSR.out, by rw [show n + 2 - (i + 1) = n + 1 - i by omega, ← HST3.out]; exact HRN.out⟩
                  case measure => simp only [intOf]; omega
          · rw [if_neg hlt] at hrun
            have r1' : ((i : Int) < (ns2.length : Int)) = False := eq_false (by omega)
            have E := H1.out
            rw [← hrun] at E
            simp only [Option.map_some, multA, Option.some.injEq, Prod.mk.injEq] at E
            obtain ⟨rfl, rfl⟩ := E
            have HS2 := Lib.hid hS
            clear hrun hG hS hown hv
            go_wp2
            go_ret2
            exact ⟨rfl, HS2.out.below⟩
  have KEY := Lib.hid key
  clear key hst
  go_region
  all_goals
    refine KEY.out _ _ _ _ _ ?_ ?_ ?_ ?_ ?_ ?_ ?_ ?_ ?_ ?_
    · exact below_drew (below_alloc (below_alloc (below_alloc (below_alloc (below_alloc (Below.refl _ w) _) _) _) _) _)
    all_goals first | omega | exact chain0 _ _ _ _ _ _ | exact chain1 _ _ _ _ _ _ | exact chain2 _ _ _ _ _ _ | exact chain3 _ _ _ _ _ _ | exact chain4 _ _ _ _ _ _
end Go.Proofs.Ytkbbmkbkpkmdkab.Ext
