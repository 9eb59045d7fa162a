/- The contract of impl.multiple's closure push: what it lays behind the list of nodes, what it marks. Conditions: a rest below n, a digit. (Types and functions by their numbers at this seat.) -/
import Derived.Test.YtkbbmkbkpkmdkabBytes
import Derived.Test.YtkbbmkbkpkmdkabWMore
import Derived.Sort.WalkA
namespace Go.Proofs.Ytkbbmkbkpkmdkab.Ext
set_option linter.unusedVariables false
set_option linter.unusedSimpArgs false
open Go.RowKit Go.Sort Go.Lib Go.Proofs.YtkbbmkbkpkmdkabW.PrintWords Go.Proofs.YtkbbmkbkpkmdkabW.PrintMore
abbrev Nd := Int × Int × Int
theorem info56_ : (Try.prog.info? 56).map (fun i => (i.zero, i.size, i.bytes)) = some (some (.agg #[.int .i64 0, .int .i64 0, .int .u8 0]), 3, 24) := by kernel_rfl
def ndCells (p : Nd) : List Value := [.int .i64 p.1, .int .i64 p.2.1, .int .u8 p.2.2]
def cellsN (ns : List Nd) : List Value := ns.flatMap ndCells
theorem cellsN_snoc (ns : List Nd) (p : Nd) : cellsN (ns ++ [p]) = cellsN ns ++ ndCells p := by simp [cellsN]
theorem cellsN_len : ∀ ns : List Nd, (cellsN ns).length = ns.length * 3
  | [] => rfl
  | p :: ns => by
    have h : cellsN (p :: ns) = ndCells p ++ cellsN ns := rfl
    rw [h, List.length_append, cellsN_len ns, List.length_cons]
    show 3 + ns.length * 3 = _
    omega
theorem cellsN_at : ∀ (ns : List Nd) (k f : Nat), k < ns.length → f < 3 → (cellsN ns)[3 * k + f]? = (ndCells (ns.getD k (0, 0, 0)))[f]?
  | [], k, f, h, _ => by cases h
  | p :: ns, 0, f, h, hf => by
    have e : cellsN (p :: ns) = ndCells p ++ cellsN ns := rfl
    rw [e, Nat.mul_zero, Nat.zero_add, List.getElem?_append_left (by show f < 3; exact hf)]
    rfl
  | p :: ns, k + 1, f, h, hf => by
    have e : cellsN (p :: ns) = ndCells p ++ cellsN ns := rfl
    rw [e, List.getElem?_append_right (by show 3 ≤ _; omega), show 3 * (k + 1) + f - (ndCells p).length = 3 * k + f from by show 3 * (k + 1) + f - 3 = _; omega]
    exact cellsN_at ns k f (by simpa using h) hf
/-- The world in which the nodes ns and the marks met stand. -/
structure St (w0 W : World) (n bN bM bL gM : Nat) (ns : List Nd) (met : List Bool) : Prop where
  below : Below w0.heap.size w0 W
  hn : W.heap[bN]? = some (.cells #[.int .i64 (n : Int)] 3 (0, 0))
  hm : W.heap[bM]? = some (.cells #[.slice (some ⟨gM, 0, none⟩) n n] 52 (0, 0))
  hg : W.heap[gM]? = some (.cells (met.map Value.bool).toArray 4 (0, 0))
  hmet : met.length = n
  hl : ∃ v, W.heap[bL]? = some (.cells #[v] 54 (0, 0)) ∧ W.ownsRow w0.heap.size 56 3 v ns.length (cellsN ns)
  oN : w0.heap.size ≤ bN
  oM : w0.heap.size ≤ bM
  oL : w0.heap.size ≤ bL
  oG : w0.heap.size ≤ gM
/-- What other rows keep. -/
def Stays (W W' : World) : Prop := ∀ (b : Nat) (c : Array Value) (t : TypeId) (fz : Nat × Nat), t ≠ 4 → t ≠ 54 → t ≠ 56 → W.heap[b]? = some (.cells c t fz) → W'.heap[b]? = some (.cells c t fz)
theorem Stays.refl (W : World) : Stays W W := fun _ _ _ _ _ _ _ h => h
theorem Stays.trans {W W' W2 : World} (h : Stays W W') (k : Stays W' W2) : Stays W W2 := fun b c t fz h1 h2 h3 h4 => k b c t fz h1 h2 h3 (h b c t fz h1 h2 h3 h4)
def pushR (n : Nat) (r : Nat) (d : Int) : Nat := ((10 * (r : Int) + (d - 48)) % (n : Int)).toNat
def pushN (n : Nat) (s : List Nd × List Bool) (b : Int) (r : Nat) (d : Int) : List Nd × List Bool :=
  if s.2.getD (pushR n r d) true = true then s else (s.1 ++ [((pushR n r d : Int), b, d)], s.2.set (pushR n r d) true)
set_option maxHeartbeats 4000000 in
set_option maxRecDepth 100000 in
theorem push_calls (w0 w : World) (n bN bM bL gM : Nat) (ns : List Nd) (met : List Bool) (b : Int) (r : Nat) (d : Int) (hS : St w0 w n bN bM bL gM ns met) (hn0 : 1 ≤ n) (hn1 : n ≤ 1000) (hr : r < n) (hd : 48 ≤ d ∧ d ≤ 57) (hl : ns.length ≤ 1000) :
    Calls Try.prog 51 #[.int .i64 b, .int .i64 (r : Int), .int .u8 d, .pointer (some ⟨bN, 0, none⟩), .pointer (some ⟨bM, 0, none⟩), .pointer (some ⟨bL, 0, none⟩)] w fun e w' =>
      e = .returned (.tuple #[]) ∧ St w0 w' n bN bM bL gM (pushN n (ns, met) b r d).1 (pushN n (ns, met) b r d).2 ∧ Stays w w' := by
  have c1 : w.cell? ⟨bN, 0, none⟩ = some (.int .i64 (n : Int)) := by rw [blk_cell hS.hn]; rfl
  have c2 : w.cell? ⟨bM, 0, none⟩ = some (.slice (some ⟨gM, 0, none⟩) n n) := by rw [blk_cell hS.hm]; rfl
  have e1 : (d - 48) % 256 = d - 48 := by omega
  obtain ⟨q, hq⟩ : ∃ q, q = pushR n r d := ⟨_, rfl⟩
  have hqn : q < n := by
    rw [hq]; unfold pushR
    have h1 := Int.emod_nonneg (10 * (r : Int) + (d - 48)) (show (n : Int) ≠ 0 by omega)
    have h2 := Int.emod_lt_of_pos (10 * (r : Int) + (d - 48)) (show (0 : Int) < (n : Int) by omega)
    omega
  have hqe : Int.tmod (10 * (r : Int) + (d - 48)) (n : Int) = (q : Int) := by
    rw [Int.tmod_eq_emod_of_nonneg (by omega), hq]; unfold pushR
    have h1 := Int.emod_nonneg (10 * (r : Int) + (d - 48)) (show (n : Int) ≠ 0 by omega)
    omega
  have hnz : (n : Int) ≠ 0 := by omega
  have hml := hS.hmet
  have c3 : ∀ v, met.getD q true = v → w.cell? ⟨gM, q, none⟩ = some (.bool v) := by
    intro v hv
    rw [blk_cell hS.hg]
    simp [List.getD_eq_getElem?_getD, List.getElem?_eq_getElem (show q < met.length by omega)] at hv ⊢
    exact hv
  have f3 : w.frozen? ⟨gM, q, none⟩ = false := blk_frozen hS.hg q
  obtain ⟨v, hv, hown⟩ := hS.hl
  have c4 : w.cell? ⟨bL, 0, none⟩ = some v := by rw [blk_cell hv]; rfl
  have f4 : w.frozen? ⟨bL, 0, none⟩ = false := blk_frozen hv 0
  have HS := Lib.hid hS
  have HQ := Lib.hid hq
  by_cases hm : met.getD q true = true
  · have hc := c3 true hm
    have HM := Lib.hid hm
    clear c3 hS hq hm
    go_enter Try.func51, Try.ntmps51
    go_wp2
    exact bodyPost_end (v := .tuple #[]) (by simp [results, Try.results51, go_sem]) rfl ⟨rfl, by unfold pushN; rw [← HQ.out, if_pos HM.out]; exact HS.out, Stays.refl w⟩
  · have hm2 : met.getD q true = false := by simpa using hm
    have hc := c3 false hm2
    have HM := Lib.hid hm2
    have hne : bL ≠ gM := blk_ne hv hS.hg (by decide)
    obtain ⟨W1, hW1⟩ : ∃ W1, W1 = w.setCell ⟨gM, q, none⟩ (.bool true) := ⟨_, rfl⟩
    have hv1 : W1.heap[bL]? = some (.cells #[v] 54 (0, 0)) := by rw [hW1]; exact blk_far hv hne _
    have cL : W1.cell? ⟨bL, 0, none⟩ = some v := by rw [blk_cell hv1]; rfl
    rw [hW1] at cL
    have hown1 : W1.ownsRow w0.heap.size 56 3 v ns.length (cellsN ns) := by rw [hW1]; exact own_setCell hown (own_ne hown hS.hg (by decide)) _
    have HB1 : Below w0.heap.size w0 W1 := by rw [hW1]; exact hS.below.setCell (p := ⟨gM, q, none⟩) hS.oG _
    have HW := Lib.hid hW1
    have HO := Lib.hid hown1
    have HB := Lib.hid HB1
    have HV := Lib.hid hv1
    clear c3 hS hq hm hm2 hW1 hown1 HB1 hv1 hown hv
    go_enter Try.func51, Try.ntmps51
    go_wp2_with ((with_reducible refine gate_builtin (b := .append) (xs := #[.tmp 25, .tmp 30]) rfl ?_); at_builtin; refine Hid.out (?_ : Hid _))
    refine Lib.hid ?_
    refine print_append_cells (w0 := w0) (W := w.setCell ⟨gM, q, none⟩ (.bool true)) w0.heap.size rfl (.tmp 25) (.tmp 30) 54 56 (.agg #[.int .i64 0, .int .i64 0, .int .u8 0]) 3 24 rfl Try.underlying54 info56_ rfl (by decide) (by decide) v ns.length (cellsN ns) [.int .i64 (q : Int), .int .i64 b, .int .u8 d] rfl (by show Value.slice (some ⟨w.heap.size, 0, none⟩) 1 1 = _; simp [World.setCell]) rfl ?one ?hO ?hB ?hb ?hl ?_
    case one => intro u hu; simp at hu; rcases hu with rfl | rfl | rfl <;> rfl
    case hO => rw [← HW.out]; exact HO.out
    case hB => rw [← HW.out]; exact HB.out
    case hb => rw [← HW.out]; exact HB.out.size
    case hl => omega
    intro v1 w1 ho1 hb1 hg1 hat
    have hbL : w1.heap[bL]? = some (.cells #[v] 54 (0, 0)) := blk_grown (by rw [← HW.out]; exact HV.out) hg1 (by exact own_ne HO.out HV.out (by decide))
    have c5 : w1.cell? ⟨bL, 0, none⟩ = some v := by rw [blk_cell hbL]; rfl
    have f5 : w1.frozen? ⟨bL, 0, none⟩ = false := blk_frozen hbL 0
    obtain ⟨A1, cp1, rfl⟩ := own_slice ho1
    have HO1 := Lib.hid ho1
    have HB2 := Lib.hid hb1
    have HG1 := Lib.hid hg1
    have HL1 := Lib.hid hbL
    clear ho1 hb1 hg1 hbL hat cL f4 c4
    go_wp2
    refine bodyPost_end (v := .tuple #[]) (by simp [results, Try.results51, go_sem]) rfl ⟨rfl, ?_, ?_⟩
    · have hp : pushN n (ns, met) b r d = (ns ++ [((q : Int), b, d)], met.set q true) := by
        unfold pushN; rw [← HQ.out, if_neg (by rw [HM.out]; decide)]
      rw [hp]
      have hS := HS.out
      have hG := HG1.out
      rw [← HW.out] at hG
      -- what the blocks of the state hold
      have far : ∀ (k : Nat) (c : Array Value) (t : TypeId), t ≠ 4 → t ≠ 54 → t ≠ 56 → w.heap[k]? = some (.cells c t (0, 0)) → w1.heap[k]? = some (.cells c t (0, 0)) := by
        intro k c t t1 t2 t3 hk
        have h1 : W1.heap[k]? = some (.cells c t (0, 0)) := by rw [HW.out]; exact blk_far hk (blk_ne hk hS.hg t1) _
        exact blk_grown h1 hG (own_ne HO.out h1 (fun e => t3 e.symm))
      have hgm : w1.heap[gM]? = some (.cells ((met.set q true).map Value.bool).toArray 4 (0, 0)) := by
        have h1 : W1.heap[gM]? = some (.cells ((met.map Value.bool).toArray.setIfInBounds q (.bool true)) 4 (0, 0)) := by rw [HW.out]; exact blk_set hS.hg q _
        have h2 := blk_grown h1 hG (own_ne HO.out h1 (by decide))
        rw [h2]
        congr 2
        apply Array.ext'
        rw [Array.toList_setIfInBounds, List.map_set]
      have h1 := far bN _ 3 (by decide) (by decide) (by decide) hS.hn
      have h2 := far bM _ 52 (by decide) (by decide) (by decide) hS.hm
      exact {
        below := HB2.out.setCell (p := ⟨bL, 0, none⟩) hS.oL _
        hn := blk_far h1 (blk_ne h1 HL1.out (by decide)) _
        hm := blk_far h2 (blk_ne h2 HL1.out (by decide)) _
        hg := blk_far hgm (blk_ne hgm HL1.out (by decide)) _
        hmet := by rw [List.length_set]; exact hS.hmet
        hl := ⟨_, blk_set HL1.out 0 _, by
          rw [List.length_append, cellsN_snoc]
          exact own_setCell HO1.out (own_ne HO1.out HL1.out (by decide)) _⟩
        oN := hS.oN
        oM := hS.oM
        oL := hS.oL
        oG := hS.oG }
    · intro k c t fz t1 t2 t3 hk
      have hS := HS.out
      have hG := HG1.out
      rw [← HW.out] at hG
      have n1 : k ≠ gM := fun e => by rw [e, hS.hg] at hk; injection hk with hk; injection hk with _ hk; exact t1 hk.symm
      have n2 : k ≠ bL := fun e => by
        have h5 := HV.out
        rw [HW.out] at h5
        have h6 : w.heap[bL]? = some (.cells #[v] 54 (0, 0)) := by obtain ⟨v', h7, _⟩ := hS.hl; exact (Below.heap_setCell w ⟨gM, q, none⟩ (.bool true) bL hne).symm.trans h5
        rw [e, h6] at hk; injection hk with hk; injection hk with _ hk; exact t2 hk.symm
      have hk1 : W1.heap[k]? = some (.cells c t fz) := by rw [HW.out]; exact (Below.heap_setCell w ⟨gM, q, none⟩ (.bool true) k n1).trans hk
      have n3 : some k ≠ v.ownBlock := by
        rcases HO.out.2 with ⟨e, _⟩ | ⟨g', cap, cur, e, _, hh, _⟩
        · rw [e]; simp [Value.ownBlock]
        · rw [e]
          intro he
          have e2 : k = g' := by simpa [Value.ownBlock] using he
          rw [← e2, hk1] at hh
          injection hh with hh
          injection hh with _ hh
          exact t3 hh
      have hk2 : w1.heap[k]? = some (.cells c t fz) := (hG.block k (blk_lt hk1) n3).trans hk1
      exact (Below.heap_setCell w1 ⟨bL, 0, none⟩ _ k n2).trans hk2
end Go.Proofs.Ytkbbmkbkpkmdkab.Ext
