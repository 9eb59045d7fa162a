/- The contract of impl.BestWeights: the first weights with which all slips and swaps are told, out of those that tell all slips from zeros. No condition. (Types and functions by their numbers at this seat.) -/
import Derived.Test.YtkbbmkbkpkmdkacFind
import Derived.Laws.EntriesVeiled
namespace Go.Proofs.Ytkbbmkbkpkmdkac.Ext
set_option linter.unusedVariables false
set_option linter.unusedSimpArgs false
open Go.RowKit Go.Lib Go.Proofs.YtkbbmkbkpkmdkacW.PrintWords Go.Proofs.YtkbbmkbkpkmdkacW.PrintLast Go.Proofs.YtkbbmkbkpkmdkacW.PrintMore Go.Proofs.Ytkbbmkbkpkmdkac.QA1
open List (setIfInBounds_toArray set_cons_zero set_cons_succ)
open Kd (R_alloc R_drewN R_drew)
theorem within_calls (a b c : Int) (w : World) : Calls Try.prog 11 #[.int .i64 a, .int .i64 b, .int .i64 c] w fun e w' => e = .returned (.bool (decide (b ≤ a) && decide (a ≤ c))) ∧ w' = w := by
 by_cases h : b ≤ a
 ·have h' : (b ≤ a) = True := eq_true h
  go_enter Try.func11, Try.ntmps11
  go_wp2
  go_ret
  exact ⟨by simp [h], rfl⟩
 ·have h' : (b ≤ a) = False := eq_false h
  go_enter Try.func11, Try.ntmps11
  go_wp2
  go_ret
  exact ⟨by simp [h], rfl⟩
/-- Whether no digit up to n makes a multiple. -/
def tellsTo (M w : Nat) (n : Nat) : Bool := (List.range n).all (fun i => decide (w * (i + 1) % M ≠ 0))
def goodL (M : Nat) (n : Nat) : List Int := ((List.range n).filter (fun w => tellsTo M w 9)).map (fun w : Nat => (w : Int))
theorem tells_succ (M w d : Nat) (h : 1 ≤ d) : tellsTo M w d = (tellsTo M w (d - 1) && decide (w * d % M ≠ 0)) := by
 obtain ⟨e, rfl⟩ : ∃ e, d = e + 1 := ⟨d - 1, by omega⟩
 unfold tellsTo
 rw [Nat.add_sub_cancel, List.range_succ, List.all_append]
 simp
theorem good_succ (M i : Nat) : goodL M (i + 1) = if tellsTo M i 9 = true then goodL M i ++ [(i : Int)] else goodL M i := by
 unfold goodL
 rw [List.range_succ, List.filter_append, List.map_append]
 by_cases c : tellsTo M i 9 = true
 ·rw [if_pos c]; simp [List.filter, c]
 ·rw [if_neg c]; simp [List.filter, c]
theorem good_len (M i : Nat) : (goodL M i).length ≤ i := by
 unfold goodL
 rw [List.length_map]
 have := List.length_filter_le (fun w => tellsTo M w 9) (List.range i)
 rw [List.length_range] at this
 exact this
theorem wmul (i d : Nat) (hi : i ≤ 100) (hd : d ≤ 100) : IntKind.i64.wrap ((i : Int) * (d : Int)) = ((i * d : Nat) : Int) := by
 have h : i * d ≤ 100 * 100 := Nat.mul_le_mul hi hd
 obtain ⟨x, hx⟩ : ∃ x, x = i * d := ⟨_, rfl⟩
 rw [← Int.natCast_mul, ← hx, IntKind.wrap_i64]
 omega
def bestA : Option (List Int) → List Int × Bool
 | some l => (l, true)
 | none => ([], false)
def impl_BestWeights.f (k : Nat) (a0 a1 : Int) : Option (List Int × Bool) := if (2 ≤ a0 ∧ a0 ≤ 6) ∧ 2 ≤ a1 ∧ a1 ≤ 11 then (findF k a0 a1 (goodL a1.toNat a1.toNat) []).map bestA else some ([], false)
set_option maxHeartbeats 1000000 in
set_option maxRecDepth 100000 in
theorem impl_BestWeights.calls (k : Nat) (a0 a1 : Int) (r1 : List Int) (r2 : Bool) (w : World) (h : impl_BestWeights.f k a0 a1 = some (r1, r2)) :
  Calls Try.prog 5 #[.int .i64 a0, .int .i64 a1] w fun e w' => ∃ v0_ : Value, e = .returned (.tuple #[v0_, .bool r2]) ∧ Kd.R (Kd.int .i64) 3 w' w.heap.size (fun _ => True) v0_ r1 ∧ Below w.heap.size w w' := by
 unfold impl_BestWeights.f at h
 by_cases c0 : 2 ≤ a0 ∧ a0 ≤ 6
 ·by_cases c1 : 2 ≤ a1 ∧ a1 ≤ 11
  ·rw [if_pos ⟨c0, c1⟩] at h
   have b0 : (decide (2 ≤ a0) && decide (a0 ≤ 6)) = true := by rw [decide_eq_true c0.1, decide_eq_true c0.2]; rfl
   have b1 : (decide (2 ≤ a1) && decide (a1 ≤ 11)) = true := by rw [decide_eq_true c1.1, decide_eq_true c1.2]; rfl
   obtain ⟨rr, hf, hrr⟩ := Option.map_eq_some_iff.1 h
   obtain ⟨M, rfl⟩ : ∃ M : Nat, a1 = (M : Int) := ⟨a1.toNat, by omega⟩
   rw [Int.toNat_natCast] at hf
   have HF := Lib.hid hf
   have HRR := Lib.hid hrr
   have C0 := Lib.hid c0
   have C1 := Lib.hid c1
   clear h hf hrr c0 c1
   go_enter Try.func5, Try.ntmps5
   go_wp2_with (first | (go_at_call 11; (with_reducible refine (within_calls a0 2 6 _).mono ?_); rintro e w1 ⟨rfl, rfl⟩; rw [b0]) | (go_at_call 11; (with_reducible refine (within_calls (M : Int) 2 11 _).mono ?_); rintro e w1 ⟨rfl, rfl⟩; rw [b1]))
   obtain ⟨W2, hW2⟩ : ∃ W2, W2 = (w.alloc (Obj.cells #[Value.int IntKind.i64 a0] 3)).alloc (Obj.cells #[Value.int IntKind.i64 ↑M] 3) := ⟨_, rfl⟩
   have hsz : W2.heap.size = w.heap.size + 1 + 1 := by rw [hW2]; simp
   have hBw : Below w.heap.size w W2 := by rw [hW2]; exact below_alloc (below_alloc (Below.refl _ w) _) _
   have hP2 : W2.heap[w.heap.size]? = some (.cells #[.int .i64 a0] 3 (0, 0)) := by rw [hW2]; exact blk_alloc (blk_new w _) _
   have hM2 : W2.heap[w.heap.size + 1]? = some (.cells #[.int .i64 (M : Int)] 3 (0, 0)) := by
    rw [hW2]
    have := blk_new (w.alloc (Obj.cells #[Value.int IntKind.i64 a0] 3)) (Obj.cells #[Value.int IntKind.i64 ↑M] 3)
    simpa using this
   rw [← hW2]
   have e3 : ((W2.alloc (Obj.cells #[] 3)).alloc (Obj.cells #[Value.slice (some { block := w.heap.size + 1 + 1, off := 0 }) 0 0] 22)).heap[w.heap.size + 1 + 1]? = some (.cells #[] 3 (0, 0)) := by
    rw [← hsz]; exact blk_alloc (blk_new W2 _) _
   have e4 : ((W2.alloc (Obj.cells #[] 3)).alloc (Obj.cells #[Value.slice (some { block := w.heap.size + 1 + 1, off := 0 }) 0 0] 22)).heap[w.heap.size + 1 + 1 + 1]? = some (.cells #[Value.slice (some { block := w.heap.size + 1 + 1, off := 0 }) 0 0] 22 (0, 0)) := by
    have := blk_new (W2.alloc (Obj.cells #[] 3)) (Obj.cells #[Value.slice (some { block := w.heap.size + 1 + 1, off := 0 }) 0 0] 22)
    rw [← hsz] at this ⊢
    simpa using this
   have hb4 : Below W2.heap.size W2 ((W2.alloc (Obj.cells #[] 3)).alloc (Obj.cells #[Value.slice (some { block := w.heap.size + 1 + 1, off := 0 }) 0 0] 22)) := below_alloc (below_alloc (Below.refl _ W2) _) _
   have HSZ := Lib.hid hsz
   have HBW := Lib.hid hBw
   have HP2 := Lib.hid hP2
   have HM2 := Lib.hid hM2
   have E3 := Lib.hid e3
   have E4 := Lib.hid e4
   have HB4 := Lib.hid hb4
   clear hsz hBw hP2 hM2 e3 e4 hb4 hW2
   go_loopw [22] (fun v22 wr => ∃ (i : Nat) (gv : Value), v22 = .int .i64 i ∧ i ≤ M ∧ Below W2.heap.size W2 wr ∧ wr.heap[w.heap.size + 1 + 1 + 1]? = some (.cells #[gv] 22 (0, 0)) ∧ Kd.R (Kd.int .i64) 3 wr W2.heap.size (fun _ => True) gv (goodL M i)) (fun v22 _ => M - (intOf v22).toNat)
   case atStart => exact ⟨0, _, rfl, Nat.zero_le _, HB4.out, E4.out, fun _ _ => trivial, [], ⟨rfl, .inr ⟨w.heap.size + 1 + 1, 0, #[], rfl, by rw [HSZ.out]; exact Nat.le_refl _, E3.out, Nat.le_refl _, Nat.zero_le _, rfl, rfl⟩⟩, Reps.none _ _⟩
   case round =>
    obtain ⟨i, gv, rfl, hi, hb, hg, hR⟩ := hrel
    have HB := Lib.hid hb
    have HG := Lib.hid hg
    have HR := Lib.hid hR
    clear hb hg hR
    have c2 : wr.cell? ⟨w.heap.size + 1, 0, none⟩ = some (.int .i64 (M : Int)) := by rw [blk_cell (blk_below HM2.out HB.out)]; rfl
    by_cases hlt : i < M
    ·have r_ : ((i : Int) < (M : Int)) = True := eq_true (by omega)
     have hM11 : M ≤ 11 := by have := C1.out; omega
     have hM0 : (M : Int) ≠ 0 := by have := C1.out; omega
     go_wp2
     go_loopw [8, 9] (fun v8 v9 wx => ∃ d : Nat, v8 = .bool (tellsTo M i (d - 1)) ∧ v9 = .int .i64 (d : Int) ∧ 1 ≤ d ∧ d ≤ 10 ∧ wx = wr) (fun _ v9 _ => 10 - (intOf v9).toNat)
     case atStart => exact ⟨1, rfl, rfl, by omega, by omega, rfl⟩
     case round =>
      obtain ⟨d, rfl, rfl, hd1, hd2, rfl⟩ := hrel
      obtain ⟨tv, htv⟩ : ∃ tv, tellsTo M i (d - 1) = tv := ⟨_, rfl⟩
      rw [htv]
      by_cases hd : d < 10
      ·have rd_ : ((d : Int) < 10) = True := eq_true (by omega)
       have hs := tells_succ M i d hd1
       rw [htv] at hs
       cases tv with
       | false =>
        have HS := Lib.hid hs
        clear hs htv
        go_wp2
        go_roundw
        case rel => exact ⟨d + 1, by rw [Nat.add_sub_cancel, HS.out]; rfl, by first | rfl | (congr 1), by omega, by omega, by first | rfl | trivial⟩
        case measure => simp only [intOf]; omega
       | true =>
        obtain ⟨x, hx⟩ : ∃ x, x = i * d := ⟨_, rfl⟩
        obtain ⟨y, hy⟩ : ∃ y, y = x % M := ⟨_, rfl⟩
        have em := wmul i d (by omega) (by omega)
        rw [← hx] at em
        have et : Int.tmod (x : Int) (M : Int) = (y : Int) := by rw [hy]; rfl
        have hyl : y < M := by rw [hy]; exact Nat.mod_lt _ (by omega)
        rw [← hx, ← hy, Bool.true_and] at hs
        have HS := Lib.hid hs
        clear hs htv hx hy
        by_cases hy0 : y = 0
        ·subst hy0
         go_wp2
         go_roundw
         case rel => exact ⟨d + 1, by rw [Nat.add_sub_cancel, HS.out]; rfl, by first | rfl | (congr 1), by omega, by omega, by first | rfl | trivial⟩
         case measure => simp only [intOf]; omega
        ·have ey : ((y : Int) == 0) = false := by rw [beq_eq_false_iff_ne]; omega
         have ey2 : ((y : Int) != 0) = true := by rw [bne, ey]; rfl
         have ey3 : ((y : Int) = 0) = False := eq_false (by omega)
         go_wp2
         go_roundw
         case rel => exact ⟨d + 1, by rw [Nat.add_sub_cancel, HS.out, decide_eq_true hy0], by first | rfl | (congr 1), by omega, by omega, by first | rfl | trivial⟩
         case measure => simp only [intOf]; omega
      ·obtain rfl : d = 10 := by omega
       have gs := good_succ M i
       have htv' : tellsTo M i 9 = tv := htv
       rw [htv'] at gs
       have GS := Lib.hid gs
       clear htv htv' gs hd
       have cG : wr.cell? ⟨w.heap.size + 1 + 1 + 1, 0, none⟩ = some gv := by rw [blk_cell HG.out]; rfl
       cases tv with
       | false =>
        go_wp2
        go_roundw
        case rel => exact ⟨i + 1, gv, by first | rfl | (congr 1), by omega, HB.out, HG.out, by rw [GS.out]; exact HR.out⟩
        case measure => simp only [intOf]; omega
       | true =>
        have gl := good_len M i
        go_wp2_with ((with_reducible refine gate_builtin (b := .append) (xs := #[.tmp 39, .tmp 41]) rfl ?_); at_builtin; refine Kd.R_append (Kd.int .i64) (w0 := W2) W2.heap.size rfl (.tmp 39) (.tmp 41) 22 3 (.int .i64 0) 8 rfl Try.underlying22 info3_ rfl (by decide) (by omega) gv (goodL M i) (i : Int) [.int .i64 (i : Int)] (fun _ => True) (fun _ => False) rfl rfl ?aP (fun _ hk => hk.elim) ?aF ?aO ?aB ?aS ?aL ?_; (case aP => exact rfl); (case aF => exact (fun _ _ => trivial)); (case aO => exact HR.out); (case aB => exact HB.out); (case aS => exact HB.out.size); (case aL => omega); intro v1 w1 ho hb hg hat; obtain ⟨A1_, c1_, rfl⟩ := Kd.R_slice ho; have hgk := blk_grown HG.out hg (Kd.R_ne HR.out HG.out (by decide)); have cf : w1.frozen? ⟨w.heap.size + 1 + 1 + 1, 0, none⟩ = false := blk_frozen hgk 0; have cc : w1.cell? ⟨w.heap.size + 1 + 1 + 1, 0, none⟩ = some gv := (by rw [blk_cell hgk]; rfl); have HR1 := Lib.hid ho; have HB1 := Lib.hid hb; have HG1 := Lib.hid hgk; clear ho hb hg hat hgk)
        go_roundw
        case rel => exact ⟨i + 1, _, by first | rfl | (congr 1), by omega, Below.setCell HB1.out (by show W2.heap.size ≤ _; rw [HSZ.out]; exact Nat.le_succ _) _, blk_set HG1.out 0 _, by rw [GS.out, if_pos rfl]; have h5 := Kd.R_set HR1.out HG1.out (by intro q hq; rw [List.mem_singleton.1 hq]; decide) 0 (Value.slice A1_ ((goodL M i).length + 1) c1_); rw [List.length_append] at h5; exact h5⟩
        case measure => simp only [intOf]; omega
    ·obtain rfl : i = M := by omega
     have r_ : ((i : Int) < (i : Int)) = False := eq_false (by omega)
     have q3 := ne_nil
     have q4 := ne_some
     obtain ⟨Ag, cg, rfl⟩ := Kd.R_slice HR.out
     have HB6 := Lib.hid (below_then HBW.out HBW.out.size HB.out)
     have hi11 : i ≤ 11 := by have := C1.out; omega
     have CAP := Lib.hid (show CapS (wr.alloc (Obj.cells #[Value.func (Fn.func 12) #[] #[Value.pointer (some { block := w.heap.size, off := 0 }), Value.pointer (some { block := w.heap.size + 1, off := 0 }), Value.pointer (some { block := w.heap.size + 1 + 1 + 1, off := 0 }), Value.pointer (some { block := wr.heap.size, off := 0 })]] 32)) w.heap.size (w.heap.size + 1) (w.heap.size + 1 + 1 + 1) wr.heap.size a0 (i : Int) Ag cg (goodL i i) from
      ⟨blk_alloc (blk_below HP2.out HB.out) _, blk_alloc (blk_below HM2.out HB.out) _, blk_alloc HG.out _, blk_new wr _, Kd.C_below (Kd.R_reads' HR.out).2.2 (below_alloc (Below.refl _ wr) _)⟩)
     go_wp2_with (go_at_call 12; refine Hid.out (?_ : Hid _))
     refine Lib.hid ?_
     refine (find_calls k a0 (i : Int) (goodL i i) [] rr w.heap.size (.slice none 0 0) w.heap.size (w.heap.size + 1) (w.heap.size + 1 + 1 + 1) wr.heap.size cg Ag _ (by have := good_len i i; omega) (by have := C0.out; omega) (below_size (below_alloc HB6.out _)) CAP.out (Kd.R_nil _ _ _ _ _) (fun _ => rfl) HF.out).mono ?_
     rintro e w9 ⟨v0, rfl, hb9, hres⟩
     have HB9 := Lib.hid (below_step (below_alloc HB6.out _) hb9)
     clear hb9
     have hrr := HRR.out
     cases rr with
     | none =>
      obtain rfl : v0 = .slice none 0 0 := hres
      obtain ⟨rfl, rfl⟩ : [] = r1 ∧ false = r2 := ⟨congrArg Prod.fst hrr, congrArg Prod.snd hrr⟩
      clear hrr HRR
      go_wp2
      go_ret2
      exact ⟨_, rfl, Kd.R_nil _ _ _ _ _, HB9.out⟩
     | some l2 =>
      obtain ⟨hne, hR4⟩ := hres
      obtain ⟨g4, c4, rfl, _⟩ := Kd.R_form hR4 (List.length_pos_iff.2 hne)
      obtain ⟨rfl, rfl⟩ : l2 = r1 ∧ true = r2 := ⟨congrArg Prod.fst hrr, congrArg Prod.snd hrr⟩
      have HR4 := Lib.hid hR4
      clear hrr HRR hR4
      go_wp2
      go_ret2
      exact ⟨_, rfl, HR4.out, HB9.out⟩
  ·rw [if_neg (fun h => c1 h.2)] at h
   have b0 : (decide (2 ≤ a0) && decide (a0 ≤ 6)) = true := by rw [decide_eq_true c0.1, decide_eq_true c0.2]; rfl
   have b1 : (decide (2 ≤ a1) && decide (a1 ≤ 11)) = false := by rw [← Bool.not_eq_true, Bool.and_eq_true, decide_eq_true_eq, decide_eq_true_eq]; exact c1
   obtain ⟨rfl, rfl⟩ : [] = r1 ∧ false = r2 := by have := Option.some.inj h; exact ⟨congrArg Prod.fst this, congrArg Prod.snd this⟩
   clear h c0 c1
   go_enter Try.func5, Try.ntmps5
   go_wp2_with (first | (go_at_call 11; (with_reducible refine (within_calls a0 2 6 _).mono ?_); rintro e w1 ⟨rfl, rfl⟩; rw [b0]) | (go_at_call 11; (with_reducible refine (within_calls a1 2 11 _).mono ?_); rintro e w1 ⟨rfl, rfl⟩; rw [b1]))
   go_ret2
   exact ⟨_, rfl, Kd.R_nil _ _ _ _ _, below_alloc (below_alloc (Below.refl _ _) _) _⟩
 ·rw [if_neg (fun h => c0 h.1)] at h
  have b0 : (decide (2 ≤ a0) && decide (a0 ≤ 6)) = false := by rw [← Bool.not_eq_true, Bool.and_eq_true, decide_eq_true_eq, decide_eq_true_eq]; exact c0
  obtain ⟨rfl, rfl⟩ : [] = r1 ∧ false = r2 := by have := Option.some.inj h; exact ⟨congrArg Prod.fst this, congrArg Prod.snd this⟩
  clear h c0
  go_enter Try.func5, Try.ntmps5
  go_wp2_with (first | (go_at_call 11; (with_reducible refine (within_calls a0 2 6 _).mono ?_); rintro e w1 ⟨rfl, rfl⟩; rw [b0]))
  go_ret2
  exact ⟨_, rfl, Kd.R_nil _ _ _ _ _, below_alloc (below_alloc (Below.refl _ _) _) _⟩
theorem leafF_mono (k : Nat) (M : Int) (l : List Int) : LeO (leafF k M l) (leafF (k + 1) M l) := by
 intro r h
 unfold leafF at h ⊢
 obtain ⟨t, ht, h⟩ := Option.bind_eq_some_iff.1 h
 rw [impl_Check_allUntold.mono _ _ _ k t ht, Option.bind_some]
 split at h
 ·rename_i c
  rw [if_pos c]
  obtain ⟨t2, ht2, h⟩ := Option.bind_eq_some_iff.1 h
  rw [impl_Check_allUntold.mono _ _ _ k t2 ht2, Option.bind_some]
  exact h
 ·rename_i c
  rw [if_neg c]; exact h
theorem findF_mono : ∀ k, (∀ P M good l, LeO (findF k P M good l) (findF (k + 1) P M good l)) ∧ (∀ P M good l j, LeO (loopF k P M good l j) (loopF (k + 1) P M good l j))
 | 0 => by
  refine ⟨?_, ?_⟩
  ·intro P M good l r h
   cases h
  ·intro P M good l j r h
   cases h
 | k + 1 => by
  obtain ⟨ih1, ih2⟩ := findF_mono k
  refine ⟨fun P M good l r h => ?_, fun P M good l j r h => ?_⟩
  ·rw [findF] at h ⊢
   split at h
   ·rename_i c
    rw [if_pos c]
    split at h
    ·rename_i c2
     rw [if_pos c2]; exact leafF_mono k M l r h
    ·rename_i c2
     rw [if_neg c2]; exact ih2 P M good l 0 r h
   ·cases h
  ·rw [loopF] at h ⊢
   split at h
   ·rename_i c
    rw [if_pos c]
    obtain ⟨r1, h1, h⟩ := Option.bind_eq_some_iff.1 h
    rw [ih1 _ _ _ _ r1 h1, Option.bind_some]
    cases r1 with
    | some l2 => exact h
    | none => exact ih2 P M good l (j + 1) r h
   ·rename_i c
    rw [if_neg c]; exact h
theorem impl_BestWeights.mono : ∀ a0 a1 k, LeO (impl_BestWeights.f k a0 a1) (impl_BestWeights.f (k + 1) a0 a1) := by
 intro a0 a1 k r h
 unfold impl_BestWeights.f at h ⊢
 split at h
 ·rename_i c
  rw [if_pos c]
  obtain ⟨rr, h1, h2⟩ := Option.map_eq_some_iff.1 h
  rw [(findF_mono k).1 _ _ _ _ rr h1, Option.map_some, h2]
 ·rename_i c
  rw [if_neg c]; exact h
end Go.Proofs.Ytkbbmkbkpkmdkac.Ext
