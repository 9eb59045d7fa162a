/- What the functions that the law reaches do, each told as a plain Lean function, and proved. No condition beyond each theorem's own. Told by a program of this session out of the translation's own print. -/
import Derived.Test.YtkbbmkbkpkmdkacQFnExactBestWeightsx0
namespace Go.Proofs.Ytkbbmkbkpkmdkac.QFnExactBestWeights
open Go.RowKit Go.Proofs.YtkbbmkbkpkmdkacW.PrintWords Go.Proofs.YtkbbmkbkpkmdkacW.PrintLast Go.Proofs.YtkbbmkbkpkmdkacW.PrintMore Go.Proofs.Ytkbbmkbkpkmdkac.Ext
open List renaming setIfInBounds_toArray → sa_, set_cons_zero → sz_, set_cons_succ → ss_
open Go.Proofs.YtkbbmkbkpkmdkacW.PrintWords.Kd renaming R_alloc → ra_, R_drewN → rn_, R_drew → rw_
attribute [local go_sem] max2_int min2_int max_two min_two max_three min_three max_four min_four   -- for this text's walks alone
set_option linter.unusedVariables false
set_option linter.unusedSimpArgs false

/-! ### spec_slMade: function 23 -/
mutual
def spec_slMade.j0 : Nat → Int → Bool → Int → List Int → Int → Option (Bool)
 | 0, _, _, _, _, _ => none
 | k + 1, x1, x3, x9, x107000, x107001 => if 0 ≤ x107001 then (if (x107001 : Int).toNat ≤ 281474976710656 then ((some (List.replicate (x107001 : Int).toNat false : List Bool)).bind fun y111 => (if x107001 = 0 then (none) else (if 0 ≤ (Int.tmod x9 x107001) then (if (Int.tmod x9 x107001) < (y111.length : Int) then (spec_slMade.l0 k x1 x3 (y111.set ((Int.tmod x9 x107001) : Int).toNat true) x107000 (x107000.length : Int) 0 x107000 x107001) else (none)) else (none)))) else (none)) else (none)
def spec_slMade.l0 : Nat → Int → Bool → List Bool → List Int → Int → Int → List Int → Int → Option (Bool)
 | 0, _, _, _, _, _, _, _, _ => none
 | k + 1, x1, x3, x10, x49, x50, x51, x107000, x107001 => if x51 < x50 then (if 0 ≤ x51 then (if x51 < (x49.length : Int) then (if x51 = x1 then (spec_slMade.j2 k x1 x3 x10 (rd x49 x51) x49 x50 x51 true x107000 x107001) else (if x3 = true then (spec_slMade.j2 k x1 x3 x10 (rd x49 x51) x49 x50 x51 (x51 == (wrap64 (x1 + 1))) x107000 x107001) else (spec_slMade.j2 k x1 x3 x10 (rd x49 x51) x49 x50 x51 false x107000 x107001))) else (none)) else (none)) else (if 0 < (x10.length : Int) then (some (rdOf false x10 0)) else (none))
def spec_slMade.j2 : Nat → Int → Bool → List Bool → Int → List Int → Int → Int → Bool → List Int → Int → Option (Bool)
 | 0, _, _, _, _, _, _, _, _, _, _ => none
 | k + 1, x1, x3, x10, x12, x49, x50, x51, x67, x107000, x107001 => if x67 = true then (spec_slMade.l0 k x1 x3 x10 x49 x50 (wrap64 (x51 + 1)) x107000 x107001) else (if 0 ≤ x107001 then (if (x107001 : Int).toNat ≤ 281474976710656 then (spec_slMade.l1 k x1 x3 x12 (List.replicate (x107001 : Int).toNat false) x49 x50 x51 x10 (x10.length : Int) 0 x107000 x107001) else (none)) else (none))
def spec_slMade.l1 : Nat → Int → Bool → Int → List Bool → List Int → Int → Int → List Bool → Int → Int → List Int → Int → Option (Bool)
 | 0, _, _, _, _, _, _, _, _, _, _, _, _ => none
 | k + 1, x1, x3, x12, x13, x49, x50, x51, x71, x72, x73, x107000, x107001 => if x73 < x72 then (if 0 ≤ x73 then (if x73 < (x71.length : Int) then (spec_slMade.l2 k x1 x3 x12 x13 x73 (rdOf false x71 x73) 0 x49 x50 x51 x71 x72 x73 x107000 x107001) else (none)) else (none)) else (spec_slMade.l0 k x1 x3 x13 x49 x50 (wrap64 (x51 + 1)) x107000 x107001)
def spec_slMade.l2 : Nat → Int → Bool → Int → List Bool → Int → Bool → Int → List Int → Int → Int → List Bool → Int → Int → List Int → Int → Option (Bool)
 | 0, _, _, _, _, _, _, _, _, _, _, _, _, _, _, _ => none
 | k + 1, x1, x3, x12, x13, x14, x15, x16, x49, x50, x51, x71, x72, x73, x107000, x107001 => if x16 < 10 then (if x15 = true then (if x107001 = 0 then (none) else (if 0 ≤ (Int.tmod (wrap64 (x14 + (wrap64 (x12 * x16)))) x107001) then (if (Int.tmod (wrap64 (x14 + (wrap64 (x12 * x16)))) x107001) < (x13.length : Int) then (spec_slMade.l2 k x1 x3 x12 (x13.set ((Int.tmod (wrap64 (x14 + (wrap64 (x12 * x16)))) x107001) : Int).toNat true) x14 x15 (wrap64 (x16 + 1)) x49 x50 x51 x71 x72 x73 x107000 x107001) else (none)) else (none))) else (spec_slMade.l1 k x1 x3 x12 x13 x49 x50 x51 x71 x72 (wrap64 (x73 + 1)) x107000 x107001)) else (spec_slMade.l1 k x1 x3 x12 x13 x49 x50 x51 x71 x72 (wrap64 (x73 + 1)) x107000 x107001)
end
def spec_slMade.f (k : Nat) (l0_0 : List Int) (a0_1 : Int) (a1 : Int) (l2 : List Int) (a3 : Bool) : Option (Bool) := if 0 ≤ a1 then (if a1 < (l0_0.length : Int) then (if 0 < (l2.length : Int) then (if a3 = true then (if 0 ≤ (wrap64 (a1 + 1)) then (if (wrap64 (a1 + 1)) < (l0_0.length : Int) then (if 1 < (l2.length : Int) then (spec_slMade.j0 k a1 a3 (wrap64 ((wrap64 ((rd l0_0 a1) * (rd l2 0))) + (wrap64 ((rd l0_0 (wrap64 (a1 + 1))) * (rd l2 1))))) l0_0 a0_1) else (none)) else (none)) else (none)) else (spec_slMade.j0 k a1 a3 (wrap64 ((rd l0_0 a1) * (rd l2 0))) l0_0 a0_1)) else (none)) else (none)) else (none)
theorem spec_slMade.mono_l : ∀ k, (∀ y0 y1 y2 y3 y4, LeO (spec_slMade.j0 k y0 y1 y2 y3 y4) (spec_slMade.j0 (k + 1) y0 y1 y2 y3 y4)) ∧ (∀ y0 y1 y2 y3 y4 y5 y6 y7, LeO (spec_slMade.l0 k y0 y1 y2 y3 y4 y5 y6 y7) (spec_slMade.l0 (k + 1) y0 y1 y2 y3 y4 y5 y6 y7)) ∧ (∀ y0 y1 y2 y3 y4 y5 y6 y7 y8 y9, LeO (spec_slMade.j2 k y0 y1 y2 y3 y4 y5 y6 y7 y8 y9) (spec_slMade.j2 (k + 1) y0 y1 y2 y3 y4 y5 y6 y7 y8 y9)) ∧ (∀ y0 y1 y2 y3 y4 y5 y6 y7 y8 y9 y10 y11, LeO (spec_slMade.l1 k y0 y1 y2 y3 y4 y5 y6 y7 y8 y9 y10 y11) (spec_slMade.l1 (k + 1) y0 y1 y2 y3 y4 y5 y6 y7 y8 y9 y10 y11)) ∧ (∀ y0 y1 y2 y3 y4 y5 y6 y7 y8 y9 y10 y11 y12 y13 y14, LeO (spec_slMade.l2 k y0 y1 y2 y3 y4 y5 y6 y7 y8 y9 y10 y11 y12 y13 y14) (spec_slMade.l2 (k + 1) y0 y1 y2 y3 y4 y5 y6 y7 y8 y9 y10 y11 y12 y13 y14))
 | 0 => ⟨fun _ _ _ _ _ r h => by simp [spec_slMade.j0] at h, fun _ _ _ _ _ _ _ _ r h => by simp [spec_slMade.l0] at h, fun _ _ _ _ _ _ _ _ _ _ r h => by simp [spec_slMade.j2] at h, fun _ _ _ _ _ _ _ _ _ _ _ _ r h => by simp [spec_slMade.l1] at h, fun _ _ _ _ _ _ _ _ _ _ _ _ _ _ _ r h => by simp [spec_slMade.l2] at h⟩
 | k + 1 => by
  obtain ⟨ih0, ih1, ih2, ih3, ih4⟩ := spec_slMade.mono_l k
  refine ⟨?_, ?_, ?_, ?_, ?_⟩
  ·intro y0 y1 y2 y3 y4
   unfold spec_slMade.j0
   repeat' first
   | (with_reducible exact ih0 _ _ _ _ _)
   | (with_reducible exact ih1 _ _ _ _ _ _ _ _)
   | (with_reducible exact ih2 _ _ _ _ _ _ _ _ _ _)
   | (with_reducible exact ih3 _ _ _ _ _ _ _ _ _ _ _ _)
   | (with_reducible exact ih4 _ _ _ _ _ _ _ _ _ _ _ _ _ _ _)
   | (with_reducible exact LeO.refl _)
   | (with_reducible exact LeO.none _)
   | (with_reducible refine LeO.ite ?_ ?_)
   | (with_reducible refine LeO.bind ?_ (fun _ => ?_))
   | exact ih0 _ _ _ _ _
   | exact ih1 _ _ _ _ _ _ _ _
   | exact ih2 _ _ _ _ _ _ _ _ _ _
   | exact ih3 _ _ _ _ _ _ _ _ _ _ _ _
   | exact ih4 _ _ _ _ _ _ _ _ _ _ _ _ _ _ _
   | exact LeO.none _
   | refine LeO.ite ?_ ?_
   | refine LeO.bind ?_ (fun _ => ?_)
  ·intro y0 y1 y2 y3 y4 y5 y6 y7
   unfold spec_slMade.l0
   repeat' first
   | (with_reducible exact ih0 _ _ _ _ _)
   | (with_reducible exact ih1 _ _ _ _ _ _ _ _)
   | (with_reducible exact ih2 _ _ _ _ _ _ _ _ _ _)
   | (with_reducible exact ih3 _ _ _ _ _ _ _ _ _ _ _ _)
   | (with_reducible exact ih4 _ _ _ _ _ _ _ _ _ _ _ _ _ _ _)
   | (with_reducible exact LeO.refl _)
   | (with_reducible exact LeO.none _)
   | (with_reducible refine LeO.ite ?_ ?_)
   | (with_reducible refine LeO.bind ?_ (fun _ => ?_))
   | exact ih0 _ _ _ _ _
   | exact ih1 _ _ _ _ _ _ _ _
   | exact ih2 _ _ _ _ _ _ _ _ _ _
   | exact ih3 _ _ _ _ _ _ _ _ _ _ _ _
   | exact ih4 _ _ _ _ _ _ _ _ _ _ _ _ _ _ _
   | exact LeO.none _
   | refine LeO.ite ?_ ?_
   | refine LeO.bind ?_ (fun _ => ?_)
  ·intro y0 y1 y2 y3 y4 y5 y6 y7 y8 y9
   unfold spec_slMade.j2
   repeat' first
   | (with_reducible exact ih0 _ _ _ _ _)
   | (with_reducible exact ih1 _ _ _ _ _ _ _ _)
   | (with_reducible exact ih2 _ _ _ _ _ _ _ _ _ _)
   | (with_reducible exact ih3 _ _ _ _ _ _ _ _ _ _ _ _)
   | (with_reducible exact ih4 _ _ _ _ _ _ _ _ _ _ _ _ _ _ _)
   | (with_reducible exact LeO.refl _)
   | (with_reducible exact LeO.none _)
   | (with_reducible refine LeO.ite ?_ ?_)
   | (with_reducible refine LeO.bind ?_ (fun _ => ?_))
   | exact ih0 _ _ _ _ _
   | exact ih1 _ _ _ _ _ _ _ _
   | exact ih2 _ _ _ _ _ _ _ _ _ _
   | exact ih3 _ _ _ _ _ _ _ _ _ _ _ _
   | exact ih4 _ _ _ _ _ _ _ _ _ _ _ _ _ _ _
   | exact LeO.none _
   | refine LeO.ite ?_ ?_
   | refine LeO.bind ?_ (fun _ => ?_)
  ·intro y0 y1 y2 y3 y4 y5 y6 y7 y8 y9 y10 y11
   unfold spec_slMade.l1
   repeat' first
   | (with_reducible exact ih0 _ _ _ _ _)
   | (with_reducible exact ih1 _ _ _ _ _ _ _ _)
   | (with_reducible exact ih2 _ _ _ _ _ _ _ _ _ _)
   | (with_reducible exact ih3 _ _ _ _ _ _ _ _ _ _ _ _)
   | (with_reducible exact ih4 _ _ _ _ _ _ _ _ _ _ _ _ _ _ _)
   | (with_reducible exact LeO.refl _)
   | (with_reducible exact LeO.none _)
   | (with_reducible refine LeO.ite ?_ ?_)
   | (with_reducible refine LeO.bind ?_ (fun _ => ?_))
   | exact ih0 _ _ _ _ _
   | exact ih1 _ _ _ _ _ _ _ _
   | exact ih2 _ _ _ _ _ _ _ _ _ _
   | exact ih3 _ _ _ _ _ _ _ _ _ _ _ _
   | exact ih4 _ _ _ _ _ _ _ _ _ _ _ _ _ _ _
   | exact LeO.none _
   | refine LeO.ite ?_ ?_
   | refine LeO.bind ?_ (fun _ => ?_)
  ·intro y0 y1 y2 y3 y4 y5 y6 y7 y8 y9 y10 y11 y12 y13 y14
   unfold spec_slMade.l2
   repeat' first
   | (with_reducible exact ih0 _ _ _ _ _)
   | (with_reducible exact ih1 _ _ _ _ _ _ _ _)
   | (with_reducible exact ih2 _ _ _ _ _ _ _ _ _ _)
   | (with_reducible exact ih3 _ _ _ _ _ _ _ _ _ _ _ _)
   | (with_reducible exact ih4 _ _ _ _ _ _ _ _ _ _ _ _ _ _ _)
   | (with_reducible exact LeO.refl _)
   | (with_reducible exact LeO.none _)
   | (with_reducible refine LeO.ite ?_ ?_)
   | (with_reducible refine LeO.bind ?_ (fun _ => ?_))
   | exact ih0 _ _ _ _ _
   | exact ih1 _ _ _ _ _ _ _ _
   | exact ih2 _ _ _ _ _ _ _ _ _ _
   | exact ih3 _ _ _ _ _ _ _ _ _ _ _ _
   | exact ih4 _ _ _ _ _ _ _ _ _ _ _ _ _ _ _
   | exact LeO.none _
   | refine LeO.ite ?_ ?_
   | refine LeO.bind ?_ (fun _ => ?_)
theorem spec_slMade.mono : ∀ a0 a1 a2 a3 a4 k, LeO (spec_slMade.f k a0 a1 a2 a3 a4) (spec_slMade.f (k + 1) a0 a1 a2 a3 a4) := by
 intro a0 a1 a2 a3 a4 k
 obtain ⟨ih0, ih1, ih2, ih3, ih4⟩ := spec_slMade.mono_l k
 unfold spec_slMade.f
 repeat' first
   | (with_reducible exact ih0 _ _ _ _ _)
   | (with_reducible exact ih1 _ _ _ _ _ _ _ _)
   | (with_reducible exact ih2 _ _ _ _ _ _ _ _ _ _)
   | (with_reducible exact ih3 _ _ _ _ _ _ _ _ _ _ _ _)
   | (with_reducible exact ih4 _ _ _ _ _ _ _ _ _ _ _ _ _ _ _)
   | (with_reducible exact LeO.refl _)
   | (with_reducible exact LeO.none _)
   | (with_reducible refine LeO.ite ?_ ?_)
   | (with_reducible refine LeO.bind ?_ (fun _ => ?_))
   | exact ih0 _ _ _ _ _
   | exact ih1 _ _ _ _ _ _ _ _
   | exact ih2 _ _ _ _ _ _ _ _ _ _
   | exact ih3 _ _ _ _ _ _ _ _ _ _ _ _
   | exact ih4 _ _ _ _ _ _ _ _ _ _ _ _ _ _ _
   | exact LeO.none _
   | refine LeO.ite ?_ ?_
   | refine LeO.bind ?_ (fun _ => ?_)
set_option maxHeartbeats 8000000 in
set_option maxRecDepth 100000 in
theorem spec_slMade.calls (k : Nat) (A0_0 : Option Addr) (c0_0 : Nat) (l0_0 : List Int) (a0_1 : Int) (a1 : Int) (A2 : Option Addr) (c2 : Nat) (l2 : List Int) (a3 : Bool) (r : Bool) (w : World) (hr0_0 : Kd.C (Kd.int .i64) w A0_0 l0_0.length l0_0) (hc0_0 : l0_0.length ≤ c0_0) (hr2 : Kd.C (Kd.int .i64) w A2 l2.length l2) (hc2 : l2.length ≤ c2) (h : spec_slMade.f k l0_0 a0_1 a1 l2 a3 = some r) :
  Calls Try.prog 23 #[.agg #[.slice A0_0 l0_0.length c0_0, .int .i64 a0_1], .int .i64 a1, .slice A2 l2.length c2, .bool a3] w fun e w' => e = .returned (.bool r) ∧ Below w.heap.size w w' := by
 have hu31 := Try.underlying31
 have HR0_0 := Aside0.mk hr0_0
 have HC0_0 := Aside0.mk hc0_0
 clear hr0_0 hc0_0
 have HR2 := Aside0.mk hr2
 have HC2 := Aside0.mk hc2
 clear hr2 hc2
 have HB := Aside0.mk (Below.refl w.heap.size w)
 have H : (if 0 ≤ a1 then (if a1 < (l0_0.length : Int) then (if 0 < (l2.length : Int) then (if a3 = true then (if 0 ≤ (wrap64 (a1 + 1)) then (if (wrap64 (a1 + 1)) < (l0_0.length : Int) then (if 1 < (l2.length : Int) then (spec_slMade.j0 k a1 a3 (wrap64 ((wrap64 ((rd l0_0 a1) * (rd l2 0))) + (wrap64 ((rd l0_0 (wrap64 (a1 + 1))) * (rd l2 1))))) l0_0 a0_1) else (none)) else (none)) else (none)) else (spec_slMade.j0 k a1 a3 (wrap64 ((rd l0_0 a1) * (rd l2 0))) l0_0 a0_1)) else (none)) else (none)) else (none)) = some r := h
 clear h
 by_cases c5 : 0 ≤ a1
 ·rw [if_pos c5] at H
  have c5b0 : decide (0 ≤ a1) = true := decide_eq_true c5
  clear c5
  by_cases c6 : a1 < (l0_0.length : Int)
  ·rw [if_pos c6] at H
   have c6b0 : decide (a1 < (l0_0.length : Int)) = true := decide_eq_true c6
   clear c6
   by_cases c7 : 0 < (l2.length : Int)
   ·rw [if_pos c7] at H
    have c7b0 : decide (0 < (l2.length : Int)) = true := decide_eq_true c7
    have c7b1 : decide (0 < l2.length) = true := decide_eq_true (by omega)
    clear c7
    have HC8 := Aside0.mk H
    clear H
    go_enter Try.func23, Try.ntmps23
    go_upto_if 26 with (first | ((with_reducible refine gate_dst (N := 4) rfl ?_); refine box_event ?hg (N := 4) ?hd (cs := #[.slice A0_0 l0_0.length c0_0, .int .i64 a0_1]) (t := 31) ?hr ?_; (case hd => rfl); (case hg => rfl); (case hr => first | (go_simp; done) | (go_simp; rfl)); intro gb106 hg w9 hbox hb; have n0_ := Aside0.mk (below_step (by repeat (first | (with_reducible first | exact HB.out | apply below_alloc | apply pw_below_drewN | apply below_drew1) | exact HB.out)) hb); have n1_ := Aside0.mk (hbox); have n2_ := Aside0.mk ((by rw [hg]; exact (below_size (by repeat (first | (with_reducible first | exact HB.out | apply below_alloc | apply pw_below_drewN | apply below_drew1) | exact HB.out))) : w.heap.size ≤ gb106)); have n3_ := Aside0.mk ((by rw [hg]; exact (below_size (by repeat (first | (with_reducible first | exact HB.out | apply below_alloc | apply pw_below_drewN | apply below_drew1) | exact HB.out))) : w.heap.size ≤ gb106)); clear HB; have HB := n0_; have BK106 := n1_; have GW106 := n2_; have GE106 := n3_; clear n0_ n1_ n2_ n3_; clear hb hbox hg; have hcz10_0 : w9.cell? ⟨gb106, 0, none⟩ = some (.slice A0_0 l0_0.length c0_0) := (blk_cell BK106.out 0).trans rfl; have hcz10_1 : w9.cell? ⟨gb106, 1, none⟩ = some (.int .i64 a0_1) := (blk_cell BK106.out 1).trans rfl; have hfz10_0 := blk_frozen BK106.out 0; have hfz10_1 := blk_frozen BK106.out 1; have p107 : 0 ≤ (a1 : Int) := of_decide_eq_true (by first | (with_reducible assumption) | assumption); have q107 : a1 < (l0_0.length : Int) := of_decide_eq_true (by first | (with_reducible assumption) | assumption); obtain ⟨ad107, e107, hx107_0⟩ := Kd.at_int HR0_0.out a1 p107 q107; cases e107; replace hx107_0 := (HB.out.cell (World.block_lt_of_cell? w _ hx107_0)).trans hx107_0; replace p107 := eq_true p107; replace q107 := eq_true q107; have p108 : 0 ≤ (0 : Int) := (by omega); have q108 : 0 < (l2.length : Int) := of_decide_eq_true (by first | (with_reducible assumption) | assumption); obtain ⟨ad108, e108, hx108_0⟩ := Kd.at_int HR2.out 0 p108 q108; cases e108; have qi108 : (0 < l2.length) = True := eq_true (by omega); (try rw [show ((0 : Int)).toNat = 0 from rfl] at hx108_0); (try rw [Addr.add_zero'] at hx108_0); replace hx108_0 := (HB.out.cell (World.block_lt_of_cell? w _ hx108_0)).trans hx108_0; replace p108 := eq_true p108; replace q108 := eq_true q108))
    repeat (go_quiet (first | ((with_reducible refine gate_dst (N := 4) rfl ?_); refine box_event ?hg (N := 4) ?hd (cs := #[.slice A0_0 l0_0.length c0_0, .int .i64 a0_1]) (t := 31) ?hr ?_; (case hd => rfl); (case hg => rfl); (case hr => first | (go_simp; done) | (go_simp; rfl)); intro gb106 hg w9 hbox hb; have n0_ := Aside0.mk (below_step (by repeat (first | (with_reducible first | exact HB.out | apply below_alloc | apply pw_below_drewN | apply below_drew1) | exact HB.out)) hb); have n1_ := Aside0.mk (hbox); have n2_ := Aside0.mk ((by rw [hg]; exact (below_size (by repeat (first | (with_reducible first | exact HB.out | apply below_alloc | apply pw_below_drewN | apply below_drew1) | exact HB.out))) : w.heap.size ≤ gb106)); have n3_ := Aside0.mk ((by rw [hg]; exact (below_size (by repeat (first | (with_reducible first | exact HB.out | apply below_alloc | apply pw_below_drewN | apply below_drew1) | exact HB.out))) : w.heap.size ≤ gb106)); clear HB; have HB := n0_; have BK106 := n1_; have GW106 := n2_; have GE106 := n3_; clear n0_ n1_ n2_ n3_; clear hb hbox hg; have hcz10_0 : w9.cell? ⟨gb106, 0, none⟩ = some (.slice A0_0 l0_0.length c0_0) := (blk_cell BK106.out 0).trans rfl; have hcz10_1 : w9.cell? ⟨gb106, 1, none⟩ = some (.int .i64 a0_1) := (blk_cell BK106.out 1).trans rfl; have hfz10_0 := blk_frozen BK106.out 0; have hfz10_1 := blk_frozen BK106.out 1; have p107 : 0 ≤ (a1 : Int) := of_decide_eq_true (by first | (with_reducible assumption) | assumption); have q107 : a1 < (l0_0.length : Int) := of_decide_eq_true (by first | (with_reducible assumption) | assumption); obtain ⟨ad107, e107, hx107_0⟩ := Kd.at_int HR0_0.out a1 p107 q107; cases e107; replace hx107_0 := (HB.out.cell (World.block_lt_of_cell? w _ hx107_0)).trans hx107_0; replace p107 := eq_true p107; replace q107 := eq_true q107; have p108 : 0 ≤ (0 : Int) := (by omega); have q108 : 0 < (l2.length : Int) := of_decide_eq_true (by first | (with_reducible assumption) | assumption); obtain ⟨ad108, e108, hx108_0⟩ := Kd.at_int HR2.out 0 p108 q108; cases e108; have qi108 : (0 < l2.length) = True := eq_true (by omega); (try rw [show ((0 : Int)).toNat = 0 from rfl] at hx108_0); (try rw [Addr.add_zero'] at hx108_0); replace hx108_0 := (HB.out.cell (World.block_lt_of_cell? w _ hx108_0)).trans hx108_0; replace p108 := eq_true p108; replace q108 := eq_true q108)); go_upto_if 26 with (first | ((with_reducible refine gate_dst (N := 4) rfl ?_); refine box_event ?hg (N := 4) ?hd (cs := #[.slice A0_0 l0_0.length c0_0, .int .i64 a0_1]) (t := 31) ?hr ?_; (case hd => rfl); (case hg => rfl); (case hr => first | (go_simp; done) | (go_simp; rfl)); intro gb106 hg w9 hbox hb; have n0_ := Aside0.mk (below_step (by repeat (first | (with_reducible first | exact HB.out | apply below_alloc | apply pw_below_drewN | apply below_drew1) | exact HB.out)) hb); have n1_ := Aside0.mk (hbox); have n2_ := Aside0.mk ((by rw [hg]; exact (below_size (by repeat (first | (with_reducible first | exact HB.out | apply below_alloc | apply pw_below_drewN | apply below_drew1) | exact HB.out))) : w.heap.size ≤ gb106)); have n3_ := Aside0.mk ((by rw [hg]; exact (below_size (by repeat (first | (with_reducible first | exact HB.out | apply below_alloc | apply pw_below_drewN | apply below_drew1) | exact HB.out))) : w.heap.size ≤ gb106)); clear HB; have HB := n0_; have BK106 := n1_; have GW106 := n2_; have GE106 := n3_; clear n0_ n1_ n2_ n3_; clear hb hbox hg; have hcz10_0 : w9.cell? ⟨gb106, 0, none⟩ = some (.slice A0_0 l0_0.length c0_0) := (blk_cell BK106.out 0).trans rfl; have hcz10_1 : w9.cell? ⟨gb106, 1, none⟩ = some (.int .i64 a0_1) := (blk_cell BK106.out 1).trans rfl; have hfz10_0 := blk_frozen BK106.out 0; have hfz10_1 := blk_frozen BK106.out 1; have p107 : 0 ≤ (a1 : Int) := of_decide_eq_true (by first | (with_reducible assumption) | assumption); have q107 : a1 < (l0_0.length : Int) := of_decide_eq_true (by first | (with_reducible assumption) | assumption); obtain ⟨ad107, e107, hx107_0⟩ := Kd.at_int HR0_0.out a1 p107 q107; cases e107; replace hx107_0 := (HB.out.cell (World.block_lt_of_cell? w _ hx107_0)).trans hx107_0; replace p107 := eq_true p107; replace q107 := eq_true q107; have p108 : 0 ≤ (0 : Int) := (by omega); have q108 : 0 < (l2.length : Int) := of_decide_eq_true (by first | (with_reducible assumption) | assumption); obtain ⟨ad108, e108, hx108_0⟩ := Kd.at_int HR2.out 0 p108 q108; cases e108; have qi108 : (0 < l2.length) = True := eq_true (by omega); (try rw [show ((0 : Int)).toNat = 0 from rfl] at hx108_0); (try rw [Addr.add_zero'] at hx108_0); replace hx108_0 := (HB.out.cell (World.block_lt_of_cell? w _ hx108_0)).trans hx108_0; replace p108 := eq_true p108; replace q108 := eq_true q108)))
    (try simp only [Act.put, sa_, sz_, ss_])
    go_cut [9] (fun v9 wc => ∃ (kq : Nat) (x9_7 : Int), v9 = .int .i64 x9_7 ∧ Aside0 (spec_slMade.j0 kq a1 a3 x9_7 l0_0 a0_1 = some r) ∧ Aside0 (kq ≤ k) ∧ Aside0 (wc.heap[gb106]? = some (.cells #[(.slice (some ad107) l0_0.length c0_0), .int .i64 a0_1] 31 (0, 0))) ∧ Aside0 (Below w.heap.size w wc))
    case first =>
     have H := HC8.out
     clear HC8
     by_cases c11 : a3 = true
     ·subst c11
      have H1 : (if 0 ≤ (wrap64 (a1 + 1)) then (if (wrap64 (a1 + 1)) < (l0_0.length : Int) then (if 1 < (l2.length : Int) then (spec_slMade.j0 k a1 true (wrap64 ((wrap64 ((rd l0_0 a1) * (rd l2 0))) + (wrap64 ((rd l0_0 (wrap64 (a1 + 1))) * (rd l2 1))))) l0_0 a0_1) else (none)) else (none)) else (none)) = some r := by rw [if_pos rfl] at H; exact H
      clear H
      have H := H1
      clear H1
      obtain ⟨ji12, hji12⟩ : ∃ j_ : Int, (wrap64 (a1 + 1)) = j_ := ⟨_, rfl⟩
      replace H : (if 0 ≤ (ji12) then (if (ji12) < (l0_0.length : Int) then (if 1 < (l2.length : Int) then (spec_slMade.j0 k a1 true (wrap64 ((wrap64 ((rd l0_0 a1) * (rd l2 0))) + (wrap64 ((rd l0_0 (ji12)) * (rd l2 1))))) l0_0 a0_1) else (none)) else (none)) else (none)) = some r := by first | (rw [hji12] at H; exact H) | (simp only [hji12] at H ⊢; exact H)
      have hji12w : (IntKind.i64.wrap (a1 + 1)) = ji12 := (i64_w _).trans hji12
      by_cases c13 : 0 ≤ (ji12)
      ·rw [if_pos c13] at H
       have c13b0 : decide (0 ≤ (ji12)) = true := decide_eq_true c13
       clear c13
       (first | rw [c13b0] | (simp only [i64_w, i32_w]; rw [c13b0]) | skip)
       by_cases c14 : (ji12) < (l0_0.length : Int)
       ·rw [if_pos c14] at H
        have c14b0 : decide ((ji12) < (l0_0.length : Int)) = true := decide_eq_true c14
        clear c14
        by_cases c15 : 1 < (l2.length : Int)
        ·rw [if_pos c15] at H
         have c15b0 : decide (1 < (l2.length : Int)) = true := decide_eq_true c15
         have c15b1 : decide (1 < l2.length) = true := decide_eq_true (by omega)
         clear c15
         have H' := Aside0.mk H
         clear H
         have hcz16_0 : w9.cell? ⟨gb106, 0, none⟩ = some (.slice (some ad107) l0_0.length c0_0) := (blk_cell BK106.out 0).trans rfl
         have hcz16_1 : w9.cell? ⟨gb106, 1, none⟩ = some (.int .i64 a0_1) := (blk_cell BK106.out 1).trans rfl
         have hfz16_0 := blk_frozen BK106.out 0
         have hfz16_1 := blk_frozen BK106.out 1
         have p109 : 0 ≤ ((ji12) : Int) := of_decide_eq_true (by first | (with_reducible assumption) | assumption)
         have q109 : (ji12) < (l0_0.length : Int) := of_decide_eq_true (by first | (with_reducible assumption) | assumption)
         obtain ⟨ad109, e109, hx109_0⟩ := Kd.at_int HR0_0.out (ji12) p109 q109
         obtain rfl : ad107 = ad109 := (by injection e109)
         replace hx109_0 := (HB.out.cell (World.block_lt_of_cell? w _ hx109_0)).trans hx109_0
         replace p109 := eq_true p109
         replace q109 := eq_true q109
         have p110 : 0 ≤ (1 : Int) := (by omega)
         have q110 : 1 < (l2.length : Int) := of_decide_eq_true (by first | (with_reducible assumption) | assumption)
         obtain ⟨ad110, e110, hx110_0⟩ := Kd.at_int HR2.out 1 p110 q110
         obtain rfl : ad108 = ad110 := (by injection e110)
         (try simp only [show (1 : Int).toNat = 1 from rfl, Nat.reduceMul, Nat.reduceEqDiff, Go.Addr.add, ↓reduceIte] at hx110_0)
         have qi110 : (1 < l2.length) = True := eq_true (by omega)
         (try rw [show ((1 : Int)).toNat = 1 from rfl] at hx110_0)
         replace hx110_0 := (HB.out.cell (World.block_lt_of_cell? w _ hx110_0)).trans hx110_0
         replace p110 := eq_true p110
         replace q110 := eq_true q110
         go_wp2
         repeat (go_quiet (fail); try go_wp2)
         go_meet
         case rel => exact ⟨_, (wrap64 ((wrap64 ((rd l0_0 a1) * (rd l2 0))) + (wrap64 ((rd l0_0 (ji12)) * (rd l2 1))))), (by first | rfl | (simp; done) | (simp only [← hji12] <;> (first | rfl | simp)) | (simp [*]; done)), H', ⟨by first | omega | exact Nat.le_refl _⟩, ⟨by (with_reducible repeat (first | refine blk_drewN ?_ _ | refine blk_drew ?_ | refine blk_alloc ?_ _)); exact BK106.out⟩, ⟨by repeat (first | (with_reducible first | exact HB.out | apply below_alloc | apply pw_below_drewN | apply below_drew1 | refine below_set ?_ GE106.out) | exact HB.out)⟩⟩
        ·rw [if_neg c15] at H
         exact absurd H (by simp)
       ·rw [if_neg c14] at H
        exact absurd H (by simp)
      ·rw [if_neg c13] at H
       exact absurd H (by simp)
     ·replace c11 := Bool.eq_false_iff.mpr c11
      subst c11
      have H1 : (spec_slMade.j0 k a1 false (wrap64 ((rd l0_0 a1) * (rd l2 0))) l0_0 a0_1) = some r := by rw [if_neg (show ¬ (false = true) by decide)] at H; exact H
      clear H
      have H := H1
      clear H1
      have H' := Aside0.mk H
      clear H
      go_wp2
      repeat (go_quiet (fail); try go_wp2)
      go_meet
      case rel => exact ⟨_, (wrap64 ((rd l0_0 a1) * (rd l2 0))), (by first | rfl | (simp; done) | (simp [*]; done)), H', ⟨by first | omega | exact Nat.le_refl _⟩, ⟨by (with_reducible repeat (first | refine blk_drewN ?_ _ | refine blk_drew ?_ | refine blk_alloc ?_ _)); exact BK106.out⟩, ⟨by repeat (first | (with_reducible first | exact HB.out | apply below_alloc | apply pw_below_drewN | apply below_drew1 | refine below_set ?_ GE106.out) | exact HB.out)⟩⟩
    case rest =>
     clear HC8
     try clear c1
     try clear p1
     try clear q1
     try clear hx1
     try clear qi1
     try clear c2
     try clear p2
     try clear c5
     try clear c5b0
     try clear c6
     try clear c6b0
     try clear p6
     try clear c7
     try clear c7b0
     try clear c7b1
     try clear p10
     try clear q10
     try clear hx10
     try clear qi10
     try clear c11
     try clear p11
     try clear q11
     try clear hx11
     try clear qi11
     try clear c13
     try clear c13b0
     try clear c14
     try clear c14b0
     try clear c15
     try clear c15b0
     try clear c15b1
     try clear hcz10_0
     try clear hcz10_1
     try clear hcz16_0
     try clear hcz16_1
     try clear hfz10_0
     try clear hfz10_1
     try clear hfz16_0
     try clear hfz16_1
     try clear hx107_0
     try clear hx108_0
     try clear hx109_0
     try clear hx110_0
     try clear p107
     try clear p108
     try clear p109
     try clear p110
     try clear q107
     try clear q108
     try clear q109
     try clear q110
     obtain ⟨kq, x9_7, rfl, HA, HJ7, BK106, HB⟩ := hcut
     cases kq with
     | zero => exact absurd HA.out (by simp [spec_slMade.j0])
     | succ kj7 =>
      have H := HA.out
      clear HA
      simp only [spec_slMade.j0] at H
      by_cases c17 : 0 ≤ a0_1
      ·rw [if_pos c17] at H
       have c17b0 := eq_true c17
       have c17b1 : decide (0 ≤ a0_1) = true := decide_eq_true c17
       clear c17
       by_cases c18 : (a0_1 : Int).toNat ≤ 281474976710656
       ·rw [if_pos c18] at H
        have c18b0 := eq_true c18
        have c18b1 : decide ((a0_1 : Int).toNat ≤ 281474976710656) = true := decide_eq_true c18
        clear c18
        obtain ⟨y111, hy111⟩ : ∃ y_ : List Bool, y_ = (List.replicate (a0_1 : Int).toNat false) := ⟨_, rfl⟩
        replace H : (if a0_1 = 0 then (none) else (if 0 ≤ (Int.tmod x9_7 a0_1) then (if (Int.tmod x9_7 a0_1) < (y111.length : Int) then (spec_slMade.l0 kj7 a1 a3 (y111.set ((Int.tmod x9_7 a0_1) : Int).toNat true) l0_0 (l0_0.length : Int) 0 l0_0 a0_1) else (none)) else (none))) = some r := by first | (rw [hy111]; with_reducible exact H) | (have H2_ := (Option.bind_some _ _).symm.trans H; rw [hy111]; with_reducible exact H2_) | (have H2_ := (Option.bind_some _ _).symm.trans H; with_reducible exact H2_) | with_reducible exact H | (rw [hy111]; exact H) | exact H
        have Ny111 := Aside0.mk hy111
        clear hy111
        by_cases c19 : a0_1 = 0
        ·rw [if_pos c19] at H
         exact absurd H (by simp)
        ·rw [if_neg c19] at H
         have c19b0 : (a0_1 == 0) = false := beq_eq_false_iff_ne.mpr c19
         have c19b1 : (a0_1 != 0) = true := bne_iff_ne.mpr c19
         obtain ⟨ji20, hji20⟩ : ∃ j_ : Int, (Int.tmod x9_7 a0_1) = j_ := ⟨_, rfl⟩
         replace H : (if 0 ≤ (ji20) then (if (ji20) < (y111.length : Int) then (spec_slMade.l0 kj7 a1 a3 (y111.set ((ji20) : Int).toNat true) l0_0 (l0_0.length : Int) 0 l0_0 a0_1) else (none)) else (none)) = some r := by first | (rw [hji20] at H; exact H) | (simp only [hji20] at H ⊢; exact H)
         by_cases c21 : 0 ≤ (ji20)
         ·rw [if_pos c21] at H
          have c21b0 : decide (0 ≤ (ji20)) = true := decide_eq_true c21
          clear c21
          by_cases c22 : (ji20) < (y111.length : Int)
          ·rw [if_pos c22] at H
           have c22b0 : decide ((ji20) < (y111.length : Int)) = true := decide_eq_true c22
           clear c22
           obtain ⟨y114, hy114⟩ : ∃ y_ : List Bool, y_ = (y111.set ((ji20) : Int).toNat true) := ⟨_, rfl⟩
           replace H : (spec_slMade.l0 kj7 a1 a3 y114 l0_0 (l0_0.length : Int) 0 l0_0 a0_1) = some r := by first | (rw [hy114]; with_reducible exact H) | (have H2_ := (Option.bind_some _ _).symm.trans H; rw [hy114]; with_reducible exact H2_) | (have H2_ := (Option.bind_some _ _).symm.trans H; with_reducible exact H2_) | with_reducible exact H | (rw [hy114]; exact H) | exact H
           have Ny114 := Aside0.mk hy114
           clear hy114
           have H' := Aside0.mk H
           clear H
           have hcz24_0 : wc.cell? ⟨gb106, 0, none⟩ = some (.slice (some ad107) l0_0.length c0_0) := (blk_cell BK106.out 0).trans rfl
           have hcz24_1 : wc.cell? ⟨gb106, 1, none⟩ = some (.int .i64 a0_1) := (blk_cell BK106.out 1).trans rfl
           have hfz24_0 := blk_frozen BK106.out 0
           have hfz24_1 := blk_frozen BK106.out 1
           go_wp2_with (first | ((with_reducible refine gate_dst (N := 41) rfl ?_); refine Kd.R_make Kd.bool _ 4 rfl (N := 41) rfl 45 _ _ rfl a0_1 rfl rfl Try.underlying45 (.bool false) 1 info4 rfl (by decide) (by omega) false (ok := fun _ => True) (okp := fun _ => True) rfl (fun _ hk => hk) trivial (of_decide_eq_true (by first | (with_reducible assumption) | assumption)) (Nat.le_trans (Nat.mul_le_mul_right _ (of_decide_eq_true (by first | (with_reducible assumption) | assumption) : a0_1.toNat ≤ 281474976710656)) (by omega)) (Below.refl _ _) (Nat.le_refl _) ?_; intro v112 w25 ho26 hb hg_ hnew_; clear hg_ hnew_; (first | rw [← Ny111.out] at ho26 | (simp only [Int.reduceToNat] at ho26; rw [← Ny111.out] at ho26)); have n0_ := Aside0.mk (Kd.R_lower ho26 (below_size (by repeat (first | (with_reducible first | exact HB.out | apply below_alloc | apply pw_below_drewN | apply below_drew1 | refine below_set ?_ GE106.out) | exact HB.out)))); have n1_ := Aside0.mk (blk_below (g := gb106) (o := .cells #[.slice (some ad107) l0_0.length c0_0, .int .i64 a0_1] 31 (0, 0)) (by (with_reducible repeat (first | refine blk_drewN ?_ _ | refine blk_drew ?_ | refine blk_alloc ?_ _)); exact BK106.out) hb); have n2_ := Aside0.mk (below_step (by repeat (first | (with_reducible first | exact HB.out | apply below_alloc | apply pw_below_drewN | apply below_drew1 | refine below_set ?_ GE106.out) | exact HB.out)) hb); clear BK106; clear HB; have HO113 := n0_; have BK106 := n1_; have HB := n2_; clear n0_ n1_ n2_; clear hb ho26; have hcz27_0 : w25.cell? ⟨gb106, 0, none⟩ = some (.slice (some ad107) l0_0.length c0_0) := (blk_cell BK106.out 0).trans rfl; have hcz27_1 : w25.cell? ⟨gb106, 1, none⟩ = some (.int .i64 a0_1) := (blk_cell BK106.out 1).trans rfl; have hfz27_0 := blk_frozen BK106.out 0; have hfz27_1 := blk_frozen BK106.out 1; have p23 : 0 ≤ ((ji20) : Int) := of_decide_eq_true (by first | (with_reducible assumption) | assumption); have q23 : ((ji20) : Int) < ((y111.length : Int) : Int) := of_decide_eq_true (by first | (with_reducible assumption) | assumption); obtain ⟨go23, co23, eo23, gb23, gl23, cl23, HG23⟩ := Kd.R_form HO113.out (by omega); (first | cases eo23 | (injection eo23 with ea_ en_ ec_; (first | subst ea_ | (injection ea_ with ea_; subst ea_)); subst ec_; clear en_)); have GB23 := Aside0.mk gb23; have GG23 := Aside0.mk HG23; clear gb23 gl23 HG23; obtain ⟨hx23_0, hf23_0⟩ := Kd.R_celln false HO113.out ((ji20) : Int) p23 q23; replace p23 := eq_true p23; replace q23 := eq_true q23; obtain ⟨hy28_, hz28_⟩ := Kd.R_celln false HO113.out ((ji20) : Int) (of_decide_eq_true (by first | (with_reducible assumption) | assumption)) (of_decide_eq_true (by first | (with_reducible assumption) | assumption)); have HP28 := Kd.R_putg HO113.out ((ji20) : Int) true) | ((with_reducible refine gate_store (t := 4) (p := 47) rfl ?_); (try (rw [drewN_self w25]; generalize hq_ : World.drewN w25 _ = w25; have n0_ := Aside0.mk (Kd.R_at hq_ HO113.out); have n1_ := Aside0.mk (blk_at hq_ BK106.out); have n2_ := Aside0.mk (below_at hq_ HB.out); clear hq_ HO113 BK106 HB; have HO113 := n0_; have BK106 := n1_; have HB := n2_; clear n0_ n1_ n2_; (try (obtain ⟨hy28_, hz28_⟩ := Kd.R_celln false HO113.out ((ji20) : Int) (of_decide_eq_true (by first | (with_reducible assumption) | assumption)) (of_decide_eq_true (by first | (with_reducible assumption) | assumption)))); (try (have HP28 := Kd.R_putg HO113.out ((ji20) : Int) true)))); refine store_event (t := 4) (p := 47) (v := ?vo_w29) (w1 := (w25.setCell ⟨go23, ((ji20) : Int).toNat, none⟩ (.bool true))) ?hg ?ho ?hn ?hr ?_; (case ho => rfl); (case hg => rfl); (case hn => rfl); (case hr => first | (go_simp; done) | (go_simp; rfl)); intro w29 hw; have hg : w25.grownBy w29 (some go23) := (by rw [hw]; exact HP28.2); have hp_ : Kd.R Kd.bool 4 w29 w.heap.size (fun _ => True) (.slice (some ⟨go23, 0, none⟩) y111.length co23) y114 := (by rw [hw, Ny114.out]; exact HP28.1); clear HP28; have n0_ := Aside0.mk (blk_grown (g := gb106) (o := .cells #[.slice (some ad107) l0_0.length c0_0, .int .i64 a0_1] 31 (0, 0)) (by (with_reducible repeat (first | refine blk_drewN ?_ _ | refine blk_drew ?_ | refine blk_alloc ?_ _)); exact BK106.out) hg (Kd.R_ne HO113.out BK106.out (by decide))); have n1_ := Aside0.mk (hp_); have n2_ := Aside0.mk ((by rw [hw]; exact below_set (HB.out) GB23.out : Below w.heap.size w w29)); clear BK106; clear HO113; clear HB; have BK106 := n0_; have HO113 := n1_; have HB := n2_; clear n0_ n1_ n2_; clear hg hw hp_; have hcz30_0 : w29.cell? ⟨gb106, 0, none⟩ = some (.slice (some ad107) l0_0.length c0_0) := (blk_cell BK106.out 0).trans rfl; have hcz30_1 : w29.cell? ⟨gb106, 1, none⟩ = some (.int .i64 a0_1) := (blk_cell BK106.out 1).trans rfl; have hfz30_0 := blk_frozen BK106.out 0; have hfz30_1 := blk_frozen BK106.out 1))
           repeat (go_quiet (first | ((with_reducible refine gate_dst (N := 41) rfl ?_); refine Kd.R_make Kd.bool _ 4 rfl (N := 41) rfl 45 _ _ rfl a0_1 rfl rfl Try.underlying45 (.bool false) 1 info4 rfl (by decide) (by omega) false (ok := fun _ => True) (okp := fun _ => True) rfl (fun _ hk => hk) trivial (of_decide_eq_true (by first | (with_reducible assumption) | assumption)) (Nat.le_trans (Nat.mul_le_mul_right _ (of_decide_eq_true (by first | (with_reducible assumption) | assumption) : a0_1.toNat ≤ 281474976710656)) (by omega)) (Below.refl _ _) (Nat.le_refl _) ?_; intro v112 w25 ho26 hb hg_ hnew_; clear hg_ hnew_; (first | rw [← Ny111.out] at ho26 | (simp only [Int.reduceToNat] at ho26; rw [← Ny111.out] at ho26)); have n0_ := Aside0.mk (Kd.R_lower ho26 (below_size (by repeat (first | (with_reducible first | exact HB.out | apply below_alloc | apply pw_below_drewN | apply below_drew1 | refine below_set ?_ GE106.out) | exact HB.out)))); have n1_ := Aside0.mk (blk_below (g := gb106) (o := .cells #[.slice (some ad107) l0_0.length c0_0, .int .i64 a0_1] 31 (0, 0)) (by (with_reducible repeat (first | refine blk_drewN ?_ _ | refine blk_drew ?_ | refine blk_alloc ?_ _)); exact BK106.out) hb); have n2_ := Aside0.mk (below_step (by repeat (first | (with_reducible first | exact HB.out | apply below_alloc | apply pw_below_drewN | apply below_drew1 | refine below_set ?_ GE106.out) | exact HB.out)) hb); clear BK106; clear HB; have HO113 := n0_; have BK106 := n1_; have HB := n2_; clear n0_ n1_ n2_; clear hb ho26; have hcz27_0 : w25.cell? ⟨gb106, 0, none⟩ = some (.slice (some ad107) l0_0.length c0_0) := (blk_cell BK106.out 0).trans rfl; have hcz27_1 : w25.cell? ⟨gb106, 1, none⟩ = some (.int .i64 a0_1) := (blk_cell BK106.out 1).trans rfl; have hfz27_0 := blk_frozen BK106.out 0; have hfz27_1 := blk_frozen BK106.out 1; have p23 : 0 ≤ ((ji20) : Int) := of_decide_eq_true (by first | (with_reducible assumption) | assumption); have q23 : ((ji20) : Int) < ((y111.length : Int) : Int) := of_decide_eq_true (by first | (with_reducible assumption) | assumption); obtain ⟨go23, co23, eo23, gb23, gl23, cl23, HG23⟩ := Kd.R_form HO113.out (by omega); (first | cases eo23 | (injection eo23 with ea_ en_ ec_; (first | subst ea_ | (injection ea_ with ea_; subst ea_)); subst ec_; clear en_)); have GB23 := Aside0.mk gb23; have GG23 := Aside0.mk HG23; clear gb23 gl23 HG23; obtain ⟨hx23_0, hf23_0⟩ := Kd.R_celln false HO113.out ((ji20) : Int) p23 q23; replace p23 := eq_true p23; replace q23 := eq_true q23; obtain ⟨hy28_, hz28_⟩ := Kd.R_celln false HO113.out ((ji20) : Int) (of_decide_eq_true (by first | (with_reducible assumption) | assumption)) (of_decide_eq_true (by first | (with_reducible assumption) | assumption)); have HP28 := Kd.R_putg HO113.out ((ji20) : Int) true) | ((with_reducible refine gate_store (t := 4) (p := 47) rfl ?_); (try (rw [drewN_self w25]; generalize hq_ : World.drewN w25 _ = w25; have n0_ := Aside0.mk (Kd.R_at hq_ HO113.out); have n1_ := Aside0.mk (blk_at hq_ BK106.out); have n2_ := Aside0.mk (below_at hq_ HB.out); clear hq_ HO113 BK106 HB; have HO113 := n0_; have BK106 := n1_; have HB := n2_; clear n0_ n1_ n2_; (try (obtain ⟨hy28_, hz28_⟩ := Kd.R_celln false HO113.out ((ji20) : Int) (of_decide_eq_true (by first | (with_reducible assumption) | assumption)) (of_decide_eq_true (by first | (with_reducible assumption) | assumption)))); (try (have HP28 := Kd.R_putg HO113.out ((ji20) : Int) true)))); refine store_event (t := 4) (p := 47) (v := ?vo_w29) (w1 := (w25.setCell ⟨go23, ((ji20) : Int).toNat, none⟩ (.bool true))) ?hg ?ho ?hn ?hr ?_; (case ho => rfl); (case hg => rfl); (case hn => rfl); (case hr => first | (go_simp; done) | (go_simp; rfl)); intro w29 hw; have hg : w25.grownBy w29 (some go23) := (by rw [hw]; exact HP28.2); have hp_ : Kd.R Kd.bool 4 w29 w.heap.size (fun _ => True) (.slice (some ⟨go23, 0, none⟩) y111.length co23) y114 := (by rw [hw, Ny114.out]; exact HP28.1); clear HP28; have n0_ := Aside0.mk (blk_grown (g := gb106) (o := .cells #[.slice (some ad107) l0_0.length c0_0, .int .i64 a0_1] 31 (0, 0)) (by (with_reducible repeat (first | refine blk_drewN ?_ _ | refine blk_drew ?_ | refine blk_alloc ?_ _)); exact BK106.out) hg (Kd.R_ne HO113.out BK106.out (by decide))); have n1_ := Aside0.mk (hp_); have n2_ := Aside0.mk ((by rw [hw]; exact below_set (HB.out) GB23.out : Below w.heap.size w w29)); clear BK106; clear HO113; clear HB; have BK106 := n0_; have HO113 := n1_; have HB := n2_; clear n0_ n1_ n2_; clear hg hw hp_; have hcz30_0 : w29.cell? ⟨gb106, 0, none⟩ = some (.slice (some ad107) l0_0.length c0_0) := (blk_cell BK106.out 0).trans rfl; have hcz30_1 : w29.cell? ⟨gb106, 1, none⟩ = some (.int .i64 a0_1) := (blk_cell BK106.out 1).trans rfl; have hfz30_0 := blk_frozen BK106.out 0; have hfz30_1 := blk_frozen BK106.out 1)); try go_wp2_with (first | ((with_reducible refine gate_dst (N := 41) rfl ?_); refine Kd.R_make Kd.bool _ 4 rfl (N := 41) rfl 45 _ _ rfl a0_1 rfl rfl Try.underlying45 (.bool false) 1 info4 rfl (by decide) (by omega) false (ok := fun _ => True) (okp := fun _ => True) rfl (fun _ hk => hk) trivial (of_decide_eq_true (by first | (with_reducible assumption) | assumption)) (Nat.le_trans (Nat.mul_le_mul_right _ (of_decide_eq_true (by first | (with_reducible assumption) | assumption) : a0_1.toNat ≤ 281474976710656)) (by omega)) (Below.refl _ _) (Nat.le_refl _) ?_; intro v112 w25 ho26 hb hg_ hnew_; clear hg_ hnew_; (first | rw [← Ny111.out] at ho26 | (simp only [Int.reduceToNat] at ho26; rw [← Ny111.out] at ho26)); have n0_ := Aside0.mk (Kd.R_lower ho26 (below_size (by repeat (first | (with_reducible first | exact HB.out | apply below_alloc | apply pw_below_drewN | apply below_drew1 | refine below_set ?_ GE106.out) | exact HB.out)))); have n1_ := Aside0.mk (blk_below (g := gb106) (o := .cells #[.slice (some ad107) l0_0.length c0_0, .int .i64 a0_1] 31 (0, 0)) (by (with_reducible repeat (first | refine blk_drewN ?_ _ | refine blk_drew ?_ | refine blk_alloc ?_ _)); exact BK106.out) hb); have n2_ := Aside0.mk (below_step (by repeat (first | (with_reducible first | exact HB.out | apply below_alloc | apply pw_below_drewN | apply below_drew1 | refine below_set ?_ GE106.out) | exact HB.out)) hb); clear BK106; clear HB; have HO113 := n0_; have BK106 := n1_; have HB := n2_; clear n0_ n1_ n2_; clear hb ho26; have hcz27_0 : w25.cell? ⟨gb106, 0, none⟩ = some (.slice (some ad107) l0_0.length c0_0) := (blk_cell BK106.out 0).trans rfl; have hcz27_1 : w25.cell? ⟨gb106, 1, none⟩ = some (.int .i64 a0_1) := (blk_cell BK106.out 1).trans rfl; have hfz27_0 := blk_frozen BK106.out 0; have hfz27_1 := blk_frozen BK106.out 1; have p23 : 0 ≤ ((ji20) : Int) := of_decide_eq_true (by first | (with_reducible assumption) | assumption); have q23 : ((ji20) : Int) < ((y111.length : Int) : Int) := of_decide_eq_true (by first | (with_reducible assumption) | assumption); obtain ⟨go23, co23, eo23, gb23, gl23, cl23, HG23⟩ := Kd.R_form HO113.out (by omega); (first | cases eo23 | (injection eo23 with ea_ en_ ec_; (first | subst ea_ | (injection ea_ with ea_; subst ea_)); subst ec_; clear en_)); have GB23 := Aside0.mk gb23; have GG23 := Aside0.mk HG23; clear gb23 gl23 HG23; obtain ⟨hx23_0, hf23_0⟩ := Kd.R_celln false HO113.out ((ji20) : Int) p23 q23; replace p23 := eq_true p23; replace q23 := eq_true q23; obtain ⟨hy28_, hz28_⟩ := Kd.R_celln false HO113.out ((ji20) : Int) (of_decide_eq_true (by first | (with_reducible assumption) | assumption)) (of_decide_eq_true (by first | (with_reducible assumption) | assumption)); have HP28 := Kd.R_putg HO113.out ((ji20) : Int) true) | ((with_reducible refine gate_store (t := 4) (p := 47) rfl ?_); (try (rw [drewN_self w25]; generalize hq_ : World.drewN w25 _ = w25; have n0_ := Aside0.mk (Kd.R_at hq_ HO113.out); have n1_ := Aside0.mk (blk_at hq_ BK106.out); have n2_ := Aside0.mk (below_at hq_ HB.out); clear hq_ HO113 BK106 HB; have HO113 := n0_; have BK106 := n1_; have HB := n2_; clear n0_ n1_ n2_; (try (obtain ⟨hy28_, hz28_⟩ := Kd.R_celln false HO113.out ((ji20) : Int) (of_decide_eq_true (by first | (with_reducible assumption) | assumption)) (of_decide_eq_true (by first | (with_reducible assumption) | assumption)))); (try (have HP28 := Kd.R_putg HO113.out ((ji20) : Int) true)))); refine store_event (t := 4) (p := 47) (v := ?vo_w29) (w1 := (w25.setCell ⟨go23, ((ji20) : Int).toNat, none⟩ (.bool true))) ?hg ?ho ?hn ?hr ?_; (case ho => rfl); (case hg => rfl); (case hn => rfl); (case hr => first | (go_simp; done) | (go_simp; rfl)); intro w29 hw; have hg : w25.grownBy w29 (some go23) := (by rw [hw]; exact HP28.2); have hp_ : Kd.R Kd.bool 4 w29 w.heap.size (fun _ => True) (.slice (some ⟨go23, 0, none⟩) y111.length co23) y114 := (by rw [hw, Ny114.out]; exact HP28.1); clear HP28; have n0_ := Aside0.mk (blk_grown (g := gb106) (o := .cells #[.slice (some ad107) l0_0.length c0_0, .int .i64 a0_1] 31 (0, 0)) (by (with_reducible repeat (first | refine blk_drewN ?_ _ | refine blk_drew ?_ | refine blk_alloc ?_ _)); exact BK106.out) hg (Kd.R_ne HO113.out BK106.out (by decide))); have n1_ := Aside0.mk (hp_); have n2_ := Aside0.mk ((by rw [hw]; exact below_set (HB.out) GB23.out : Below w.heap.size w w29)); clear BK106; clear HO113; clear HB; have BK106 := n0_; have HO113 := n1_; have HB := n2_; clear n0_ n1_ n2_; clear hg hw hp_; have hcz30_0 : w29.cell? ⟨gb106, 0, none⟩ = some (.slice (some ad107) l0_0.length c0_0) := (blk_cell BK106.out 0).trans rfl; have hcz30_1 : w29.cell? ⟨gb106, 1, none⟩ = some (.int .i64 a0_1) := (blk_cell BK106.out 1).trans rfl; have hfz30_0 := blk_frozen BK106.out 0; have hfz30_1 := blk_frozen BK106.out 1)))
           go_loopg [10, 51] kj7 (fun kq v10 v51 w' => ∃ (x10_2 : List Bool) (x51_2 : Int), v51 = .int .i64 x51_2 ∧ Aside0 (spec_slMade.l0 kq a1 a3 x10_2 l0_0 (l0_0.length : Int) x51_2 l0_0 a0_1 = some r) ∧ Aside0 (kq ≤ kj7) ∧ Aside0 (Kd.R Kd.bool 4 w' w.heap.size (fun _ => True) v10 x10_2) ∧ Aside0 (w'.heap[gb106]? = some (.cells #[(.slice (some ad107) l0_0.length c0_0), .int .i64 a0_1] 31 (0, 0))) ∧ Aside0 (Below w.heap.size w w'))
           case atStart => exact ⟨(y114), (0), (by first | rfl | (simp; done) | (simp [*]; done)), H', ⟨Nat.le_refl _⟩, ⟨by (with_reducible repeat first | apply ra_ | apply rn_ | apply rw_); exact HO113.out⟩, ⟨by (with_reducible repeat (first | refine blk_drewN ?_ _ | refine blk_drew ?_ | refine blk_alloc ?_ _)); exact BK106.out⟩, ⟨by repeat (first | (with_reducible first | exact HB.out | apply below_alloc | apply pw_below_drewN | apply below_drew1 | refine below_set ?_ GE106.out) | exact HB.out)⟩⟩
           case round =>
            clear H'
            try clear c1
            try clear p1
            try clear q1
            try clear hx1
            try clear qi1
            try clear c2
            try clear p2
            try clear q2
            try clear hx2
            try clear c5
            try clear c5b0
            try clear c6
            try clear c6b0
            try clear p6
            try clear c7
            try clear c7b0
            try clear c7b1
            try clear p10
            try clear q10
            try clear hx10
            try clear qi10
            try clear c11
            try clear p11
            try clear q11
            try clear hx11
            try clear qi11
            try clear c13
            try clear c13b0
            try clear c14
            try clear c14b0
            try clear c15
            try clear c15b0
            try clear c15b1
            try clear c17
            try clear c17b0
            try clear c17b1
            try clear c18
            try clear c18b0
            try clear c18b1
            try clear c19
            try clear c19b0
            try clear c19b1
            try clear c21
            try clear c21b0
            try clear c22
            try clear c22b0
            try clear c23
            try clear p23
            try clear q23
            try clear hx23
            try clear hf23
            try clear hcz10_0
            try clear hcz10_1
            try clear hcz16_0
            try clear hcz16_1
            try clear hcz24_0
            try clear hcz24_1
            try clear hcz27_0
            try clear hcz27_1
            try clear hcz30_0
            try clear hcz30_1
            try clear hfz10_0
            try clear hfz10_1
            try clear hfz16_0
            try clear hfz16_1
            try clear hfz24_0
            try clear hfz24_1
            try clear hfz27_0
            try clear hfz27_1
            try clear hfz30_0
            try clear hfz30_1
            try clear hx107_0
            try clear hx108_0
            try clear hx109_0
            try clear hx110_0
            try clear hx23_0
            try clear p1
            try clear p10
            try clear p107
            try clear p108
            try clear p109
            try clear p11
            try clear p110
            try clear p2
            try clear p23
            try clear p6
            try clear q1
            try clear q10
            try clear q107
            try clear q108
            try clear q109
            try clear q11
            try clear q110
            try clear q23
            obtain ⟨x10_2, x51_2, rfl, HA, HK2, HO_10, BK106, HB⟩ := hrel
            cases gk with
            | zero => exact absurd HA.out (by simp [spec_slMade.l0])
            | succ k2 =>
             have H := HA.out
             clear HA
             simp only [spec_slMade.l0] at H
             by_cases c31 : x51_2 < (l0_0.length : Int)
             ·rw [if_pos c31] at H
              have c31b0 : decide (x51_2 < (l0_0.length : Int)) = true := decide_eq_true c31
              clear c31
              by_cases c32 : 0 ≤ x51_2
              ·rw [if_pos c32] at H
               have c32b0 : decide (0 ≤ x51_2) = true := decide_eq_true c32
               clear c32
               by_cases c33 : x51_2 < (l0_0.length : Int)
               ·rw [if_pos c33] at H
                have c33b0 : decide (x51_2 < (l0_0.length : Int)) = true := decide_eq_true c33
                clear c33
                have HC34 := Aside0.mk H
                clear H
                have p116 : 0 ≤ (x51_2 : Int) := of_decide_eq_true (by first | (with_reducible assumption) | assumption)
                have q116 : x51_2 < (l0_0.length : Int) := of_decide_eq_true (by first | (with_reducible assumption) | assumption)
                obtain ⟨ad116, e116, hx116_0⟩ := Kd.at_int HR0_0.out x51_2 p116 q116
                obtain rfl : ad107 = ad116 := (by injection e116)
                replace hx116_0 := (HB.out.cell (World.block_lt_of_cell? w _ hx116_0)).trans hx116_0
                replace p116 := eq_true p116
                replace q116 := eq_true q116
                go_upto_region 9 with (fail)
                repeat (go_quiet (fail); go_upto_region 9 with (fail))
                go_cut [67] (fun v67 wc => ∃ (kq : Nat) (x67_33 : Bool), v67 = .bool x67_33 ∧ Aside0 (spec_slMade.j2 kq a1 a3 x10_2 (rd l0_0 x51_2) l0_0 (l0_0.length : Int) x51_2 x67_33 l0_0 a0_1 = some r) ∧ Aside0 (kq ≤ k2) ∧ Aside0 (Kd.R Kd.bool 4 wc w.heap.size (fun _ => True) u10 x10_2) ∧ Aside0 (wc.heap[gb106]? = some (.cells #[(.slice (some ad107) l0_0.length c0_0), .int .i64 a0_1] 31 (0, 0))) ∧ Aside0 (Below w.heap.size w wc))
                case first =>
                 have H := HC34.out
                 clear HC34
                 by_cases c35 : x51_2 = a1
                 ·rw [if_pos c35] at H
                  have c35b0 : (x51_2 == a1) = true := beq_iff_eq.mpr c35
                  have c35b1 : (x51_2 != a1) = false := bne_eq_false_iff_eq.mpr c35
                  clear c35
                  (first | rw [c35b0] | (simp only [i64_w, i32_w]; rw [c35b0]) | skip)
                  have H' := Aside0.mk H
                  clear H
                  go_wp2
                  repeat (go_quiet (fail); try go_wp2)
                  go_meet
                  case rel => exact ⟨_, (true), (by first | rfl | (simp; done) | (simp [*]; done)), H', ⟨by have := HJ7.out; have := HK2.out; first | omega | exact Nat.le_refl _⟩, ⟨by (with_reducible repeat first | apply ra_ | apply rn_ | apply rw_); exact HO_10.out⟩, ⟨by (with_reducible repeat (first | refine blk_drewN ?_ _ | refine blk_drew ?_ | refine blk_alloc ?_ _)); exact BK106.out⟩, ⟨by repeat (first | (with_reducible first | exact HB.out | apply below_alloc | apply pw_below_drewN | apply below_drew1 | refine below_set ?_ GE106.out) | exact HB.out)⟩⟩
                 ·rw [if_neg c35] at H
                  have c35b0 : (x51_2 == a1) = false := beq_eq_false_iff_ne.mpr c35
                  have c35b1 : (x51_2 != a1) = true := bne_iff_ne.mpr c35
                  (first | rw [c35b0] | (simp only [i64_w, i32_w]; rw [c35b0]) | skip)
                  by_cases c36 : a3 = true
                  ·subst c36
                   have H1 : (spec_slMade.j2 k2 a1 true x10_2 (rd l0_0 x51_2) l0_0 (l0_0.length : Int) x51_2 (x51_2 == (wrap64 (a1 + 1))) l0_0 a0_1) = some r := by rw [if_pos rfl] at H; exact H
                   clear H
                   have H := H1
                   clear H1
                   have H' := Aside0.mk H
                   clear H
                   go_wp2
                   repeat (go_quiet (fail); try go_wp2)
                   go_meet
                   case rel => exact ⟨_, ((x51_2 == (wrap64 (a1 + 1)))), (by first | rfl | (simp; done) | (simp [*]; done)), H', ⟨by have := HJ7.out; have := HK2.out; first | omega | exact Nat.le_refl _⟩, ⟨by (with_reducible repeat first | apply ra_ | apply rn_ | apply rw_); exact HO_10.out⟩, ⟨by (with_reducible repeat (first | refine blk_drewN ?_ _ | refine blk_drew ?_ | refine blk_alloc ?_ _)); exact BK106.out⟩, ⟨by repeat (first | (with_reducible first | exact HB.out | apply below_alloc | apply pw_below_drewN | apply below_drew1 | refine below_set ?_ GE106.out) | exact HB.out)⟩⟩
                  ·replace c36 := Bool.eq_false_iff.mpr c36
                   subst c36
                   have H1 : (spec_slMade.j2 k2 a1 false x10_2 (rd l0_0 x51_2) l0_0 (l0_0.length : Int) x51_2 false l0_0 a0_1) = some r := by rw [if_neg (show ¬ (false = true) by decide)] at H; exact H
                   clear H
                   have H := H1
                   clear H1
                   have H' := Aside0.mk H
                   clear H
                   go_wp2
                   repeat (go_quiet (fail); try go_wp2)
                   go_meet
                   case rel => exact ⟨_, (false), (by first | rfl | (simp; done) | (simp [*]; done)), H', ⟨by have := HJ7.out; have := HK2.out; first | omega | exact Nat.le_refl _⟩, ⟨by (with_reducible repeat first | apply ra_ | apply rn_ | apply rw_); exact HO_10.out⟩, ⟨by (with_reducible repeat (first | refine blk_drewN ?_ _ | refine blk_drew ?_ | refine blk_alloc ?_ _)); exact BK106.out⟩, ⟨by repeat (first | (with_reducible first | exact HB.out | apply below_alloc | apply pw_below_drewN | apply below_drew1 | refine below_set ?_ GE106.out) | exact HB.out)⟩⟩
                case rest =>
                 clear HC34
                 try clear c1
                 try clear p1
                 try clear q1
                 try clear hx1
                 try clear qi1
                 try clear c2
                 try clear p2
                 try clear q2
                 try clear hx2
                 try clear c3
                 try clear c5
                 try clear c5b0
                 try clear c6
                 try clear c6b0
                 try clear p6
                 try clear c7
                 try clear c7b0
                 try clear c7b1
                 try clear p10
                 try clear q10
                 try clear hx10
                 try clear qi10
                 try clear c11
                 try clear p11
                 try clear q11
                 try clear hx11
                 try clear qi11
                 try clear c13
                 try clear c13b0
                 try clear c14
                 try clear c14b0
                 try clear c15
                 try clear c15b0
                 try clear c15b1
                 try clear c17
                 try clear c17b0
                 try clear c17b1
                 try clear c18
                 try clear c18b0
                 try clear c18b1
                 try clear c19
                 try clear c19b0
                 try clear c19b1
                 try clear c21
                 try clear c21b0
                 try clear c22
                 try clear c22b0
                 try clear c23
                 try clear p23
                 try clear q23
                 try clear hx23
                 try clear hf23
                 try clear c31
                 try clear c31b0
                 try clear c32
                 try clear c32b0
                 try clear c33
                 try clear c33b0
                 try clear c35
                 try clear c35b0
                 try clear c35b1
                 try clear c36
                 try clear hcz10_0
                 try clear hcz10_1
                 try clear hcz16_0
                 try clear hcz16_1
                 try clear hcz24_0
                 try clear hcz24_1
                 try clear hcz27_0
                 try clear hcz27_1
                 try clear hcz30_0
                 try clear hcz30_1
                 try clear hfz10_0
                 try clear hfz10_1
                 try clear hfz16_0
                 try clear hfz16_1
                 try clear hfz24_0
                 try clear hfz24_1
                 try clear hfz27_0
                 try clear hfz27_1
                 try clear hfz30_0
                 try clear hfz30_1
                 try clear hx107_0
                 try clear hx108_0
                 try clear hx109_0
                 try clear hx110_0
                 try clear hx116_0
                 try clear hx23_0
                 try clear p1
                 try clear p10
                 try clear p107
                 try clear p108
                 try clear p109
                 try clear p11
                 try clear p110
                 try clear p116
                 try clear p2
                 try clear p23
                 try clear p6
                 try clear q1
                 try clear q10
                 try clear q107
                 try clear q108
                 try clear q109
                 try clear q11
                 try clear q110
                 try clear q116
                 try clear q2
                 try clear q23
                 obtain ⟨kq, x67_33, rfl, HA, HJ33, HO_10, BK106, HB⟩ := hcut
                 cases kq with
                 | zero => exact absurd HA.out (by simp [spec_slMade.j2])
                 | succ kj33 =>
                  have H := HA.out
                  clear HA
                  simp only [spec_slMade.j2] at H
                  by_cases c37 : x67_33 = true
                  ·subst c37
                   have H1 : (spec_slMade.l0 kj33 a1 a3 x10_2 l0_0 (l0_0.length : Int) (wrap64 (x51_2 + 1)) l0_0 a0_1) = some r := by rw [if_pos rfl] at H; exact H
                   clear H
                   have H := H1
                   clear H1
                   have H' := Aside0.mk H
                   clear H
                   go_wp2
                   repeat (go_quiet (fail); try go_wp2)
                   go_roundg kj33
                   case measure => have := HJ7.out; have := HK2.out; have := HJ33.out; omega
                   case rel => exact ⟨(x10_2), (wrap64 (x51_2 + 1)), (by first | rfl | (simp; done) | (simp [*]; done)), H', ⟨by have := HJ7.out; have := HK2.out; have := HJ33.out; omega⟩, ⟨by (with_reducible repeat first | apply ra_ | apply rn_ | apply rw_); exact HO_10.out⟩, ⟨by (with_reducible repeat (first | refine blk_drewN ?_ _ | refine blk_drew ?_ | refine blk_alloc ?_ _)); exact BK106.out⟩, ⟨by repeat (first | (with_reducible first | exact HB.out | apply below_alloc | apply pw_below_drewN | apply below_drew1 | refine below_set ?_ GE106.out) | exact HB.out)⟩⟩
                  ·replace c37 := Bool.eq_false_iff.mpr c37
                   subst c37
                   have H1 : (if 0 ≤ a0_1 then (if (a0_1 : Int).toNat ≤ 281474976710656 then (spec_slMade.l1 kj33 a1 a3 (rd l0_0 x51_2) (List.replicate (a0_1 : Int).toNat false) l0_0 (l0_0.length : Int) x51_2 x10_2 (x10_2.length : Int) 0 l0_0 a0_1) else (none)) else (none)) = some r := by rw [if_neg (show ¬ (false = true) by decide)] at H; exact H
                   clear H
                   have H := H1
                   clear H1
                   by_cases c38 : 0 ≤ a0_1
                   ·rw [if_pos c38] at H
                    have c38b0 := eq_true c38
                    have c38b1 : decide (0 ≤ a0_1) = true := decide_eq_true c38
                    clear c38
                    by_cases c39 : (a0_1 : Int).toNat ≤ 281474976710656
                    ·rw [if_pos c39] at H
                     have c39b0 := eq_true c39
                     have c39b1 : decide ((a0_1 : Int).toNat ≤ 281474976710656) = true := decide_eq_true c39
                     clear c39
                     obtain ⟨y117, hy117⟩ : ∃ y_ : List Bool, y_ = (List.replicate (a0_1 : Int).toNat false) := ⟨_, rfl⟩
                     replace H : (spec_slMade.l1 kj33 a1 a3 (rd l0_0 x51_2) y117 l0_0 (l0_0.length : Int) x51_2 x10_2 (x10_2.length : Int) 0 l0_0 a0_1) = some r := by first | (rw [hy117]; with_reducible exact H) | (have H2_ := (Option.bind_some _ _).symm.trans H; rw [hy117]; with_reducible exact H2_) | (have H2_ := (Option.bind_some _ _).symm.trans H; with_reducible exact H2_) | with_reducible exact H | (rw [hy117]; exact H) | exact H
                     have Ny117 := Aside0.mk hy117
                     clear hy117
                     have H' := Aside0.mk H
                     clear H
                     have hcz40_0 : wc.cell? ⟨gb106, 0, none⟩ = some (.slice (some ad107) l0_0.length c0_0) := (blk_cell BK106.out 0).trans rfl
                     have hcz40_1 : wc.cell? ⟨gb106, 1, none⟩ = some (.int .i64 a0_1) := (blk_cell BK106.out 1).trans rfl
                     have hfz40_0 := blk_frozen BK106.out 0
                     have hfz40_1 := blk_frozen BK106.out 1
                     go_wp2_with (first | ((with_reducible refine gate_dst (N := 70) rfl ?_); refine Kd.R_make Kd.bool _ 4 rfl (N := 70) rfl 45 _ _ rfl a0_1 rfl rfl Try.underlying45 (.bool false) 1 info4 rfl (by decide) (by omega) false (ok := fun _ => True) (okp := fun _ => True) rfl (fun _ hk => hk) trivial (of_decide_eq_true (by first | (with_reducible assumption) | assumption)) (Nat.le_trans (Nat.mul_le_mul_right _ (of_decide_eq_true (by first | (with_reducible assumption) | assumption) : a0_1.toNat ≤ 281474976710656)) (by omega)) (Below.refl _ _) (Nat.le_refl _) ?_; intro v118 w41 ho42 hb hg_ hnew_; clear hg_ hnew_; (first | rw [← Ny117.out] at ho42 | (simp only [Int.reduceToNat] at ho42; rw [← Ny117.out] at ho42)); have n0_ := Aside0.mk (Kd.R_elder' (by (with_reducible repeat first | apply ra_ | apply rn_ | apply rw_); exact HO_10.out) (Kd.R_base ho42) hb); have n1_ := Aside0.mk (Kd.R_lower (Kd.R_new' ho42 (Kd.R_lt (by (with_reducible repeat first | apply ra_ | apply rn_ | apply rw_); exact HO_10.out))) (below_size (by repeat (first | (with_reducible first | exact HB.out | apply below_alloc | apply pw_below_drewN | apply below_drew1 | refine below_set ?_ GE106.out) | exact HB.out)))); have n2_ := Aside0.mk (blk_below (g := gb106) (o := .cells #[.slice (some ad107) l0_0.length c0_0, .int .i64 a0_1] 31 (0, 0)) (by (with_reducible repeat (first | refine blk_drewN ?_ _ | refine blk_drew ?_ | refine blk_alloc ?_ _)); exact BK106.out) hb); have n3_ := Aside0.mk (below_step (by repeat (first | (with_reducible first | exact HB.out | apply below_alloc | apply pw_below_drewN | apply below_drew1 | refine below_set ?_ GE106.out) | exact HB.out)) hb); clear HO_10; clear BK106; clear HB; have HO_10 := n0_; have HO119 := n1_; have BK106 := n2_; have HB := n3_; clear n0_ n1_ n2_ n3_; clear hb ho42; obtain ⟨Ao43, co43, eo43⟩ := Kd.R_slice HO_10.out; subst eo43))
                     repeat (go_quiet (first | ((with_reducible refine gate_dst (N := 70) rfl ?_); refine Kd.R_make Kd.bool _ 4 rfl (N := 70) rfl 45 _ _ rfl a0_1 rfl rfl Try.underlying45 (.bool false) 1 info4 rfl (by decide) (by omega) false (ok := fun _ => True) (okp := fun _ => True) rfl (fun _ hk => hk) trivial (of_decide_eq_true (by first | (with_reducible assumption) | assumption)) (Nat.le_trans (Nat.mul_le_mul_right _ (of_decide_eq_true (by first | (with_reducible assumption) | assumption) : a0_1.toNat ≤ 281474976710656)) (by omega)) (Below.refl _ _) (Nat.le_refl _) ?_; intro v118 w41 ho42 hb hg_ hnew_; clear hg_ hnew_; (first | rw [← Ny117.out] at ho42 | (simp only [Int.reduceToNat] at ho42; rw [← Ny117.out] at ho42)); have n0_ := Aside0.mk (Kd.R_elder' (by (with_reducible repeat first | apply ra_ | apply rn_ | apply rw_); exact HO_10.out) (Kd.R_base ho42) hb); have n1_ := Aside0.mk (Kd.R_lower (Kd.R_new' ho42 (Kd.R_lt (by (with_reducible repeat first | apply ra_ | apply rn_ | apply rw_); exact HO_10.out))) (below_size (by repeat (first | (with_reducible first | exact HB.out | apply below_alloc | apply pw_below_drewN | apply below_drew1 | refine below_set ?_ GE106.out) | exact HB.out)))); have n2_ := Aside0.mk (blk_below (g := gb106) (o := .cells #[.slice (some ad107) l0_0.length c0_0, .int .i64 a0_1] 31 (0, 0)) (by (with_reducible repeat (first | refine blk_drewN ?_ _ | refine blk_drew ?_ | refine blk_alloc ?_ _)); exact BK106.out) hb); have n3_ := Aside0.mk (below_step (by repeat (first | (with_reducible first | exact HB.out | apply below_alloc | apply pw_below_drewN | apply below_drew1 | refine below_set ?_ GE106.out) | exact HB.out)) hb); clear HO_10; clear BK106; clear HB; have HO_10 := n0_; have HO119 := n1_; have BK106 := n2_; have HB := n3_; clear n0_ n1_ n2_ n3_; clear hb ho42; obtain ⟨Ao43, co43, eo43⟩ := Kd.R_slice HO_10.out; subst eo43)); try go_wp2_with (first | ((with_reducible refine gate_dst (N := 70) rfl ?_); refine Kd.R_make Kd.bool _ 4 rfl (N := 70) rfl 45 _ _ rfl a0_1 rfl rfl Try.underlying45 (.bool false) 1 info4 rfl (by decide) (by omega) false (ok := fun _ => True) (okp := fun _ => True) rfl (fun _ hk => hk) trivial (of_decide_eq_true (by first | (with_reducible assumption) | assumption)) (Nat.le_trans (Nat.mul_le_mul_right _ (of_decide_eq_true (by first | (with_reducible assumption) | assumption) : a0_1.toNat ≤ 281474976710656)) (by omega)) (Below.refl _ _) (Nat.le_refl _) ?_; intro v118 w41 ho42 hb hg_ hnew_; clear hg_ hnew_; (first | rw [← Ny117.out] at ho42 | (simp only [Int.reduceToNat] at ho42; rw [← Ny117.out] at ho42)); have n0_ := Aside0.mk (Kd.R_elder' (by (with_reducible repeat first | apply ra_ | apply rn_ | apply rw_); exact HO_10.out) (Kd.R_base ho42) hb); have n1_ := Aside0.mk (Kd.R_lower (Kd.R_new' ho42 (Kd.R_lt (by (with_reducible repeat first | apply ra_ | apply rn_ | apply rw_); exact HO_10.out))) (below_size (by repeat (first | (with_reducible first | exact HB.out | apply below_alloc | apply pw_below_drewN | apply below_drew1 | refine below_set ?_ GE106.out) | exact HB.out)))); have n2_ := Aside0.mk (blk_below (g := gb106) (o := .cells #[.slice (some ad107) l0_0.length c0_0, .int .i64 a0_1] 31 (0, 0)) (by (with_reducible repeat (first | refine blk_drewN ?_ _ | refine blk_drew ?_ | refine blk_alloc ?_ _)); exact BK106.out) hb); have n3_ := Aside0.mk (below_step (by repeat (first | (with_reducible first | exact HB.out | apply below_alloc | apply pw_below_drewN | apply below_drew1 | refine below_set ?_ GE106.out) | exact HB.out)) hb); clear HO_10; clear BK106; clear HB; have HO_10 := n0_; have HO119 := n1_; have BK106 := n2_; have HB := n3_; clear n0_ n1_ n2_ n3_; clear hb ho42; obtain ⟨Ao43, co43, eo43⟩ := Kd.R_slice HO_10.out; subst eo43)))
                     go_loopg [73] kj33 (fun kq v73 w' => ∃ (x13_4 : List Bool) (x73_4 : Int), v73 = .int .i64 x73_4 ∧ Aside0 (spec_slMade.l1 kq a1 a3 (rd l0_0 x51_2) x13_4 l0_0 (l0_0.length : Int) x51_2 x10_2 (x10_2.length : Int) x73_4 l0_0 a0_1 = some r) ∧ Aside0 (kq ≤ kj33) ∧ Aside0 (Kd.R Kd.bool 4 w' w.heap.size (fun k_ => some k_ ≠ ((.slice Ao43 x10_2.length co43) : Value).ownBlock) v118 x13_4) ∧ Aside0 (Kd.R Kd.bool 4 w' w.heap.size (fun k_ => some k_ ≠ (v118 : Value).ownBlock) (.slice Ao43 x10_2.length co43) x10_2) ∧ Aside0 (w'.heap[gb106]? = some (.cells #[(.slice (some ad107) l0_0.length c0_0), .int .i64 a0_1] 31 (0, 0))) ∧ Aside0 (Below w.heap.size w w'))
                     case atStart => exact ⟨(y117), (0), (by first | rfl | (simp; done) | (simp [*]; done)), H', ⟨Nat.le_refl _⟩, ⟨by (with_reducible repeat first | apply ra_ | apply rn_ | apply rw_); exact Kd.R_mono HO119.out (fun _ hk => hk.2)⟩, ⟨by (with_reducible repeat first | apply ra_ | apply rn_ | apply rw_); exact Kd.R_mono HO_10.out (fun _ hk => hk.2)⟩, ⟨by (with_reducible repeat (first | refine blk_drewN ?_ _ | refine blk_drew ?_ | refine blk_alloc ?_ _)); exact BK106.out⟩, ⟨by repeat (first | (with_reducible first | exact HB.out | apply below_alloc | apply pw_below_drewN | apply below_drew1 | refine below_set ?_ GE106.out) | exact HB.out)⟩⟩
                     case round =>
                      clear H'
                      try clear c1
                      try clear p1
                      try clear q1
                      try clear hx1
                      try clear qi1
                      try clear c2
                      try clear p2
                      try clear q2
                      try clear hx2
                      try clear c3
                      try clear c5
                      try clear c5b0
                      try clear c6
                      try clear c6b0
                      try clear p6
                      try clear c7
                      try clear c7b0
                      try clear c7b1
                      try clear p10
                      try clear q10
                      try clear hx10
                      try clear qi10
                      try clear c11
                      try clear p11
                      try clear q11
                      try clear hx11
                      try clear qi11
                      try clear c13
                      try clear c13b0
                      try clear c14
                      try clear c14b0
                      try clear c15
                      try clear c15b0
                      try clear c15b1
                      try clear c17
                      try clear c17b0
                      try clear c17b1
                      try clear c18
                      try clear c18b0
                      try clear c18b1
                      try clear c19
                      try clear c19b0
                      try clear c19b1
                      try clear c21
                      try clear c21b0
                      try clear c22
                      try clear c22b0
                      try clear c23
                      try clear p23
                      try clear q23
                      try clear hx23
                      try clear hf23
                      try clear c31
                      try clear c31b0
                      try clear c32
                      try clear c32b0
                      try clear c33
                      try clear c33b0
                      try clear c35
                      try clear c35b0
                      try clear c35b1
                      try clear c36
                      try clear c37
                      try clear c38
                      try clear c38b0
                      try clear c38b1
                      try clear c39
                      try clear c39b0
                      try clear c39b1
                      try clear hcz10_0
                      try clear hcz10_1
                      try clear hcz16_0
                      try clear hcz16_1
                      try clear hcz24_0
                      try clear hcz24_1
                      try clear hcz27_0
                      try clear hcz27_1
                      try clear hcz30_0
                      try clear hcz30_1
                      try clear hcz40_0
                      try clear hcz40_1
                      try clear hfz10_0
                      try clear hfz10_1
                      try clear hfz16_0
                      try clear hfz16_1
                      try clear hfz24_0
                      try clear hfz24_1
                      try clear hfz27_0
                      try clear hfz27_1
                      try clear hfz30_0
                      try clear hfz30_1
                      try clear hfz40_0
                      try clear hfz40_1
                      try clear hx107_0
                      try clear hx108_0
                      try clear hx109_0
                      try clear hx110_0
                      try clear hx116_0
                      try clear hx23_0
                      try clear p1
                      try clear p10
                      try clear p107
                      try clear p108
                      try clear p109
                      try clear p11
                      try clear p110
                      try clear p116
                      try clear p2
                      try clear p23
                      try clear p6
                      try clear q1
                      try clear q10
                      try clear q107
                      try clear q108
                      try clear q109
                      try clear q11
                      try clear q110
                      try clear q116
                      try clear q2
                      try clear q23
                      obtain ⟨x13_4, x73_4, rfl, HA, HK4, HO_13, HO_71, BK106, HB⟩ := hrel
                      cases gk with
                      | zero => exact absurd HA.out (by simp [spec_slMade.l1])
                      | succ k4 =>
                       have H := HA.out
                       clear HA
                       simp only [spec_slMade.l1] at H
                       by_cases c44 : x73_4 < (x10_2.length : Int)
                       ·rw [if_pos c44] at H
                        have c44b0 : decide (x73_4 < (x10_2.length : Int)) = true := decide_eq_true c44
                        clear c44
                        by_cases c45 : 0 ≤ x73_4
                        ·rw [if_pos c45] at H
                         have c45b0 : decide (0 ≤ x73_4) = true := decide_eq_true c45
                         clear c45
                         by_cases c46 : x73_4 < (x10_2.length : Int)
                         ·rw [if_pos c46] at H
                          have c46b0 : decide (x73_4 < (x10_2.length : Int)) = true := decide_eq_true c46
                          clear c46
                          have H' := Aside0.mk H
                          clear H
                          have p120 : 0 ≤ (x73_4 : Int) := of_decide_eq_true (by first | (with_reducible assumption) | assumption)
                          have q120 : x73_4 < (x10_2.length : Int) := of_decide_eq_true (by first | (with_reducible assumption) | assumption)
                          obtain ⟨ad120, e120, hx120_0⟩ := Kd.at_bool (Kd.R_reads' HO_71.out).2.2 x73_4 p120 q120
                          cases e120
                          replace p120 := eq_true p120
                          replace q120 := eq_true q120
                          go_wp2
                          repeat (go_quiet (fail); try go_wp2)
                          go_loopg [16] k4 (fun kq v16 w' => ∃ (x13_5 : List Bool) (x16_5 : Int), v16 = .int .i64 x16_5 ∧ Aside0 (spec_slMade.l2 kq a1 a3 (rd l0_0 x51_2) x13_5 x73_4 (rdOf false x10_2 x73_4) x16_5 l0_0 (l0_0.length : Int) x51_2 x10_2 (x10_2.length : Int) x73_4 l0_0 a0_1 = some r) ∧ Aside0 (kq ≤ k4) ∧ Aside0 (Kd.R Kd.bool 4 w' w.heap.size (fun k_ => some k_ ≠ ((.slice (some ad120) x10_2.length co43) : Value).ownBlock) v118 x13_5) ∧ Aside0 (Kd.R Kd.bool 4 w' w.heap.size (fun k_ => some k_ ≠ (v118 : Value).ownBlock) (.slice (some ad120) x10_2.length co43) x10_2) ∧ Aside0 (w'.heap[gb106]? = some (.cells #[(.slice (some ad107) l0_0.length c0_0), .int .i64 a0_1] 31 (0, 0))) ∧ Aside0 (Below w.heap.size w w'))
                          case atStart => exact ⟨(x13_4), (0), (by first | rfl | (simp; done) | (simp [*]; done)), H', ⟨Nat.le_refl _⟩, ⟨by (with_reducible repeat first | apply ra_ | apply rn_ | apply rw_); exact HO_13.out⟩, ⟨by (with_reducible repeat first | apply ra_ | apply rn_ | apply rw_); exact HO_71.out⟩, ⟨by (with_reducible repeat (first | refine blk_drewN ?_ _ | refine blk_drew ?_ | refine blk_alloc ?_ _)); exact BK106.out⟩, ⟨by repeat (first | (with_reducible first | exact HB.out | apply below_alloc | apply pw_below_drewN | apply below_drew1 | refine below_set ?_ GE106.out) | exact HB.out)⟩⟩
                          case round =>
                           clear H'
                           try clear c1
                           try clear p1
                           try clear q1
                           try clear hx1
                           try clear qi1
                           try clear c2
                           try clear p2
                           try clear q2
                           try clear hx2
                           try clear c3
                           try clear c4
                           try clear c5
                           try clear c5b0
                           try clear c6
                           try clear c6b0
                           try clear p6
                           try clear c7
                           try clear c7b0
                           try clear c7b1
                           try clear p10
                           try clear q10
                           try clear hx10
                           try clear qi10
                           try clear c11
                           try clear p11
                           try clear q11
                           try clear hx11
                           try clear qi11
                           try clear p12
                           try clear q12
                           try clear hx12
                           try clear c13
                           try clear c13b0
                           try clear c14
                           try clear c14b0
                           try clear c15
                           try clear c15b0
                           try clear c15b1
                           try clear c17
                           try clear c17b0
                           try clear c17b1
                           try clear c18
                           try clear c18b0
                           try clear c18b1
                           try clear c19
                           try clear c19b0
                           try clear c19b1
                           try clear c21
                           try clear c21b0
                           try clear c22
                           try clear c22b0
                           try clear c23
                           try clear p23
                           try clear q23
                           try clear hx23
                           try clear hf23
                           try clear c31
                           try clear c31b0
                           try clear c32
                           try clear c32b0
                           try clear c33
                           try clear c33b0
                           try clear c35
                           try clear c35b0
                           try clear c35b1
                           try clear c36
                           try clear c37
                           try clear c38
                           try clear c38b0
                           try clear c38b1
                           try clear c39
                           try clear c39b0
                           try clear c39b1
                           try clear c44
                           try clear c44b0
                           try clear c45
                           try clear c45b0
                           try clear c46
                           try clear c46b0
                           try clear hcz10_0
                           try clear hcz10_1
                           try clear hcz16_0
                           try clear hcz16_1
                           try clear hcz24_0
                           try clear hcz24_1
                           try clear hcz27_0
                           try clear hcz27_1
                           try clear hcz30_0
                           try clear hcz30_1
                           try clear hcz40_0
                           try clear hcz40_1
                           try clear hfz10_0
                           try clear hfz10_1
                           try clear hfz16_0
                           try clear hfz16_1
                           try clear hfz24_0
                           try clear hfz24_1
                           try clear hfz27_0
                           try clear hfz27_1
                           try clear hfz30_0
                           try clear hfz30_1
                           try clear hfz40_0
                           try clear hfz40_1
                           try clear hx107_0
                           try clear hx108_0
                           try clear hx109_0
                           try clear hx110_0
                           try clear hx116_0
                           try clear hx120_0
                           try clear hx23_0
                           try clear p1
                           try clear p10
                           try clear p107
                           try clear p108
                           try clear p109
                           try clear p11
                           try clear p110
                           try clear p116
                           try clear p120
                           try clear p2
                           try clear p23
                           try clear p6
                           try clear q1
                           try clear q10
                           try clear q107
                           try clear q108
                           try clear q109
                           try clear q11
                           try clear q110
                           try clear q116
                           try clear q120
                           try clear q2
                           try clear q23
                           obtain ⟨x13_5, x16_5, rfl, HA, HK5, HO_13, HO_71, BK106, HB⟩ := hrel
                           cases gk with
                           | zero => exact absurd HA.out (by simp [spec_slMade.l2])
                           | succ k5 =>
                            have H := HA.out
                            clear HA
                            simp only [spec_slMade.l2] at H
                            by_cases c47 : x16_5 < 10
                            ·rw [if_pos c47] at H
                             have c47b0 : decide (x16_5 < 10) = true := decide_eq_true c47
                             clear c47
                             obtain ⟨bq48, hbq48⟩ : ∃ b_ : Bool, b_ = (rdOf false x10_2 x73_4) := ⟨_, rfl⟩
                             replace H : (if (bq48) = true then (if a0_1 = 0 then (none) else (if 0 ≤ (Int.tmod (wrap64 (x73_4 + (wrap64 ((rd l0_0 x51_2) * x16_5)))) a0_1) then (if (Int.tmod (wrap64 (x73_4 + (wrap64 ((rd l0_0 x51_2) * x16_5)))) a0_1) < (x13_5.length : Int) then (spec_slMade.l2 k5 a1 a3 (rd l0_0 x51_2) (x13_5.set ((Int.tmod (wrap64 (x73_4 + (wrap64 ((rd l0_0 x51_2) * x16_5)))) a0_1) : Int).toNat true) x73_4 (bq48) (wrap64 (x16_5 + 1)) l0_0 (l0_0.length : Int) x51_2 x10_2 (x10_2.length : Int) x73_4 l0_0 a0_1) else (none)) else (none))) else (spec_slMade.l1 k5 a1 a3 (rd l0_0 x51_2) x13_5 l0_0 (l0_0.length : Int) x51_2 x10_2 (x10_2.length : Int) (wrap64 (x73_4 + 1)) l0_0 a0_1)) = some r := by rw [← hbq48] at H; exact H
                             have Nbq48 := Aside0.mk hbq48
                             clear hbq48
                             by_cases c49 : (bq48) = true
                             ·rw [if_pos c49] at H
                              have c49b0 : (bq48) = true := c49
                              have c49q0 := Nbq48.out.symm.trans c49b0
                              clear c49
                              by_cases c50 : a0_1 = 0
                              ·rw [if_pos c50] at H
                               exact absurd H (by simp)
                              ·rw [if_neg c50] at H
                               have c50b0 : (a0_1 == 0) = false := beq_eq_false_iff_ne.mpr c50
                               have c50b1 : (a0_1 != 0) = true := bne_iff_ne.mpr c50
                               obtain ⟨ji51, hji51⟩ : ∃ j_ : Int, (Int.tmod (wrap64 (x73_4 + (wrap64 ((rd l0_0 x51_2) * x16_5)))) a0_1) = j_ := ⟨_, rfl⟩
                               replace H : (if 0 ≤ (ji51) then (if (ji51) < (x13_5.length : Int) then (spec_slMade.l2 k5 a1 a3 (rd l0_0 x51_2) (x13_5.set ((ji51) : Int).toNat true) x73_4 (bq48) (wrap64 (x16_5 + 1)) l0_0 (l0_0.length : Int) x51_2 x10_2 (x10_2.length : Int) x73_4 l0_0 a0_1) else (none)) else (none)) = some r := by first | (rw [hji51] at H; exact H) | (simp only [hji51] at H ⊢; exact H)
                               by_cases c52 : 0 ≤ (ji51)
                               ·rw [if_pos c52] at H
                                have c52b0 : decide (0 ≤ (ji51)) = true := decide_eq_true c52
                                clear c52
                                by_cases c53 : (ji51) < (x13_5.length : Int)
                                ·rw [if_pos c53] at H
                                 have c53b0 : decide ((ji51) < (x13_5.length : Int)) = true := decide_eq_true c53
                                 clear c53
                                 obtain ⟨y121, hy121⟩ : ∃ y_ : List Bool, y_ = (x13_5.set ((ji51) : Int).toNat true) := ⟨_, rfl⟩
                                 replace H : (spec_slMade.l2 k5 a1 a3 (rd l0_0 x51_2) y121 x73_4 (bq48) (wrap64 (x16_5 + 1)) l0_0 (l0_0.length : Int) x51_2 x10_2 (x10_2.length : Int) x73_4 l0_0 a0_1) = some r := by first | (rw [hy121]; with_reducible exact H) | (have H2_ := (Option.bind_some _ _).symm.trans H; rw [hy121]; with_reducible exact H2_) | (have H2_ := (Option.bind_some _ _).symm.trans H; with_reducible exact H2_) | with_reducible exact H | (rw [hy121]; exact H) | exact H
                                 have Ny121 := Aside0.mk hy121
                                 clear hy121
                                 (try rw [Nbq48.out] at H)
                                 have H' := Aside0.mk H
                                 clear H
                                 have hcz55_0 : wr.cell? ⟨gb106, 0, none⟩ = some (.slice (some ad107) l0_0.length c0_0) := (blk_cell BK106.out 0).trans rfl
                                 have hcz55_1 : wr.cell? ⟨gb106, 1, none⟩ = some (.int .i64 a0_1) := (blk_cell BK106.out 1).trans rfl
                                 have hfz55_0 := blk_frozen BK106.out 0
                                 have hfz55_1 := blk_frozen BK106.out 1
                                 have p54 : 0 ≤ ((ji51) : Int) := of_decide_eq_true (by first | (with_reducible assumption) | assumption)
                                 have q54 : ((ji51) : Int) < ((x13_5.length : Int) : Int) := of_decide_eq_true (by first | (with_reducible assumption) | assumption)
                                 obtain ⟨go54, co54, eo54, gb54, gl54, cl54, HG54⟩ := Kd.R_form HO_13.out (by omega)
                                 (first | cases eo54 | (injection eo54 with ea_ en_ ec_; (first | subst ea_ | (injection ea_ with ea_; subst ea_)); subst ec_; clear en_))
                                 have GB54 := Aside0.mk gb54
                                 have GG54 := Aside0.mk HG54
                                 clear gb54 gl54 HG54
                                 obtain ⟨hx54_0, hf54_0⟩ := Kd.R_celln false HO_13.out ((ji51) : Int) p54 q54
                                 replace p54 := eq_true p54
                                 replace q54 := eq_true q54
                                 have HP56 := Kd.R_putg HO_13.out ((ji51) : Int) true
                                 go_wp2_with (first | ((with_reducible refine gate_store (t := 4) (p := 94) rfl ?_); (try (rw [drewN_self wr]; generalize hq_ : World.drewN wr _ = wr; have n0_ := Aside0.mk (Kd.R_at hq_ HO_13.out); have n1_ := Aside0.mk (Kd.R_at hq_ HO_71.out); have n2_ := Aside0.mk (blk_at hq_ BK106.out); have n3_ := Aside0.mk (below_at hq_ HB.out); clear hq_ HO_13 HO_71 BK106 HB; have HO_13 := n0_; have HO_71 := n1_; have BK106 := n2_; have HB := n3_; clear n0_ n1_ n2_ n3_; (try (have HP56 := Kd.R_putg HO_13.out ((ji51) : Int) true)))); refine store_event (t := 4) (p := 94) (v := ?vo_w57) (w1 := (wr.setCell ⟨go54, ((ji51) : Int).toNat, none⟩ (.bool true))) ?hg ?ho ?hn ?hr ?_; (case ho => rfl); (case hg => rfl); (case hn => rfl); (case hr => first | (go_simp; done) | (go_simp; rfl)); intro w57 hw; have hg : wr.grownBy w57 (some go54) := (by rw [hw]; exact HP56.2); have hp_ : Kd.R Kd.bool 4 w57 w.heap.size (fun k_ => some k_ ≠ (.slice (some ad120) x10_2.length co43 : Value).ownBlock) (.slice (some ⟨go54, 0, none⟩) x13_5.length co54) y121 := (by rw [hw, Ny121.out]; exact HP56.1); clear HP56; have n0_ := Aside0.mk (hp_); have n1_ := Aside0.mk (Kd.R_after (v := (.slice (some ⟨go54, 0, none⟩) x13_5.length co54)) (v1 := (.slice (some ⟨go54, 0, none⟩) x13_5.length co54)) (ok := (fun _ => True)) (by (with_reducible repeat first | apply ra_ | apply rn_ | apply rw_); exact Kd.R_mono HO_71.out (fun _ hk => ⟨trivial, hk⟩)) hg (.inl rfl)); have n2_ := Aside0.mk (blk_grown (g := gb106) (o := .cells #[.slice (some ad107) l0_0.length c0_0, .int .i64 a0_1] 31 (0, 0)) (by (with_reducible repeat (first | refine blk_drewN ?_ _ | refine blk_drew ?_ | refine blk_alloc ?_ _)); exact BK106.out) hg (Kd.R_ne HO_13.out BK106.out (by decide))); have n3_ := Aside0.mk ((by rw [hw]; exact below_set (HB.out) GB54.out : Below w.heap.size w w57)); clear HO_13; clear HO_71; clear BK106; clear HB; have HO_13 := n0_; have HO_71 := n1_; have BK106 := n2_; have HB := n3_; clear n0_ n1_ n2_ n3_; clear hg hw hp_))
                                 repeat (go_quiet (first | ((with_reducible refine gate_store (t := 4) (p := 94) rfl ?_); (try (rw [drewN_self wr]; generalize hq_ : World.drewN wr _ = wr; have n0_ := Aside0.mk (Kd.R_at hq_ HO_13.out); have n1_ := Aside0.mk (Kd.R_at hq_ HO_71.out); have n2_ := Aside0.mk (blk_at hq_ BK106.out); have n3_ := Aside0.mk (below_at hq_ HB.out); clear hq_ HO_13 HO_71 BK106 HB; have HO_13 := n0_; have HO_71 := n1_; have BK106 := n2_; have HB := n3_; clear n0_ n1_ n2_ n3_; (try (have HP56 := Kd.R_putg HO_13.out ((ji51) : Int) true)))); refine store_event (t := 4) (p := 94) (v := ?vo_w57) (w1 := (wr.setCell ⟨go54, ((ji51) : Int).toNat, none⟩ (.bool true))) ?hg ?ho ?hn ?hr ?_; (case ho => rfl); (case hg => rfl); (case hn => rfl); (case hr => first | (go_simp; done) | (go_simp; rfl)); intro w57 hw; have hg : wr.grownBy w57 (some go54) := (by rw [hw]; exact HP56.2); have hp_ : Kd.R Kd.bool 4 w57 w.heap.size (fun k_ => some k_ ≠ (.slice (some ad120) x10_2.length co43 : Value).ownBlock) (.slice (some ⟨go54, 0, none⟩) x13_5.length co54) y121 := (by rw [hw, Ny121.out]; exact HP56.1); clear HP56; have n0_ := Aside0.mk (hp_); have n1_ := Aside0.mk (Kd.R_after (v := (.slice (some ⟨go54, 0, none⟩) x13_5.length co54)) (v1 := (.slice (some ⟨go54, 0, none⟩) x13_5.length co54)) (ok := (fun _ => True)) (by (with_reducible repeat first | apply ra_ | apply rn_ | apply rw_); exact Kd.R_mono HO_71.out (fun _ hk => ⟨trivial, hk⟩)) hg (.inl rfl)); have n2_ := Aside0.mk (blk_grown (g := gb106) (o := .cells #[.slice (some ad107) l0_0.length c0_0, .int .i64 a0_1] 31 (0, 0)) (by (with_reducible repeat (first | refine blk_drewN ?_ _ | refine blk_drew ?_ | refine blk_alloc ?_ _)); exact BK106.out) hg (Kd.R_ne HO_13.out BK106.out (by decide))); have n3_ := Aside0.mk ((by rw [hw]; exact below_set (HB.out) GB54.out : Below w.heap.size w w57)); clear HO_13; clear HO_71; clear BK106; clear HB; have HO_13 := n0_; have HO_71 := n1_; have BK106 := n2_; have HB := n3_; clear n0_ n1_ n2_ n3_; clear hg hw hp_)); try go_wp2_with (first | ((with_reducible refine gate_store (t := 4) (p := 94) rfl ?_); (try (rw [drewN_self wr]; generalize hq_ : World.drewN wr _ = wr; have n0_ := Aside0.mk (Kd.R_at hq_ HO_13.out); have n1_ := Aside0.mk (Kd.R_at hq_ HO_71.out); have n2_ := Aside0.mk (blk_at hq_ BK106.out); have n3_ := Aside0.mk (below_at hq_ HB.out); clear hq_ HO_13 HO_71 BK106 HB; have HO_13 := n0_; have HO_71 := n1_; have BK106 := n2_; have HB := n3_; clear n0_ n1_ n2_ n3_; (try (have HP56 := Kd.R_putg HO_13.out ((ji51) : Int) true)))); refine store_event (t := 4) (p := 94) (v := ?vo_w57) (w1 := (wr.setCell ⟨go54, ((ji51) : Int).toNat, none⟩ (.bool true))) ?hg ?ho ?hn ?hr ?_; (case ho => rfl); (case hg => rfl); (case hn => rfl); (case hr => first | (go_simp; done) | (go_simp; rfl)); intro w57 hw; have hg : wr.grownBy w57 (some go54) := (by rw [hw]; exact HP56.2); have hp_ : Kd.R Kd.bool 4 w57 w.heap.size (fun k_ => some k_ ≠ (.slice (some ad120) x10_2.length co43 : Value).ownBlock) (.slice (some ⟨go54, 0, none⟩) x13_5.length co54) y121 := (by rw [hw, Ny121.out]; exact HP56.1); clear HP56; have n0_ := Aside0.mk (hp_); have n1_ := Aside0.mk (Kd.R_after (v := (.slice (some ⟨go54, 0, none⟩) x13_5.length co54)) (v1 := (.slice (some ⟨go54, 0, none⟩) x13_5.length co54)) (ok := (fun _ => True)) (by (with_reducible repeat first | apply ra_ | apply rn_ | apply rw_); exact Kd.R_mono HO_71.out (fun _ hk => ⟨trivial, hk⟩)) hg (.inl rfl)); have n2_ := Aside0.mk (blk_grown (g := gb106) (o := .cells #[.slice (some ad107) l0_0.length c0_0, .int .i64 a0_1] 31 (0, 0)) (by (with_reducible repeat (first | refine blk_drewN ?_ _ | refine blk_drew ?_ | refine blk_alloc ?_ _)); exact BK106.out) hg (Kd.R_ne HO_13.out BK106.out (by decide))); have n3_ := Aside0.mk ((by rw [hw]; exact below_set (HB.out) GB54.out : Below w.heap.size w w57)); clear HO_13; clear HO_71; clear BK106; clear HB; have HO_13 := n0_; have HO_71 := n1_; have BK106 := n2_; have HB := n3_; clear n0_ n1_ n2_ n3_; clear hg hw hp_)))
                                 go_roundg k5
                                 case measure => have := HJ7.out; have := HK2.out; have := HJ33.out; have := HK4.out; have := HK5.out; omega
                                 case rel => exact ⟨(y121), (wrap64 (x16_5 + 1)), (by first | rfl | (simp; done) | (simp [*]; done)), H', ⟨by have := HJ7.out; have := HK2.out; have := HJ33.out; have := HK4.out; have := HK5.out; omega⟩, ⟨by (with_reducible repeat first | apply ra_ | apply rn_ | apply rw_); exact HO_13.out⟩, ⟨by (with_reducible repeat first | apply ra_ | apply rn_ | apply rw_); exact Kd.R_mono HO_71.out (fun _ hk => hk.2)⟩, ⟨by (with_reducible repeat (first | refine blk_drewN ?_ _ | refine blk_drew ?_ | refine blk_alloc ?_ _)); exact BK106.out⟩, ⟨by repeat (first | (with_reducible first | exact HB.out | apply below_alloc | apply pw_below_drewN | apply below_drew1 | refine below_set ?_ GE106.out) | exact HB.out)⟩⟩
                                ·rw [if_neg c53] at H
                                 exact absurd H (by simp)
                               ·rw [if_neg c52] at H
                                exact absurd H (by simp)
                             ·rw [if_neg c49] at H
                              have c49b0 : (bq48) = false := by simpa using c49
                              have c49q0 := Nbq48.out.symm.trans c49b0
                              clear c49
                              (try rw [Nbq48.out] at H)
                              have H' := Aside0.mk H
                              clear H
                              go_wp2
                              repeat (go_quiet (fail); try go_wp2)
                              go_roundg k5
                              case measure => have := HJ7.out; have := HK2.out; have := HJ33.out; have := HK4.out; have := HK5.out; omega
                              case rel => exact ⟨(x13_5), (wrap64 (x73_4 + 1)), (by first | rfl | (simp; done) | (simp [*]; done)), H', ⟨by have := HJ7.out; have := HK2.out; have := HJ33.out; have := HK4.out; have := HK5.out; omega⟩, ⟨by (with_reducible repeat first | apply ra_ | apply rn_ | apply rw_); exact HO_13.out⟩, ⟨by (with_reducible repeat first | apply ra_ | apply rn_ | apply rw_); exact HO_71.out⟩, ⟨by (with_reducible repeat (first | refine blk_drewN ?_ _ | refine blk_drew ?_ | refine blk_alloc ?_ _)); exact BK106.out⟩, ⟨by repeat (first | (with_reducible first | exact HB.out | apply below_alloc | apply pw_below_drewN | apply below_drew1 | refine below_set ?_ GE106.out) | exact HB.out)⟩⟩
                            ·rw [if_neg c47] at H
                             have c47b0 : decide (x16_5 < 10) = false := decide_eq_false c47
                             clear c47
                             (try rw [Nbq48.out] at H)
                             have H' := Aside0.mk H
                             clear H
                             go_wp2
                             repeat (go_quiet (fail); try go_wp2)
                             go_roundg k5
                             case measure => have := HJ7.out; have := HK2.out; have := HJ33.out; have := HK4.out; have := HK5.out; omega
                             case rel => exact ⟨(x13_5), (wrap64 (x73_4 + 1)), (by first | rfl | (simp; done) | (simp [*]; done)), H', ⟨by have := HJ7.out; have := HK2.out; have := HJ33.out; have := HK4.out; have := HK5.out; omega⟩, ⟨by (with_reducible repeat first | apply ra_ | apply rn_ | apply rw_); exact HO_13.out⟩, ⟨by (with_reducible repeat first | apply ra_ | apply rn_ | apply rw_); exact HO_71.out⟩, ⟨by (with_reducible repeat (first | refine blk_drewN ?_ _ | refine blk_drew ?_ | refine blk_alloc ?_ _)); exact BK106.out⟩, ⟨by repeat (first | (with_reducible first | exact HB.out | apply below_alloc | apply pw_below_drewN | apply below_drew1 | refine below_set ?_ GE106.out) | exact HB.out)⟩⟩
                         ·rw [if_neg c46] at H
                          exact absurd H (by simp)
                        ·rw [if_neg c45] at H
                         exact absurd H (by simp)
                       ·rw [if_neg c44] at H
                        have c44b0 : decide (x73_4 < (x10_2.length : Int)) = false := decide_eq_false c44
                        clear c44
                        (try rw [Nbq48.out] at H)
                        have H' := Aside0.mk H
                        clear H
                        go_wp2
                        repeat (go_quiet (fail); try go_wp2)
                        go_roundg k4
                        case measure => have := HJ7.out; have := HK2.out; have := HJ33.out; have := HK4.out; omega
                        case rel => exact ⟨(x13_4), (wrap64 (x51_2 + 1)), (by first | rfl | (simp; done) | (simp [*]; done)), H', ⟨by have := HJ7.out; have := HK2.out; have := HJ33.out; have := HK4.out; omega⟩, ⟨by (with_reducible repeat first | apply ra_ | apply rn_ | apply rw_); exact Kd.R_mono HO_13.out (fun _ hk => trivial)⟩, ⟨by (with_reducible repeat (first | refine blk_drewN ?_ _ | refine blk_drew ?_ | refine blk_alloc ?_ _)); exact BK106.out⟩, ⟨by repeat (first | (with_reducible first | exact HB.out | apply below_alloc | apply pw_below_drewN | apply below_drew1 | refine below_set ?_ GE106.out) | exact HB.out)⟩⟩
                    ·rw [if_neg c39] at H
                     exact absurd H (by simp)
                   ·rw [if_neg c38] at H
                    exact absurd H (by simp)
               ·rw [if_neg c33] at H
                exact absurd H (by simp)
              ·rw [if_neg c32] at H
               exact absurd H (by simp)
             ·rw [if_neg c31] at H
              have c31b0 : decide (x51_2 < (l0_0.length : Int)) = false := decide_eq_false c31
              clear c31
              by_cases c58 : 0 < (x10_2.length : Int)
              ·rw [if_pos c58] at H
               have c58b0 : decide (0 < (x10_2.length : Int)) = true := decide_eq_true c58
               have c58b1 : decide (0 < x10_2.length) = true := decide_eq_true (by omega)
               clear c58
               obtain rfl := Option.some.inj H
               obtain ⟨Ao59, co59, eo59⟩ := Kd.R_slice HO_10.out
               subst eo59
               have p115 : 0 ≤ (0 : Int) := (by omega)
               have q115 : 0 < (x10_2.length : Int) := of_decide_eq_true (by first | (with_reducible assumption) | assumption)
               obtain ⟨ad115, e115, hx115_0⟩ := Kd.at_bool (Kd.R_reads' HO_10.out).2.2 0 p115 q115
               cases e115
               have qi115 : (0 < x10_2.length) = True := eq_true (by omega)
               (try rw [show ((0 : Int)).toNat = 0 from rfl] at hx115_0)
               (try rw [Addr.add_zero'] at hx115_0)
               replace p115 := eq_true p115
               replace q115 := eq_true q115
               go_wp2
               repeat (go_quiet (fail); try go_wp2)
               go_ret
               exact ⟨by first | rfl | (simp [errW_none, errW_some] <;> rfl) | (simp only [← hji20]; first | rfl | (simp [errW_none, errW_some] <;> rfl)) | (simp [*, errW_none, errW_some] <;> rfl), by repeat (first | (with_reducible first | exact HB.out | apply below_alloc | apply pw_below_drewN | apply below_drew1 | refine below_set ?_ GE106.out) | exact HB.out)⟩
              ·rw [if_neg c58] at H
               exact absurd H (by simp)
          ·rw [if_neg c22] at H
           exact absurd H (by simp)
         ·rw [if_neg c21] at H
          exact absurd H (by simp)
       ·rw [if_neg c18] at H
        exact absurd H (by simp)
      ·rw [if_neg c17] at H
       exact absurd H (by simp)
   ·rw [if_neg c7] at H
    exact absurd H (by simp)
  ·rw [if_neg c6] at H
   exact absurd H (by simp)
 ·rw [if_neg c5] at H
  exact absurd H (by simp)

end Go.Proofs.Ytkbbmkbkpkmdkac.QFnExactBestWeights
