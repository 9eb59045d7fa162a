/- What the functions that the law reaches do, each told as a plain Lean function, and proved. No condition beyond each theorem's own. Told by a program of this session out of the translation's own print. -/
import Derived.Test.YtkbbmkbkpkmdkacQFnExactBestWeightsx0
import Derived.Test.YtkbbmkbkpkmdkacQFnExactBestWeightsx1
import Derived.Test.YtkbbmkbkpkmdkacQFnExactBestWeightsx3
namespace Go.Proofs.Ytkbbmkbkpkmdkac.QFnExactBestWeights
open Go.RowKit Go.Proofs.YtkbbmkbkpkmdkacW.PrintWords Go.Proofs.YtkbbmkbkpkmdkacW.PrintLast Go.Proofs.YtkbbmkbkpkmdkacW.PrintMore Go.Proofs.Ytkbbmkbkpkmdkac.Ext
open List renaming setIfInBounds_toArray → sa_, set_cons_zero → sz_, set_cons_succ → ss_
open Go.Proofs.YtkbbmkbkpkmdkacW.PrintWords.Kd renaming R_alloc → ra_, R_drewN → rn_, R_drew → rw_
attribute [local go_sem] max2_int min2_int max_two min_two max_three min_three max_four min_four   -- for this text's walks alone
set_option linter.unusedVariables false
set_option linter.unusedSimpArgs false

/-! ### spec_slBest: function 10 -/
mutual
def spec_slBest.l0 : Nat → Int → Int → List Int → Int → Option (List Int × Bool)
 | 0, _, _, _, _ => none
 | k + 1, x0, x6, x159000, x159001 => if x6 < x159001 then ((spec_slPair.f k x159000 x159001 x6).bind fun bt165 => (if bt165.2 = true then (spec_slBest.j1 k x0 x6 true x159000 x159001) else (if (x159000.length : Int) > 0 then (if 0 ≤ (wrap64 ((x159000.length : Int) - 1)) then (if (wrap64 ((x159000.length : Int) - 1)) < (x159000.length : Int) then (spec_slBest.j1 k x0 x6 ((rd x159000 (wrap64 ((x159000.length : Int) - 1))) == x6) x159000 x159001) else (none)) else (none)) else (spec_slBest.j1 k x0 x6 false x159000 x159001)))) else (some (([] : List Int), false))
def spec_slBest.j1 : Nat → Int → Int → Bool → List Int → Int → Option (List Int × Bool)
 | 0, _, _, _, _, _ => none
 | k + 1, x0, x6, x56, x159000, x159001 => if x56 = true then (spec_slBest.l0 k x0 (wrap64 (x6 + 1)) x159000 x159001) else ((spec_l1Own.f x159000).bind fun t170 => ((some (([x6] : List Int) : List Int)).bind fun y173 => (if t170.length + y173.length < 17592186044416 then ((spec_slBest.f k (wrap64 (x0 - 1)) (t170 ++ y173) x159001).bind fun bt180 => (if bt180.2 = true then (some (bt180.1, true)) else (spec_slBest.l0 k x0 (wrap64 (x6 + 1)) x159000 x159001))) else (none))))
def spec_slBest.f : Nat → Int → List Int → Int → Option (List Int × Bool)
 | 0, _, _, _ => none
 | k + 1, a0, l1_0, a1_1 => if a0 = 0 then ((spec_slList.f k l1_0 a1_1 false).bind fun t159 => (if (t159.length : Int) = 0 then ((spec_slList.f k l1_0 a1_1 true).bind fun t162 => (some (l1_0, ((t162.length : Int) == 0)))) else (some (l1_0, false)))) else (spec_slBest.l0 k a0 0 l1_0 a1_1)
end
theorem spec_slBest.mono_l : ∀ k, (∀ y0 y1 y2, LeO (spec_slBest.f k y0 y1 y2) (spec_slBest.f (k + 1) y0 y1 y2)) ∧ (∀ y0 y1 y2 y3, LeO (spec_slBest.l0 k y0 y1 y2 y3) (spec_slBest.l0 (k + 1) y0 y1 y2 y3)) ∧ (∀ y0 y1 y2 y3 y4, LeO (spec_slBest.j1 k y0 y1 y2 y3 y4) (spec_slBest.j1 (k + 1) y0 y1 y2 y3 y4))
 | 0 => ⟨fun _ _ _ r h => by simp [spec_slBest.f] at h, fun _ _ _ _ r h => by simp [spec_slBest.l0] at h, fun _ _ _ _ _ r h => by simp [spec_slBest.j1] at h⟩
 | k + 1 => by
  obtain ⟨ih0, ih1, ih2⟩ := spec_slBest.mono_l k
  refine ⟨?_, ?_, ?_⟩
  ·intro y0 y1 y2
   unfold spec_slBest.f
   repeat' first
   | (with_reducible exact ih0 _ _ _)
   | (with_reducible exact ih1 _ _ _ _)
   | (with_reducible exact ih2 _ _ _ _ _)
   | (with_reducible exact spec_slList.mono _ _ _ _)
   | (with_reducible exact spec_slPair.mono _ _ _ _)
   | (with_reducible exact LeO.refl _)
   | (with_reducible exact LeO.none _)
   | (with_reducible refine LeO.ite ?_ ?_)
   | (with_reducible refine LeO.bind ?_ (fun _ => ?_))
   | exact ih0 _ _ _
   | exact ih1 _ _ _ _
   | exact ih2 _ _ _ _ _
   | exact spec_slList.mono _ _ _ _
   | exact spec_slPair.mono _ _ _ _
   | exact LeO.none _
   | refine LeO.ite ?_ ?_
   | refine LeO.bind ?_ (fun _ => ?_)
  ·intro y0 y1 y2 y3
   unfold spec_slBest.l0
   repeat' first
   | (with_reducible exact ih0 _ _ _)
   | (with_reducible exact ih1 _ _ _ _)
   | (with_reducible exact ih2 _ _ _ _ _)
   | (with_reducible exact spec_slList.mono _ _ _ _)
   | (with_reducible exact spec_slPair.mono _ _ _ _)
   | (with_reducible exact LeO.refl _)
   | (with_reducible exact LeO.none _)
   | (with_reducible refine LeO.ite ?_ ?_)
   | (with_reducible refine LeO.bind ?_ (fun _ => ?_))
   | exact ih0 _ _ _
   | exact ih1 _ _ _ _
   | exact ih2 _ _ _ _ _
   | exact spec_slList.mono _ _ _ _
   | exact spec_slPair.mono _ _ _ _
   | exact LeO.none _
   | refine LeO.ite ?_ ?_
   | refine LeO.bind ?_ (fun _ => ?_)
  ·intro y0 y1 y2 y3 y4
   unfold spec_slBest.j1
   repeat' first
   | (with_reducible exact ih0 _ _ _)
   | (with_reducible exact ih1 _ _ _ _)
   | (with_reducible exact ih2 _ _ _ _ _)
   | (with_reducible exact spec_slList.mono _ _ _ _)
   | (with_reducible exact spec_slPair.mono _ _ _ _)
   | (with_reducible exact LeO.refl _)
   | (with_reducible exact LeO.none _)
   | (with_reducible refine LeO.ite ?_ ?_)
   | (with_reducible refine LeO.bind ?_ (fun _ => ?_))
   | exact ih0 _ _ _
   | exact ih1 _ _ _ _
   | exact ih2 _ _ _ _ _
   | exact spec_slList.mono _ _ _ _
   | exact spec_slPair.mono _ _ _ _
   | exact LeO.none _
   | refine LeO.ite ?_ ?_
   | refine LeO.bind ?_ (fun _ => ?_)
theorem spec_slBest.mono : ∀ a0 a1 a2 k, LeO (spec_slBest.f k a0 a1 a2) (spec_slBest.f (k + 1) a0 a1 a2) := by
 intro a0 a1 a2 k
 obtain ⟨ih0, ih1, ih2⟩ := spec_slBest.mono_l k
 exact ih0 a0 a1 a2
def spec_slBest.T2 : Bool × List (List Nat × List Nat) := (true, [([], []), ([0], [0]), ([], []), ([2], [2]), ([3], [3]), ([4], [4]), ([5, 3], [5]), ([6], [6]), ([7, 6, 6], [6, 7]), ([8, 6], [6, 8]), ([9, 6], [6, 9]), ([6, 10], [6, 10]), ([1, 8, 0, 1], [1]), ([11, 12, 0, 1, 2, 3, 4, 5, 6, 7, 8, 9, 10, 11, 12], [11])])
def spec_slBest.B2 : List Nat := [0, 1, 0, 4, 12, 28, 60, 124, 252, 508, 1020, 2044, 511, 8191]
theorem spec_slBest.tab2 : rtab .any (opsOf Try.f10 2) = spec_slBest.T2 := by kernel_rfl
theorem spec_slBest.bits2 : waitsOk spec_slBest.T2.2 spec_slBest.B2 = true := by kernel_rfl
def spec_slBest.T8 : Bool × List (List Nat × List Nat) := (true, [([], []), ([0], [0]), ([1], [1]), ([], []), ([3], [3]), ([2, 4, 2], [2, 4]), ([], []), ([6], [6]), ([5, 7], [5, 7]), ([], []), ([9, 8, 5, 0, 1, 2, 3, 4, 5, 6, 7, 8, 9], [8, 9])])
def spec_slBest.B8 : List Nat := [0, 1, 3, 0, 8, 31, 0, 64, 255, 0, 1023]
theorem spec_slBest.tab8 : rtab .any (opsOf Try.f10 8) = spec_slBest.T8 := by kernel_rfl
theorem spec_slBest.bits8 : waitsOk spec_slBest.T8.2 spec_slBest.B8 = true := by kernel_rfl
set_option maxHeartbeats 8000000 in
set_option maxRecDepth 100000 in
theorem spec_slBest.calls (k : Nat) : ∀ (a0 : Int) (P1_0_ : Nat → Prop) (u9000_ : Value) (l1_0 : List Int) (a1_1 : Int) (r1 : List Int) (r2 : Bool) (w0 w : World) (hB : Below w0.heap.size w0 w) (ho1_0 : Kd.R (Kd.int .i64) 3 w w0.heap.size P1_0_ u9000_ l1_0) (h : spec_slBest.f k a0 l1_0 a1_1 = some (r1, r2)),
  Calls Try.prog 10 #[.int .i64 a0, .agg #[u9000_, .int .i64 a1_1]] w fun e w' => ∃ v0_ : Value, e = .returned (.tuple #[v0_, .bool r2]) ∧ Kd.R (Kd.int .i64) 3 w' w0.heap.size (fun k_ => (P1_0_ k_ ∨ w.heap.size ≤ k_)) v0_ r1 ∧ Below w0.heap.size w0 w' ∧ Kept w w' (fun k_ => P1_0_ k_) := by
 induction k using Nat.strongRecOn with
 | _ k ih =>
 intro a0 P1_0_ u9000_ l1_0 a1_1 r1 r2 w0 w hB ho1_0 h
 cases k with
 | zero => exact absurd h (by simp [spec_slBest.f])
 | succ k =>
 simp only [spec_slBest.f] at h
 have hu31 := Try.underlying31
 have HO1_0 := Aside0.mk (show Kd.R (Kd.int .i64) 3 w w0.heap.size (fun k_ => (P1_0_ k_ ∨ w.heap.size ≤ k_)) u9000_ l1_0 from Kd.R_mono ho1_0 (fun k_ hk => (.inl hk)))
 have HK := Aside0.mk (Kept.refl w (fun k_ => P1_0_ k_))
 have HW0 := Aside0.mk hB.size
 have HB := Aside0.mk hB
 clear hB
 have H : (if a0 = 0 then ((spec_slList.f k l1_0 a1_1 false).bind fun t159 => (if (t159.length : Int) = 0 then ((spec_slList.f k l1_0 a1_1 true).bind fun t162 => (some (l1_0, ((t162.length : Int) == 0)))) else (some (l1_0, false)))) else (spec_slBest.l0 k a0 0 l1_0 a1_1)) = some (r1, r2) := h
 clear h
 by_cases c3 : a0 = 0
 ·rw [if_pos c3] at H
  have c3b0 : (a0 == 0) = true := beq_iff_eq.mpr c3
  have c3b1 : (a0 != 0) = false := bne_eq_false_iff_eq.mpr c3
  clear c3
  replace H := Option.bind_eq_some_iff.mp H
  obtain ⟨t159, A40, H⟩ := H
  replace H : (if (t159.length : Int) = 0 then ((spec_slList.f k l1_0 a1_1 true).bind fun t162 => (some (l1_0, ((t162.length : Int) == 0)))) else (some (l1_0, false))) = some (r1, r2) := H
  have A4 := Aside0.mk A40
  clear A40
  by_cases c5 : (t159.length : Int) = 0
  ·rw [if_pos c5] at H
   have c5b0 : ((t159.length : Int) == 0) = true := beq_iff_eq.mpr c5
   have c5b1 : ((t159.length : Int) != 0) = false := bne_eq_false_iff_eq.mpr c5
   clear c5
   replace H := Option.bind_eq_some_iff.mp H
   obtain ⟨t162, A60, H⟩ := H
   replace H : (some (l1_0, ((t162.length : Int) == 0))) = some (r1, r2) := H
   have A6 := Aside0.mk A60
   clear A60
   simp only [Option.some.injEq, Prod.mk.injEq] at H
   obtain ⟨rfl, rfl⟩ := H
   obtain ⟨Ao7, co7, eo7⟩ := Kd.R_slice HO1_0.out
   subst eo7
   go_enter Try.func10, Try.ntmps10
   try go_wp2_with (first | ((with_reducible refine gate_dst (N := 3) rfl ?_); (try (refine gate_guard (by rfl) ?_; dsimp only)); refine box_event ?hg (N := 3) ?hd (cs := #[.slice Ao7 l1_0.length co7, .int .i64 a1_1]) (t := 31) ?hr ?_; (case hd => rfl); (case hg => rfl); (case hr => first | (go_simp; done) | (go_simp; rfl)); intro gb158 hg w8 hbox hb; have n0_ := Aside0.mk (Kd.R_below (by (with_reducible repeat first | apply ra_ | apply rn_ | apply rw_); exact HO1_0.out) hb); have n1_ := Aside0.mk (Kept.below (S := (fun k_ => P1_0_ k_)) (by repeat (first | (with_reducible first | exact HK.out | apply Kept.alloc | apply Kept.drewN | apply Kept.drew) | exact HK.out)) hb); have n2_ := Aside0.mk (below_step (by repeat (first | (with_reducible first | exact HB.out | apply below_alloc | apply pw_below_drewN | apply below_drew1) | exact HB.out)) hb); have n3_ := Aside0.mk (hbox); have n4_ := Aside0.mk ((by rw [hg]; exact (by first | exact HK.out.1 | exact (show Kept w _ (fun k_ => P1_0_ k_) from by repeat (first | (with_reducible first | exact HK.out | apply Kept.alloc | apply Kept.drewN | apply Kept.drew) | exact HK.out)).1) : w.heap.size ≤ gb158)); have n5_ := Aside0.mk ((by rw [hg]; exact (below_size (by repeat (first | (with_reducible first | exact HB.out | apply below_alloc | apply pw_below_drewN | apply below_drew1) | exact HB.out))) : w0.heap.size ≤ gb158)); clear HO1_0; clear HK; clear HB; have HO1_0 := n0_; have HK := n1_; have HB := n2_; have BK158 := n3_; have GW158 := n4_; have GE158 := n5_; clear n0_ n1_ n2_ n3_ n4_ n5_; clear hb hbox hg))
   have n0_ := Aside0.mk (Kd.R_drew HO1_0.out)
   have n1_ := Aside0.mk (blk_drew BK158.out)
   have n2_ := Aside0.mk (Kept.drew HK.out)
   have n3_ := Aside0.mk (below_drew1 HB.out)
   clear HO1_0
   clear BK158
   clear HK
   clear HB
   have HO1_0 := n0_
   have BK158 := n1_
   have HK := n2_
   have HB := n3_
   clear n0_ n1_ n2_ n3_
   refine start_ (n := 14) (S := fun w' => w'.cell? ⟨gb158, 0, none⟩ = some (.slice Ao7 l1_0.length co7) ∧ w'.cell? ⟨gb158, 1, none⟩ = some (.int .i64 a1_1)) (ds := []) #[false, false, false, false, false, false, false, false, false, false, false, false, false, false] (by kernel_rfl) rfl rfl ⟨(blk_cell BK158.out 0).trans rfl, (blk_cell BK158.out 1).trans rfl⟩ (fun hHeld => ?_); refine with_tabW spec_slBest.tab2 spec_slBest.bits2 (fun HT_ HW_ => ?_)
   generalize w8.drew = w9 at HO1_0 BK158 HK HB hHeld ⊢
   refine pure_ (i := 0) (N := some 14) (v := ?_) (a' := ?_) #[true, false, false, false, false, false, false, false, false, false, false, false, false, false] rfl rfl (any_of HT_.out (by kernel_rfl)) (fun _ _ _ h => h) (Or.inl ⟨by rfl, ?_⟩) ?_ ?_
   rotate_left
   ·intro w'
    go_simp
    with_reducible rfl
   rotate_left
   ·simp only [Act.put, sa_, sz_, ss_, i64_w, i32_w]
    rfl
   refine take_ (i := 1) (N := some 15) (v := ?_) (a' := ?_) #[true, true, false, false, false, false, false, false, false, false, false, false, false, false] rfl rfl (take_ofW HT_.out HW_.out (by kernel_rfl)) (fun _ _ _ h => h) (Or.inl ⟨by rfl, ?_⟩) hHeld ?_ ?_
   rotate_left
   ·rintro w' ⟨s0, s1⟩
    go_simp
    with_reducible rfl
   rotate_left
   ·simp only [Act.put, sa_, sz_, ss_, i64_w, i32_w]
    rfl
   refine take_ (i := 2) (N := some 16) (v := ?_) (a' := ?_) #[true, true, true, false, false, false, false, false, false, false, false, false, false, false] rfl rfl (take_ofW HT_.out HW_.out (by kernel_rfl)) (fun _ _ _ h => h) (Or.inl ⟨by rfl, ?_⟩) hHeld ?_ ?_
   rotate_left
   ·rintro w' ⟨s0, s1⟩
    go_simp
    with_reducible rfl
   rotate_left
   ·simp only [Act.put, sa_, sz_, ss_, i64_w, i32_w]
    rfl
   refine one_ (i := 3) (N := some 17) #[true, true, true, true, false, false, false, false, false, false, false, false, false, false] rfl rfl (one_of HT_.out (by kernel_rfl)) (by decide) (fun K hK => ?_)
   refine goes_ Try.func15 (by kernel_rfl) rfl #[.agg #[.slice Ao7 l1_0.length co7, .int .i64 a1_1], .bool false] (by rfl) rfl rfl (by (try simp only [List.map_toArray, List.map_cons, List.map_nil]); first | done | rfl | (simp only [List.length_drop, List.length_take]; rfl)) ?_
   with_reducible refine (spec_slList.calls k _ _ l1_0 a1_1 false t159 _ ?side1 ?side2 A4.out).mono ?_
   (case side1 => repeat (first | exact (Kd.R_reads' HO1_0.out).2.2 | (with_reducible refine Kd.C_alloc ?_ _) | (with_reducible refine Kd.C_drewN ?_ _) | (with_reducible refine Kd.C_drew ?_)))
   (case side2 => exact (Kd.R_reads' HO1_0.out).2.1)
   rintro e w10 ⟨v160, rfl, ho0, hb⟩
   refine ⟨_, rfl, ?_⟩
   have n0_ := Aside0.mk (Kd.R_below (by (with_reducible repeat first | apply ra_ | apply rn_ | apply rw_); exact HO1_0.out) hb)
   have n1_ := Aside0.mk (Kd.S_lower (Kd.S_new' (Kd.S_newM (M := fun k_ => (P1_0_ k_ ∨ w.heap.size ≤ k_)) ho0 (by first | exact HK.out.1 | exact (show Kept w _ (fun k_ => P1_0_ k_) from by repeat (first | (with_reducible first | exact HK.out | apply Kept.alloc | apply Kept.drewN | apply Kept.drew | refine Kept.setCell ?_ (.inr GW158.out) _) | exact HK.out)).1) (fun k_ h_ => .inr h_)) (Kd.R_lt (by (with_reducible repeat first | apply ra_ | apply rn_ | apply rw_); exact HO1_0.out))) (below_size (by repeat (first | (with_reducible first | exact HB.out | apply below_alloc | apply pw_below_drewN | apply below_drew1 | refine below_set ?_ GE158.out) | exact HB.out))))
   have n2_ := Aside0.mk (blk_below (g := gb158) (o := .cells #[.slice Ao7 l1_0.length co7, .int .i64 a1_1] 31 (0, 0)) (by (with_reducible repeat (first | refine blk_drewN ?_ _ | refine blk_drew ?_ | refine blk_alloc ?_ _)); exact BK158.out) hb)
   have n3_ := Aside0.mk (Kept.below (S := (fun k_ => P1_0_ k_)) (by repeat (first | (with_reducible first | exact HK.out | apply Kept.alloc | apply Kept.drewN | apply Kept.drew | refine Kept.setCell ?_ (.inr GW158.out) _) | exact HK.out)) hb)
   have n4_ := Aside0.mk (below_step (by repeat (first | (with_reducible first | exact HB.out | apply below_alloc | apply pw_below_drewN | apply below_drew1 | refine below_set ?_ GE158.out) | exact HB.out)) hb)
   clear HO1_0
   clear BK158
   clear HK
   clear HB
   have HO1_0 := n0_
   have HO161 := n1_
   have BK158 := n2_
   have HK := n3_
   have HB := n4_
   clear n0_ n1_ n2_ n3_ n4_
   (try clear hb)
   (try clear hb2)
   (try clear hk)
   (try clear hi)
   (try clear ho0)
   obtain ⟨Ao11, co11, eo11⟩ := Kd.S_slice HO161.out
   (first | subst eo11 | (injection eo11 with f1_ f2_ f3_; have f4_ := f1_.symm; have f5_ := f3_.symm; clear f1_ f2_ f3_; subst f4_; subst f5_))
   refine hK.out _ _ ⟨(blk_cell BK158.out 0).trans rfl, (blk_cell BK158.out 1).trans rfl⟩ (fun hHeld => ?_)
   clear hK K
   refine norm_ (a' := ?_) ?_ ?_
   rotate_left
   ·show Act.put _ (some 17) _ = _
    simp only [Act.put, sa_, sz_, ss_, i64_w, i32_w]
    rfl
   refine pure_ (i := 4) (N := some 18) (v := ?_) (a' := ?_) #[true, true, true, true, true, false, false, false, false, false, false, false, false, false] rfl rfl (any_of HT_.out (by kernel_rfl)) (fun _ _ _ h => h) (Or.inl ⟨by rfl, ?_⟩) ?_ ?_
   rotate_left
   ·intro w'
    go_simp
    with_reducible rfl
   rotate_left
   ·simp only [Act.put, sa_, sz_, ss_, i64_w, i32_w]
    rfl
   refine pure_ (i := 5) (N := some 19) (v := ?_) (a' := ?_) #[true, true, true, true, true, true, false, false, false, false, false, false, false, false] rfl rfl (any_of HT_.out (by kernel_rfl)) (fun _ _ _ h => h) (Or.inl ⟨by rfl, ?_⟩) ?_ ?_
   rotate_left
   ·intro w'
    go_simp
    with_reducible rfl
   rotate_left
   ·simp only [Act.put, sa_, sz_, ss_, i64_w, i32_w]
    rfl
   refine pure_ (i := 6) (N := some 20) (v := ?_) (a' := ?_) #[true, true, true, true, true, true, true, false, false, false, false, false, false, false] rfl rfl (any_of HT_.out (by kernel_rfl)) (fun _ _ _ h => h) (Or.inl ⟨by rfl, ?_⟩) ?_ ?_
   rotate_left
   ·intro w'
    go_simp
    with_reducible rfl
   rotate_left
   ·simp only [Act.put, sa_, sz_, ss_, i64_w, i32_w]
    rfl
   refine take_ (i := 7) (N := some 21) (v := ?_) (a' := ?_) #[true, true, true, true, true, true, true, true, false, false, false, false, false, false] rfl rfl (take_ofW HT_.out HW_.out (by kernel_rfl)) (fun _ _ _ h => h) (Or.inl ⟨by rfl, ?_⟩) hHeld ?_ ?_
   rotate_left
   ·rintro w' ⟨s0, s1⟩
    go_simp
    with_reducible rfl
   rotate_left
   ·simp only [Act.put, sa_, sz_, ss_, i64_w, i32_w]
    rfl
   refine one_ (i := 8) (N := some 22) #[true, true, true, true, true, true, true, true, true, false, false, false, false, false] rfl rfl (one_of HT_.out (by kernel_rfl)) (by decide) (fun K hK => ?_)
   refine goes_ Try.func15 (by kernel_rfl) rfl #[.agg #[.slice Ao7 l1_0.length co7, .int .i64 a1_1], .bool true] (by rfl) rfl rfl (by (try simp only [List.map_toArray, List.map_cons, List.map_nil]); first | done | rfl | (simp only [List.length_drop, List.length_take]; rfl)) ?_
   with_reducible refine (spec_slList.calls k _ _ l1_0 a1_1 true t162 _ ?side1 ?side2 A6.out).mono ?_
   (case side1 => repeat (first | exact (Kd.R_reads' HO1_0.out).2.2 | (with_reducible refine Kd.C_alloc ?_ _) | (with_reducible refine Kd.C_drewN ?_ _) | (with_reducible refine Kd.C_drew ?_)))
   (case side2 => exact (Kd.R_reads' HO1_0.out).2.1)
   rintro e w12 ⟨v163, rfl, ho0, hb⟩
   refine ⟨_, rfl, ?_⟩
   have n0_ := Aside0.mk (Kd.R_below (by (with_reducible repeat first | apply ra_ | apply rn_ | apply rw_); exact HO1_0.out) hb)
   have n1_ := Aside0.mk (Kd.S_elder' (by (with_reducible repeat (first | apply Kd.S_alloc | apply Kd.S_drewN | apply Kd.S_drew)); exact HO161.out) (Kd.S_base ho0) hb)
   have n2_ := Aside0.mk (Kd.S_lower (Kd.S_new' (Kd.S_new' (Kd.S_newM (M := fun k_ => (P1_0_ k_ ∨ w.heap.size ≤ k_)) ho0 (by first | exact HK.out.1 | exact (show Kept w _ (fun k_ => P1_0_ k_) from by repeat (first | (with_reducible first | exact HK.out | apply Kept.alloc | apply Kept.drewN | apply Kept.drew | refine Kept.setCell ?_ (.inr GW158.out) _) | exact HK.out)).1) (fun k_ h_ => .inr h_)) (Kd.R_lt (by (with_reducible repeat first | apply ra_ | apply rn_ | apply rw_); exact HO1_0.out))) (Kd.S_lt (by (with_reducible repeat (first | apply Kd.S_alloc | apply Kd.S_drewN | apply Kd.S_drew)); exact HO161.out))) (below_size (by repeat (first | (with_reducible first | exact HB.out | apply below_alloc | apply pw_below_drewN | apply below_drew1 | refine below_set ?_ GE158.out) | exact HB.out))))
   have n3_ := Aside0.mk (blk_below (g := gb158) (o := .cells #[.slice Ao7 l1_0.length co7, .int .i64 a1_1] 31 (0, 0)) (by (with_reducible repeat (first | refine blk_drewN ?_ _ | refine blk_drew ?_ | refine blk_alloc ?_ _)); exact BK158.out) hb)
   have n4_ := Aside0.mk (Kept.below (S := (fun k_ => P1_0_ k_)) (by repeat (first | (with_reducible first | exact HK.out | apply Kept.alloc | apply Kept.drewN | apply Kept.drew | refine Kept.setCell ?_ (.inr GW158.out) _) | exact HK.out)) hb)
   have n5_ := Aside0.mk (below_step (by repeat (first | (with_reducible first | exact HB.out | apply below_alloc | apply pw_below_drewN | apply below_drew1 | refine below_set ?_ GE158.out) | exact HB.out)) hb)
   clear HO1_0
   clear HO161
   clear BK158
   clear HK
   clear HB
   have HO1_0 := n0_
   have HO161 := n1_
   have HO164 := n2_
   have BK158 := n3_
   have HK := n4_
   have HB := n5_
   clear n0_ n1_ n2_ n3_ n4_ n5_
   (try clear hb)
   (try clear hb2)
   (try clear hk)
   (try clear hi)
   (try clear ho0)
   obtain ⟨Ao13, co13, eo13⟩ := Kd.S_slice HO164.out
   (first | subst eo13 | (injection eo13 with f1_ f2_ f3_; have f4_ := f1_.symm; have f5_ := f3_.symm; clear f1_ f2_ f3_; subst f4_; subst f5_))
   refine hK.out _ _ ⟨(blk_cell BK158.out 0).trans rfl, (blk_cell BK158.out 1).trans rfl⟩ (fun hHeld => ?_)
   clear hK K
   refine norm_ (a' := ?_) ?_ ?_
   rotate_left
   ·show Act.put _ (some 22) _ = _
    simp only [Act.put, sa_, sz_, ss_, i64_w, i32_w]
    rfl
   refine pure_ (i := 9) (N := some 23) (v := ?_) (a' := ?_) #[true, true, true, true, true, true, true, true, true, true, false, false, false, false] rfl rfl (any_of HT_.out (by kernel_rfl)) (fun _ _ _ h => h) (Or.inl ⟨by rfl, ?_⟩) ?_ ?_
   rotate_left
   ·intro w'
    go_simp
    with_reducible rfl
   rotate_left
   ·simp only [Act.put, sa_, sz_, ss_, i64_w, i32_w]
    rfl
   refine pure_ (i := 10) (N := some 24) (v := ?_) (a' := ?_) #[true, true, true, true, true, true, true, true, true, true, true, false, false, false] rfl rfl (any_of HT_.out (by kernel_rfl)) (fun _ _ _ h => h) (Or.inl ⟨by rfl, ?_⟩) ?_ ?_
   rotate_left
   ·intro w'
    go_simp
    with_reducible rfl
   rotate_left
   ·simp only [Act.put, sa_, sz_, ss_, i64_w, i32_w]
    rfl
   refine pure_ (i := 11) (N := some 25) (v := ?_) (a' := ?_) #[true, true, true, true, true, true, true, true, true, true, true, true, false, false] rfl rfl (any_of HT_.out (by kernel_rfl)) (fun _ _ _ h => h) (Or.inl ⟨by rfl, ?_⟩) ?_ ?_
   rotate_left
   ·intro w'
    go_simp
    with_reducible rfl
   rotate_left
   ·simp only [Act.put, sa_, sz_, ss_, i64_w, i32_w]
    rfl
   refine pure_ (i := 12) (N := some 4) (v := ?_) (a' := ?_) #[true, true, true, true, true, true, true, true, true, true, true, true, true, false] rfl rfl (any_of HT_.out (by kernel_rfl)) (fun _ _ _ h => h) (Or.inl ⟨by rfl, ?_⟩) ?_ ?_
   rotate_left
   ·intro w'
    go_simp
    with_reducible rfl
   rotate_left
   ·simp only [Act.put, sa_, sz_, ss_, i64_w, i32_w]
    rfl
   refine pure_ (i := 13) (N := some 5) (v := ?_) (a' := ?_) #[true, true, true, true, true, true, true, true, true, true, true, true, true, true] rfl rfl (any_of HT_.out (by kernel_rfl)) (fun _ _ _ h => h) (Or.inl ⟨by rfl, ?_⟩) ?_ ?_
   rotate_left
   ·intro w'
    go_simp
    with_reducible rfl
   rotate_left
   ·simp only [Act.put, sa_, sz_, ss_, i64_w, i32_w]
    rfl
   refine done_ (done_of HT_.out (by kernel_rfl)) ?_
   try go_wp2
   go_ret2
   exact ⟨_, by first | rfl | (simp [errW_none, errW_some] <;> rfl) | (simp [*, errW_none, errW_some] <;> rfl), by (with_reducible repeat first | apply ra_ | apply rn_ | apply rw_); exact HO1_0.out, by repeat (first | (with_reducible first | exact HB.out | apply below_alloc | apply pw_below_drewN | apply below_drew1 | refine below_set ?_ GE158.out) | exact HB.out), by repeat (first | (with_reducible first | exact HK.out | apply Kept.alloc | apply Kept.drewN | apply Kept.drew | refine Kept.setCell ?_ (.inr GW158.out) _) | exact HK.out)⟩
  ·rw [if_neg c5] at H
   have c5b0 : ((t159.length : Int) == 0) = false := beq_eq_false_iff_ne.mpr c5
   have c5b1 : ((t159.length : Int) != 0) = true := bne_iff_ne.mpr c5
   have c5b2 : ¬ (t159 = []) := fun h_ => c5 (by rw [h_]; rfl)
   simp only [Option.some.injEq, Prod.mk.injEq] at H
   obtain ⟨rfl, rfl⟩ := H
   obtain ⟨Ao14, co14, eo14⟩ := Kd.R_slice HO1_0.out
   subst eo14
   go_enter Try.func10, Try.ntmps10
   try go_wp2_with (first | ((with_reducible refine gate_dst (N := 3) rfl ?_); (try (refine gate_guard (by rfl) ?_; dsimp only)); refine box_event ?hg (N := 3) ?hd (cs := #[.slice Ao14 l1_0.length co14, .int .i64 a1_1]) (t := 31) ?hr ?_; (case hd => rfl); (case hg => rfl); (case hr => first | (go_simp; done) | (go_simp; rfl)); intro gb158 hg w15 hbox hb; have n0_ := Aside0.mk (Kd.R_below (by (with_reducible repeat first | apply ra_ | apply rn_ | apply rw_); exact HO1_0.out) hb); have n1_ := Aside0.mk (Kept.below (S := (fun k_ => P1_0_ k_)) (by repeat (first | (with_reducible first | exact HK.out | apply Kept.alloc | apply Kept.drewN | apply Kept.drew) | exact HK.out)) hb); have n2_ := Aside0.mk (below_step (by repeat (first | (with_reducible first | exact HB.out | apply below_alloc | apply pw_below_drewN | apply below_drew1) | exact HB.out)) hb); have n3_ := Aside0.mk (hbox); have n4_ := Aside0.mk ((by rw [hg]; exact (by first | exact HK.out.1 | exact (show Kept w _ (fun k_ => P1_0_ k_) from by repeat (first | (with_reducible first | exact HK.out | apply Kept.alloc | apply Kept.drewN | apply Kept.drew) | exact HK.out)).1) : w.heap.size ≤ gb158)); have n5_ := Aside0.mk ((by rw [hg]; exact (below_size (by repeat (first | (with_reducible first | exact HB.out | apply below_alloc | apply pw_below_drewN | apply below_drew1) | exact HB.out))) : w0.heap.size ≤ gb158)); clear HO1_0; clear HK; clear HB; have HO1_0 := n0_; have HK := n1_; have HB := n2_; have BK158 := n3_; have GW158 := n4_; have GE158 := n5_; clear n0_ n1_ n2_ n3_ n4_ n5_; clear hb hbox hg))
   have n0_ := Aside0.mk (Kd.R_drew HO1_0.out)
   have n1_ := Aside0.mk (blk_drew BK158.out)
   have n2_ := Aside0.mk (Kept.drew HK.out)
   have n3_ := Aside0.mk (below_drew1 HB.out)
   clear HO1_0
   clear BK158
   clear HK
   clear HB
   have HO1_0 := n0_
   have BK158 := n1_
   have HK := n2_
   have HB := n3_
   clear n0_ n1_ n2_ n3_
   refine start_ (n := 14) (S := fun w' => w'.cell? ⟨gb158, 0, none⟩ = some (.slice Ao14 l1_0.length co14) ∧ w'.cell? ⟨gb158, 1, none⟩ = some (.int .i64 a1_1)) (ds := []) #[false, false, false, false, false, false, false, false, false, false, false, false, false, false] (by kernel_rfl) rfl rfl ⟨(blk_cell BK158.out 0).trans rfl, (blk_cell BK158.out 1).trans rfl⟩ (fun hHeld => ?_); refine with_tabW spec_slBest.tab2 spec_slBest.bits2 (fun HT_ HW_ => ?_)
   generalize w15.drew = w16 at HO1_0 BK158 HK HB hHeld ⊢
   refine pure_ (i := 0) (N := some 14) (v := ?_) (a' := ?_) #[true, false, false, false, false, false, false, false, false, false, false, false, false, false] rfl rfl (any_of HT_.out (by kernel_rfl)) (fun _ _ _ h => h) (Or.inl ⟨by rfl, ?_⟩) ?_ ?_
   rotate_left
   ·intro w'
    go_simp
    with_reducible rfl
   rotate_left
   ·simp only [Act.put, sa_, sz_, ss_, i64_w, i32_w]
    rfl
   refine take_ (i := 1) (N := some 15) (v := ?_) (a' := ?_) #[true, true, false, false, false, false, false, false, false, false, false, false, false, false] rfl rfl (take_ofW HT_.out HW_.out (by kernel_rfl)) (fun _ _ _ h => h) (Or.inl ⟨by rfl, ?_⟩) hHeld ?_ ?_
   rotate_left
   ·rintro w' ⟨s0, s1⟩
    go_simp
    with_reducible rfl
   rotate_left
   ·simp only [Act.put, sa_, sz_, ss_, i64_w, i32_w]
    rfl
   refine take_ (i := 2) (N := some 16) (v := ?_) (a' := ?_) #[true, true, true, false, false, false, false, false, false, false, false, false, false, false] rfl rfl (take_ofW HT_.out HW_.out (by kernel_rfl)) (fun _ _ _ h => h) (Or.inl ⟨by rfl, ?_⟩) hHeld ?_ ?_
   rotate_left
   ·rintro w' ⟨s0, s1⟩
    go_simp
    with_reducible rfl
   rotate_left
   ·simp only [Act.put, sa_, sz_, ss_, i64_w, i32_w]
    rfl
   refine one_ (i := 3) (N := some 17) #[true, true, true, true, false, false, false, false, false, false, false, false, false, false] rfl rfl (one_of HT_.out (by kernel_rfl)) (by decide) (fun K hK => ?_)
   refine goes_ Try.func15 (by kernel_rfl) rfl #[.agg #[.slice Ao14 l1_0.length co14, .int .i64 a1_1], .bool false] (by rfl) rfl rfl (by (try simp only [List.map_toArray, List.map_cons, List.map_nil]); first | done | rfl | (simp only [List.length_drop, List.length_take]; rfl)) ?_
   with_reducible refine (spec_slList.calls k _ _ l1_0 a1_1 false t159 _ ?side1 ?side2 A4.out).mono ?_
   (case side1 => repeat (first | exact (Kd.R_reads' HO1_0.out).2.2 | (with_reducible refine Kd.C_alloc ?_ _) | (with_reducible refine Kd.C_drewN ?_ _) | (with_reducible refine Kd.C_drew ?_)))
   (case side2 => exact (Kd.R_reads' HO1_0.out).2.1)
   rintro e w17 ⟨v160, rfl, ho0, hb⟩
   refine ⟨_, rfl, ?_⟩
   have n0_ := Aside0.mk (Kd.R_below (by (with_reducible repeat first | apply ra_ | apply rn_ | apply rw_); exact HO1_0.out) hb)
   have n1_ := Aside0.mk (Kd.S_lower (Kd.S_new' (Kd.S_newM (M := fun k_ => (P1_0_ k_ ∨ w.heap.size ≤ k_)) ho0 (by first | exact HK.out.1 | exact (show Kept w _ (fun k_ => P1_0_ k_) from by repeat (first | (with_reducible first | exact HK.out | apply Kept.alloc | apply Kept.drewN | apply Kept.drew | refine Kept.setCell ?_ (.inr GW158.out) _) | exact HK.out)).1) (fun k_ h_ => .inr h_)) (Kd.R_lt (by (with_reducible repeat first | apply ra_ | apply rn_ | apply rw_); exact HO1_0.out))) (below_size (by repeat (first | (with_reducible first | exact HB.out | apply below_alloc | apply pw_below_drewN | apply below_drew1 | refine below_set ?_ GE158.out) | exact HB.out))))
   have n2_ := Aside0.mk (blk_below (g := gb158) (o := .cells #[.slice Ao14 l1_0.length co14, .int .i64 a1_1] 31 (0, 0)) (by (with_reducible repeat (first | refine blk_drewN ?_ _ | refine blk_drew ?_ | refine blk_alloc ?_ _)); exact BK158.out) hb)
   have n3_ := Aside0.mk (Kept.below (S := (fun k_ => P1_0_ k_)) (by repeat (first | (with_reducible first | exact HK.out | apply Kept.alloc | apply Kept.drewN | apply Kept.drew | refine Kept.setCell ?_ (.inr GW158.out) _) | exact HK.out)) hb)
   have n4_ := Aside0.mk (below_step (by repeat (first | (with_reducible first | exact HB.out | apply below_alloc | apply pw_below_drewN | apply below_drew1 | refine below_set ?_ GE158.out) | exact HB.out)) hb)
   clear HO1_0
   clear BK158
   clear HK
   clear HB
   have HO1_0 := n0_
   have HO161 := n1_
   have BK158 := n2_
   have HK := n3_
   have HB := n4_
   clear n0_ n1_ n2_ n3_ n4_
   (try clear hb)
   (try clear hb2)
   (try clear hk)
   (try clear hi)
   (try clear ho0)
   obtain ⟨Ao18, co18, eo18⟩ := Kd.S_slice HO161.out
   (first | subst eo18 | (injection eo18 with f1_ f2_ f3_; have f4_ := f1_.symm; have f5_ := f3_.symm; clear f1_ f2_ f3_; subst f4_; subst f5_))
   refine hK.out _ _ ⟨(blk_cell BK158.out 0).trans rfl, (blk_cell BK158.out 1).trans rfl⟩ (fun hHeld => ?_)
   clear hK K
   refine norm_ (a' := ?_) ?_ ?_
   rotate_left
   ·show Act.put _ (some 17) _ = _
    simp only [Act.put, sa_, sz_, ss_, i64_w, i32_w]
    rfl
   refine pure_ (i := 4) (N := some 18) (v := ?_) (a' := ?_) #[true, true, true, true, true, false, false, false, false, false, false, false, false, false] rfl rfl (any_of HT_.out (by kernel_rfl)) (fun _ _ _ h => h) (Or.inl ⟨by rfl, ?_⟩) ?_ ?_
   rotate_left
   ·intro w'
    go_simp
    with_reducible rfl
   rotate_left
   ·simp only [Act.put, sa_, sz_, ss_, i64_w, i32_w]
    rfl
   refine pure_ (i := 5) (N := some 19) (v := ?_) (a' := ?_) #[true, true, true, true, true, true, false, false, false, false, false, false, false, false] rfl rfl (any_of HT_.out (by kernel_rfl)) (fun _ _ _ h => h) (Or.inl ⟨by rfl, ?_⟩) ?_ ?_
   rotate_left
   ·intro w'
    go_simp
    with_reducible rfl
   rotate_left
   ·simp only [Act.put, sa_, sz_, ss_, i64_w, i32_w]
    rfl
   refine pure_ (i := 6) (N := some 20) (v := ?_) (a' := ?_) #[true, true, true, true, true, true, true, false, false, false, false, false, false, false] rfl rfl (any_of HT_.out (by kernel_rfl)) (fun _ _ _ h => h) (Or.inl ⟨by rfl, ?_⟩) ?_ ?_
   rotate_left
   ·intro w'
    go_simp
    with_reducible rfl
   rotate_left
   ·simp only [Act.put, sa_, sz_, ss_, i64_w, i32_w]
    rfl
   refine pure_ (i := 7) (N := some 21) (v := undef) (a' := ?_) #[true, true, true, true, true, true, true, true, false, false, false, false, false, false] rfl rfl (any_of HT_.out (by kernel_rfl)) (fun _ _ _ h => h) (Or.inr ⟨by rfl, rfl⟩) ?_ ?_
   rotate_left
   ·simp only [Act.put, sa_, sz_, ss_, i64_w, i32_w]
    rfl
   refine pure_ (i := 8) (N := some 22) (v := undef) (a' := ?_) #[true, true, true, true, true, true, true, true, true, false, false, false, false, false] rfl rfl (any_of HT_.out (by kernel_rfl)) (fun _ _ _ h => h) (Or.inr ⟨by rfl, rfl⟩) ?_ ?_
   rotate_left
   ·simp only [Act.put, sa_, sz_, ss_, i64_w, i32_w]
    rfl
   refine pure_ (i := 9) (N := some 23) (v := undef) (a' := ?_) #[true, true, true, true, true, true, true, true, true, true, false, false, false, false] rfl rfl (any_of HT_.out (by kernel_rfl)) (fun _ _ _ h => h) (Or.inr ⟨by rfl, rfl⟩) ?_ ?_
   rotate_left
   ·simp only [Act.put, sa_, sz_, ss_, i64_w, i32_w]
    rfl
   refine pure_ (i := 10) (N := some 24) (v := undef) (a' := ?_) #[true, true, true, true, true, true, true, true, true, true, true, false, false, false] rfl rfl (any_of HT_.out (by kernel_rfl)) (fun _ _ _ h => h) (Or.inr ⟨by rfl, rfl⟩) ?_ ?_
   rotate_left
   ·simp only [Act.put, sa_, sz_, ss_, i64_w, i32_w]
    rfl
   refine pure_ (i := 11) (N := some 25) (v := ?_) (a' := ?_) #[true, true, true, true, true, true, true, true, true, true, true, true, false, false] rfl rfl (any_of HT_.out (by kernel_rfl)) (fun _ _ _ h => h) (Or.inl ⟨by rfl, ?_⟩) ?_ ?_
   rotate_left
   ·intro w'
    go_simp
    with_reducible rfl
   rotate_left
   ·simp only [Act.put, sa_, sz_, ss_, i64_w, i32_w]
    rfl
   refine pure_ (i := 12) (N := some 4) (v := ?_) (a' := ?_) #[true, true, true, true, true, true, true, true, true, true, true, true, true, false] rfl rfl (any_of HT_.out (by kernel_rfl)) (fun _ _ _ h => h) (Or.inl ⟨by rfl, ?_⟩) ?_ ?_
   rotate_left
   ·intro w'
    go_simp
    with_reducible rfl
   rotate_left
   ·simp only [Act.put, sa_, sz_, ss_, i64_w, i32_w]
    rfl
   refine pure_ (i := 13) (N := some 5) (v := ?_) (a' := ?_) #[true, true, true, true, true, true, true, true, true, true, true, true, true, true] rfl rfl (any_of HT_.out (by kernel_rfl)) (fun _ _ _ h => h) (Or.inl ⟨by rfl, ?_⟩) ?_ ?_
   rotate_left
   ·intro w'
    go_simp
    with_reducible rfl
   rotate_left
   ·simp only [Act.put, sa_, sz_, ss_, i64_w, i32_w]
    rfl
   refine done_ (done_of HT_.out (by kernel_rfl)) ?_
   try go_wp2
   go_ret2
   exact ⟨_, by first | rfl | (simp [errW_none, errW_some] <;> rfl) | (simp [*, errW_none, errW_some] <;> rfl), by (with_reducible repeat first | apply ra_ | apply rn_ | apply rw_); exact HO1_0.out, by repeat (first | (with_reducible first | exact HB.out | apply below_alloc | apply pw_below_drewN | apply below_drew1 | refine below_set ?_ GE158.out) | exact HB.out), by repeat (first | (with_reducible first | exact HK.out | apply Kept.alloc | apply Kept.drewN | apply Kept.drew | refine Kept.setCell ?_ (.inr GW158.out) _) | exact HK.out)⟩
 ·rw [if_neg c3] at H
  have c3b0 : (a0 == 0) = false := beq_eq_false_iff_ne.mpr c3
  have c3b1 : (a0 != 0) = true := bne_iff_ne.mpr c3
  have H' := Aside0.mk H
  clear H
  obtain ⟨Ao19, co19, eo19⟩ := Kd.R_slice HO1_0.out
  subst eo19
  go_enter Try.func10, Try.ntmps10
  go_wp2_with (first | ((with_reducible refine gate_dst (N := 3) rfl ?_); (try (refine gate_guard (by rfl) ?_; dsimp only)); refine box_event ?hg (N := 3) ?hd (cs := #[.slice Ao19 l1_0.length co19, .int .i64 a1_1]) (t := 31) ?hr ?_; (case hd => rfl); (case hg => rfl); (case hr => first | (go_simp; done) | (go_simp; rfl)); intro gb158 hg w20 hbox hb; have n0_ := Aside0.mk (Kd.R_below (by (with_reducible repeat first | apply ra_ | apply rn_ | apply rw_); exact HO1_0.out) hb); have n1_ := Aside0.mk (Kept.below (S := (fun k_ => P1_0_ k_)) (by repeat (first | (with_reducible first | exact HK.out | apply Kept.alloc | apply Kept.drewN | apply Kept.drew) | exact HK.out)) hb); have n2_ := Aside0.mk (below_step (by repeat (first | (with_reducible first | exact HB.out | apply below_alloc | apply pw_below_drewN | apply below_drew1) | exact HB.out)) hb); have n3_ := Aside0.mk (hbox); have n4_ := Aside0.mk ((by rw [hg]; exact (by first | exact HK.out.1 | exact (show Kept w _ (fun k_ => P1_0_ k_) from by repeat (first | (with_reducible first | exact HK.out | apply Kept.alloc | apply Kept.drewN | apply Kept.drew) | exact HK.out)).1) : w.heap.size ≤ gb158)); have n5_ := Aside0.mk ((by rw [hg]; exact (below_size (by repeat (first | (with_reducible first | exact HB.out | apply below_alloc | apply pw_below_drewN | apply below_drew1) | exact HB.out))) : w0.heap.size ≤ gb158)); clear HO1_0; clear HK; clear HB; have HO1_0 := n0_; have HK := n1_; have HB := n2_; have BK158 := n3_; have GW158 := n4_; have GE158 := n5_; clear n0_ n1_ n2_ n3_ n4_ n5_; clear hb hbox hg))
  go_loopg [6] k (fun kq v6 w' => ∃ (x6_1 : Int), v6 = .int .i64 x6_1 ∧ Aside0 (spec_slBest.l0 kq a0 x6_1 l1_0 a1_1 = some (r1, r2)) ∧ Aside0 (kq ≤ k) ∧ Aside0 (Kd.R (Kd.int .i64) 3 w' w0.heap.size (fun k_ => (P1_0_ k_ ∨ w.heap.size ≤ k_)) (.slice Ao19 l1_0.length co19) l1_0) ∧ Aside0 (w'.heap[gb158]? = some (.cells #[(.slice Ao19 l1_0.length co19), .int .i64 a1_1] 31 (0, 0))) ∧ Aside0 (Kept w w' (fun k_ => P1_0_ k_)) ∧ Aside0 (Below w0.heap.size w0 w'))
  case atStart => exact ⟨(0), (by first | rfl | (simp; done) | (simp [*]; done)), H', ⟨Nat.le_refl _⟩, ⟨by (with_reducible repeat first | apply ra_ | apply rn_ | apply rw_); exact HO1_0.out⟩, ⟨by (with_reducible repeat (first | refine blk_drewN ?_ _ | refine blk_drew ?_ | refine blk_alloc ?_ _)); exact BK158.out⟩, ⟨by repeat (first | (with_reducible first | exact HK.out | apply Kept.alloc | apply Kept.drewN | apply Kept.drew | refine Kept.setCell ?_ (.inr GW158.out) _) | exact HK.out)⟩, ⟨by repeat (first | (with_reducible first | exact HB.out | apply below_alloc | apply pw_below_drewN | apply below_drew1 | refine below_set ?_ GE158.out) | exact HB.out)⟩⟩
  case round =>
   clear H'
   try clear c1
   try clear p2
   try clear c3
   try clear c3b0
   try clear c3b1
   try clear c5
   try clear c5b0
   try clear c5b1
   try clear c5b2
   try clear c10
   try clear c15
   obtain ⟨x6_1, rfl, HA, HK1, HO_159000, BK158, HK, HB⟩ := hrel
   cases gk with
   | zero => exact absurd HA.out (by simp [spec_slBest.l0])
   | succ k1 =>
    have H := HA.out
    clear HA
    simp only [spec_slBest.l0] at H
    by_cases c21 : x6_1 < a1_1
    ·rw [if_pos c21] at H
     have c21b0 : decide (x6_1 < a1_1) = true := decide_eq_true c21
     clear c21
     replace H := Option.bind_eq_some_iff.mp H
     obtain ⟨⟨t165, t168⟩, A220, H⟩ := H
     replace H : (if t168 = true then (spec_slBest.j1 k1 a0 x6_1 true l1_0 a1_1) else (if (l1_0.length : Int) > 0 then (if 0 ≤ (wrap64 ((l1_0.length : Int) - 1)) then (if (wrap64 ((l1_0.length : Int) - 1)) < (l1_0.length : Int) then (spec_slBest.j1 k1 a0 x6_1 ((rd l1_0 (wrap64 ((l1_0.length : Int) - 1))) == x6_1) l1_0 a1_1) else (none)) else (none)) else (spec_slBest.j1 k1 a0 x6_1 false l1_0 a1_1))) = some (r1, r2) := H
     have A22 := Aside0.mk A220
     clear A220
     have HC23 := Aside0.mk H
     clear H
     have hcz24_0 : wr.cell? ⟨gb158, 0, none⟩ = some (.slice Ao19 l1_0.length co19) := (blk_cell BK158.out 0).trans rfl
     have hcz24_1 : wr.cell? ⟨gb158, 1, none⟩ = some (.int .i64 a1_1) := (blk_cell BK158.out 1).trans rfl
     have hfz24_0 := blk_frozen BK158.out 0
     have hfz24_1 := blk_frozen BK158.out 1
     go_upto_region 7 with (first | ((with_reducible refine gate_callee (f := 16) rfl ?_); refine goesL_ (some 35) rfl rfl Try.func16 (by kernel_rfl) rfl #[.agg #[.slice Ao19 l1_0.length co19, .int .i64 a1_1], .int .i64 x6_1] rfl (by (try simp only [List.map_toArray, List.map_cons, List.map_nil]); first | done | rfl | (simp only [List.length_drop, List.length_take]; rfl)) ?_; (with_reducible refine (spec_slPair.calls k1 _ _ l1_0 a1_1 x6_1 t165 t168 _ ?side1 ?side2 A22.out).mono ?_); (case side1 => repeat (first | exact (Kd.R_reads' HO_159000.out).2.2 | (with_reducible refine Kd.C_alloc ?_ _) | (with_reducible refine Kd.C_drewN ?_ _) | (with_reducible refine Kd.C_drew ?_))); (case side2 => exact (Kd.R_reads' HO_159000.out).2.1); rintro e w25 ⟨v166, rfl, ho0, hb⟩; refine ⟨_, rfl, ?_⟩; have n0_ := Aside0.mk (Kd.R_elder' (by (with_reducible repeat first | apply ra_ | apply rn_ | apply rw_); exact HO_159000.out) (Kd.R_base ho0) hb); have n1_ := Aside0.mk (Kd.R_lower (Kd.R_new' (Kd.R_newM (M := fun k_ => (P1_0_ k_ ∨ w.heap.size ≤ k_)) ho0 (by first | exact HK.out.1 | exact (show Kept w _ (fun k_ => P1_0_ k_) from by repeat (first | (with_reducible first | exact HK.out | apply Kept.alloc | apply Kept.drewN | apply Kept.drew | refine Kept.setCell ?_ (.inr GW158.out) _) | exact HK.out)).1) (fun k_ h_ => .inr h_)) (Kd.R_lt (by (with_reducible repeat first | apply ra_ | apply rn_ | apply rw_); exact HO_159000.out))) (below_size (by repeat (first | (with_reducible first | exact HB.out | apply below_alloc | apply pw_below_drewN | apply below_drew1 | refine below_set ?_ GE158.out) | exact HB.out)))); have n2_ := Aside0.mk (blk_below (g := gb158) (o := .cells #[.slice Ao19 l1_0.length co19, .int .i64 a1_1] 31 (0, 0)) (by (with_reducible repeat (first | refine blk_drewN ?_ _ | refine blk_drew ?_ | refine blk_alloc ?_ _)); exact BK158.out) hb); have n3_ := Aside0.mk (Kept.below (S := (fun k_ => P1_0_ k_)) (by repeat (first | (with_reducible first | exact HK.out | apply Kept.alloc | apply Kept.drewN | apply Kept.drew | refine Kept.setCell ?_ (.inr GW158.out) _) | exact HK.out)) hb); have n4_ := Aside0.mk (below_step (by repeat (first | (with_reducible first | exact HB.out | apply below_alloc | apply pw_below_drewN | apply below_drew1 | refine below_set ?_ GE158.out) | exact HB.out)) hb); clear HO_159000; clear BK158; clear HK; clear HB; have HO_159000 := n0_; have HO167 := n1_; have BK158 := n2_; have HK := n3_; have HB := n4_; clear n0_ n1_ n2_ n3_ n4_; (try clear hb); (try clear hb2); (try clear hk); (try clear hi); (try clear ho0)))
     (try simp only [Act.put, sa_, sz_, ss_])
     go_cut [56] (fun v56 wc => ∃ (kq : Nat) (x56_22 : Bool), v56 = .bool x56_22 ∧ Aside0 (spec_slBest.j1 kq a0 x6_1 x56_22 l1_0 a1_1 = some (r1, r2)) ∧ Aside0 (kq ≤ k1) ∧ Aside0 (Kd.R (Kd.int .i64) 3 wc w0.heap.size (fun k_ => (P1_0_ k_ ∨ w.heap.size ≤ k_)) (.slice Ao19 l1_0.length co19) l1_0) ∧ Aside0 (wc.heap[gb158]? = some (.cells #[(.slice Ao19 l1_0.length co19), .int .i64 a1_1] 31 (0, 0))) ∧ Aside0 (Kept w wc (fun k_ => P1_0_ k_)) ∧ Aside0 (Below w0.heap.size w0 wc))
     case first =>
      have H := HC23.out
      clear HC23
      by_cases c26 : t168 = true
      ·subst c26
       have H1 : (spec_slBest.j1 k1 a0 x6_1 true l1_0 a1_1) = some (r1, r2) := by rw [if_pos rfl] at H; exact H
       clear H
       have H := H1
       clear H1
       have H' := Aside0.mk H
       clear H
       go_wp2
       go_meet
       case rel => exact ⟨_, (true), (by first | rfl | (simp; done) | (simp [*]; done)), H', ⟨by have := HK1.out; first | omega | exact Nat.le_refl _⟩, ⟨by (with_reducible repeat first | apply ra_ | apply rn_ | apply rw_); exact Kd.R_mono HO_159000.out (fun _ hk => hk.1)⟩, ⟨by (with_reducible repeat (first | refine blk_drewN ?_ _ | refine blk_drew ?_ | refine blk_alloc ?_ _)); exact BK158.out⟩, ⟨by repeat (first | (with_reducible first | exact HK.out | apply Kept.alloc | apply Kept.drewN | apply Kept.drew | refine Kept.setCell ?_ (.inr GW158.out) _) | exact HK.out)⟩, ⟨by repeat (first | (with_reducible first | exact HB.out | apply below_alloc | apply pw_below_drewN | apply below_drew1 | refine below_set ?_ GE158.out) | exact HB.out)⟩⟩
      ·replace c26 := Bool.eq_false_iff.mpr c26
       subst c26
       have H1 : (if (l1_0.length : Int) > 0 then (if 0 ≤ (wrap64 ((l1_0.length : Int) - 1)) then (if (wrap64 ((l1_0.length : Int) - 1)) < (l1_0.length : Int) then (spec_slBest.j1 k1 a0 x6_1 ((rd l1_0 (wrap64 ((l1_0.length : Int) - 1))) == x6_1) l1_0 a1_1) else (none)) else (none)) else (spec_slBest.j1 k1 a0 x6_1 false l1_0 a1_1)) = some (r1, r2) := by rw [if_neg (show ¬ (false = true) by decide)] at H; exact H
       clear H
       have H := H1
       clear H1
       by_cases c27 : (l1_0.length : Int) > 0
       ·rw [if_pos c27] at H
        have c27b0 : decide (0 < (l1_0.length : Int)) = true := decide_eq_true c27
        have c27b1 : decide (0 < l1_0.length) = true := decide_eq_true (by omega)
        clear c27
        (first | rw [c27b0] | (simp only [i64_w, i32_w]; rw [c27b0]) | skip)
        obtain ⟨ji28, hji28⟩ : ∃ j_ : Int, (wrap64 ((l1_0.length : Int) - 1)) = j_ := ⟨_, rfl⟩
        replace H : (if 0 ≤ (ji28) then (if (ji28) < (l1_0.length : Int) then (spec_slBest.j1 k1 a0 x6_1 ((rd l1_0 (ji28)) == x6_1) l1_0 a1_1) else (none)) else (none)) = some (r1, r2) := by first | (rw [hji28] at H; exact H) | (simp only [hji28] at H ⊢; exact H)
        have hji28w : (IntKind.i64.wrap ((l1_0.length : Int) - 1)) = ji28 := (i64_w _).trans hji28
        by_cases c29 : 0 ≤ (ji28)
        ·rw [if_pos c29] at H
         have c29b0 : decide (0 ≤ (ji28)) = true := decide_eq_true c29
         clear c29
         by_cases c30 : (ji28) < (l1_0.length : Int)
         ·rw [if_pos c30] at H
          have c30b0 : decide ((ji28) < (l1_0.length : Int)) = true := decide_eq_true c30
          clear c30
          have H' := Aside0.mk H
          clear H
          have hcz31_0 : w25.cell? ⟨gb158, 0, none⟩ = some (.slice Ao19 l1_0.length co19) := (blk_cell BK158.out 0).trans rfl
          have hcz31_1 : w25.cell? ⟨gb158, 1, none⟩ = some (.int .i64 a1_1) := (blk_cell BK158.out 1).trans rfl
          have hfz31_0 := blk_frozen BK158.out 0
          have hfz31_1 := blk_frozen BK158.out 1
          have p169 : 0 ≤ ((ji28) : Int) := of_decide_eq_true (by first | (with_reducible assumption) | assumption)
          have q169 : (ji28) < (l1_0.length : Int) := of_decide_eq_true (by first | (with_reducible assumption) | assumption)
          obtain ⟨ad169, e169, hx169_0⟩ := Kd.at_int (Kd.R_reads' HO_159000.out).2.2 (ji28) p169 q169
          cases e169
          replace p169 := eq_true p169
          replace q169 := eq_true q169
          go_wp2
          go_meet
          case rel => exact ⟨_, (((rd l1_0 (ji28)) == x6_1)), (by first | rfl | (simp; done) | (simp only [← hji28] <;> (first | rfl | simp)) | (simp [*]; done)), H', ⟨by have := HK1.out; first | omega | exact Nat.le_refl _⟩, ⟨by (with_reducible repeat first | apply ra_ | apply rn_ | apply rw_); exact Kd.R_mono HO_159000.out (fun _ hk => hk.1)⟩, ⟨by (with_reducible repeat (first | refine blk_drewN ?_ _ | refine blk_drew ?_ | refine blk_alloc ?_ _)); exact BK158.out⟩, ⟨by repeat (first | (with_reducible first | exact HK.out | apply Kept.alloc | apply Kept.drewN | apply Kept.drew | refine Kept.setCell ?_ (.inr GW158.out) _) | exact HK.out)⟩, ⟨by repeat (first | (with_reducible first | exact HB.out | apply below_alloc | apply pw_below_drewN | apply below_drew1 | refine below_set ?_ GE158.out) | exact HB.out)⟩⟩
         ·rw [if_neg c30] at H
          exact absurd H (by simp)
        ·rw [if_neg c29] at H
         exact absurd H (by simp)
       ·rw [if_neg c27] at H
        have c27b0 : decide (0 < (l1_0.length : Int)) = false := decide_eq_false c27
        have c27b1 : decide (0 < l1_0.length) = false := decide_eq_false (by omega)
        clear c27
        (first | rw [c27b0] | (simp only [i64_w, i32_w]; rw [c27b0]) | skip)
        have H' := Aside0.mk H
        clear H
        have hcz32_0 : w25.cell? ⟨gb158, 0, none⟩ = some (.slice Ao19 l1_0.length co19) := (blk_cell BK158.out 0).trans rfl
        have hcz32_1 : w25.cell? ⟨gb158, 1, none⟩ = some (.int .i64 a1_1) := (blk_cell BK158.out 1).trans rfl
        have hfz32_0 := blk_frozen BK158.out 0
        have hfz32_1 := blk_frozen BK158.out 1
        go_wp2
        go_meet
        case rel => exact ⟨_, (false), (by first | rfl | (simp; done) | (simp [*]; done)), H', ⟨by have := HK1.out; first | omega | exact Nat.le_refl _⟩, ⟨by (with_reducible repeat first | apply ra_ | apply rn_ | apply rw_); exact Kd.R_mono HO_159000.out (fun _ hk => hk.1)⟩, ⟨by (with_reducible repeat (first | refine blk_drewN ?_ _ | refine blk_drew ?_ | refine blk_alloc ?_ _)); exact BK158.out⟩, ⟨by repeat (first | (with_reducible first | exact HK.out | apply Kept.alloc | apply Kept.drewN | apply Kept.drew | refine Kept.setCell ?_ (.inr GW158.out) _) | exact HK.out)⟩, ⟨by repeat (first | (with_reducible first | exact HB.out | apply below_alloc | apply pw_below_drewN | apply below_drew1 | refine below_set ?_ GE158.out) | exact HB.out)⟩⟩
     case rest =>
      clear HC23
      try clear c1
      try clear p1
      try clear q1
      try clear hx1
      try clear c2
      try clear p2
      try clear c3
      try clear c3b0
      try clear c3b1
      try clear c5
      try clear c5b0
      try clear c5b1
      try clear c5b2
      try clear p6
      try clear c10
      try clear c15
      try clear c16
      try clear p16
      try clear q16
      try clear hx16
      try clear c21
      try clear c21b0
      try clear c26
      try clear c27
      try clear c27b0
      try clear c27b1
      try clear c29
      try clear c29b0
      try clear c30
      try clear c30b0
      try clear hcz24_0
      try clear hcz24_1
      try clear hcz31_0
      try clear hcz31_1
      try clear hcz32_0
      try clear hcz32_1
      try clear hfz24_0
      try clear hfz24_1
      try clear hfz31_0
      try clear hfz31_1
      try clear hfz32_0
      try clear hfz32_1
      try clear hx169_0
      try clear p169
      try clear p2
      try clear q169
      obtain ⟨kq, x56_22, rfl, HA, HJ22, HO_159000, BK158, HK, HB⟩ := hcut
      cases kq with
      | zero => exact absurd HA.out (by simp [spec_slBest.j1])
      | succ kj22 =>
       have H := HA.out
       clear HA
       simp only [spec_slBest.j1] at H
       by_cases c33 : x56_22 = true
       ·subst c33
        have H1 : (spec_slBest.l0 kj22 a0 (wrap64 (x6_1 + 1)) l1_0 a1_1) = some (r1, r2) := by rw [if_pos rfl] at H; exact H
        clear H
        have H := H1
        clear H1
        have H' := Aside0.mk H
        clear H
        go_wp2
        go_roundg kj22
        case measure => have := HK1.out; have := HJ22.out; omega
        case rel => exact ⟨(wrap64 (x6_1 + 1)), (by first | rfl | (simp; done) | (simp [*]; done)), H', ⟨by have := HK1.out; have := HJ22.out; omega⟩, ⟨by (with_reducible repeat first | apply ra_ | apply rn_ | apply rw_); exact HO_159000.out⟩, ⟨by (with_reducible repeat (first | refine blk_drewN ?_ _ | refine blk_drew ?_ | refine blk_alloc ?_ _)); exact BK158.out⟩, ⟨by repeat (first | (with_reducible first | exact HK.out | apply Kept.alloc | apply Kept.drewN | apply Kept.drew | refine Kept.setCell ?_ (.inr GW158.out) _) | exact HK.out)⟩, ⟨by repeat (first | (with_reducible first | exact HB.out | apply below_alloc | apply pw_below_drewN | apply below_drew1 | refine below_set ?_ GE158.out) | exact HB.out)⟩⟩
       ·replace c33 := Bool.eq_false_iff.mpr c33
        subst c33
        have H1 : ((spec_l1Own.f l1_0).bind fun t170 => ((some (([x6_1] : List Int) : List Int)).bind fun y173 => (if t170.length + y173.length < 17592186044416 then ((spec_slBest.f kj22 (wrap64 (a0 - 1)) (t170 ++ y173) a1_1).bind fun bt180 => (if bt180.2 = true then (some (bt180.1, true)) else (spec_slBest.l0 kj22 a0 (wrap64 (x6_1 + 1)) l1_0 a1_1))) else (none)))) = some (r1, r2) := by rw [if_neg (show ¬ (false = true) by decide)] at H; exact H
        clear H
        have H := H1
        clear H1
        replace H := Option.bind_eq_some_iff.mp H
        obtain ⟨t170, A340, H⟩ := H
        replace H : ((some (([x6_1] : List Int) : List Int)).bind fun y173 => (if t170.length + y173.length < 17592186044416 then ((spec_slBest.f kj22 (wrap64 (a0 - 1)) (t170 ++ y173) a1_1).bind fun bt180 => (if bt180.2 = true then (some (bt180.1, true)) else (spec_slBest.l0 kj22 a0 (wrap64 (x6_1 + 1)) l1_0 a1_1))) else (none))) = some (r1, r2) := H
        have A34 := Aside0.mk A340
        clear A340
        obtain ⟨y173, hy173⟩ : ∃ y_ : List Int, y_ = (([x6_1] : List Int)) := ⟨_, rfl⟩
        replace H : (if t170.length + y173.length < 17592186044416 then ((spec_slBest.f kj22 (wrap64 (a0 - 1)) (t170 ++ y173) a1_1).bind fun bt180 => (if bt180.2 = true then (some (bt180.1, true)) else (spec_slBest.l0 kj22 a0 (wrap64 (x6_1 + 1)) l1_0 a1_1))) else (none)) = some (r1, r2) := by first | (rw [hy173]; with_reducible exact H) | (have H2_ := (Option.bind_some _ _).symm.trans H; rw [hy173]; with_reducible exact H2_) | (have H2_ := (Option.bind_some _ _).symm.trans H; with_reducible exact H2_) | with_reducible exact H | (rw [hy173]; exact H) | exact H
        have Ny173 := Aside0.mk hy173
        clear hy173
        by_cases c35 : t170.length + y173.length < 17592186044416
        ·rw [if_pos c35] at H
         have LMc35 := Aside0.mk c35
         clear c35
         obtain ⟨y176, hy176⟩ : ∃ y_ : List Int, y_ = (t170 ++ y173) := ⟨_, rfl⟩
         replace H : ((spec_slBest.f kj22 (wrap64 (a0 - 1)) y176 a1_1).bind fun bt180 => (if bt180.2 = true then (some (bt180.1, true)) else (spec_slBest.l0 kj22 a0 (wrap64 (x6_1 + 1)) l1_0 a1_1))) = some (r1, r2) := by first | (rw [hy176]; with_reducible exact H) | (have H2_ := (Option.bind_some _ _).symm.trans H; rw [hy176]; with_reducible exact H2_) | (have H2_ := (Option.bind_some _ _).symm.trans H; with_reducible exact H2_) | with_reducible exact H | (rw [hy176]; exact H) | exact H
         have Ny176 := Aside0.mk hy176
         clear hy176
         replace H := Option.bind_eq_some_iff.mp H
         obtain ⟨⟨t180, t183⟩, A360, H⟩ := H
         replace H : (if t183 = true then (some (t180, true)) else (spec_slBest.l0 kj22 a0 (wrap64 (x6_1 + 1)) l1_0 a1_1)) = some (r1, r2) := H
         have A36 := Aside0.mk A360
         clear A360
         by_cases c37 : t183 = true
         ·subst c37
          have H1 : (some (t180, true)) = some (r1, r2) := by rw [if_pos rfl] at H; exact H
          clear H
          have H := H1
          clear H1
          simp only [Option.some.injEq, Prod.mk.injEq] at H
          obtain ⟨rfl, rfl⟩ := H
          try go_wp2
          have n0_ := Aside0.mk (Kd.R_drew HO_159000.out)
          have n1_ := Aside0.mk (blk_drew BK158.out)
          have n2_ := Aside0.mk (Kept.drew HK.out)
          have n3_ := Aside0.mk (below_drew1 HB.out)
          clear HO_159000
          clear BK158
          clear HK
          clear HB
          have HO_159000 := n0_
          have BK158 := n1_
          have HK := n2_
          have HB := n3_
          clear n0_ n1_ n2_ n3_
          refine start_ (n := 11) (S := fun w' => w'.cell? ⟨gb158, 0, none⟩ = some (.slice Ao19 l1_0.length co19) ∧ w'.cell? ⟨gb158, 1, none⟩ = some (.int .i64 a1_1)) (ds := []) #[false, false, false, false, false, false, false, false, false, false, false] (by kernel_rfl) rfl rfl ⟨(blk_cell BK158.out 0).trans rfl, (blk_cell BK158.out 1).trans rfl⟩ (fun hHeld => ?_); refine with_tabW spec_slBest.tab8 spec_slBest.bits8 (fun HT_ HW_ => ?_)
          generalize wc.drew = w38 at HO_159000 BK158 HK HB hHeld ⊢
          refine pure_ (i := 0) (N := some 57) (v := ?_) (a' := ?_) #[true, false, false, false, false, false, false, false, false, false, false] rfl rfl (any_of HT_.out (by kernel_rfl)) (fun _ _ _ h => h) (Or.inl ⟨by rfl, ?_⟩) ?_ ?_
          rotate_left
          ·intro w'
           go_simp
           with_reducible rfl
          rotate_left
          ·simp only [Act.put, sa_, sz_, ss_, i64_w, i32_w]
           rfl
          refine pure_ (i := 3) (N := some 60) (v := ?_) (a' := ?_) #[true, false, false, true, false, false, false, false, false, false, false] rfl rfl (any_of HT_.out (by kernel_rfl)) (fun _ _ _ h => h) (Or.inl ⟨by rfl, ?_⟩) ?_ ?_
          rotate_left
          ·intro w'
           go_simp
           with_reducible rfl
          rotate_left
          ·simp only [Act.put, sa_, sz_, ss_, i64_w, i32_w]
           rfl
          refine pure_ (i := 6) (N := some 63) (v := ?_) (a' := ?_) #[true, false, false, true, false, false, true, false, false, false, false] rfl rfl (any_of HT_.out (by kernel_rfl)) (fun _ _ _ h => h) (Or.inl ⟨by rfl, ?_⟩) ?_ ?_
          rotate_left
          ·intro w'
           go_simp
           with_reducible rfl
          rotate_left
          ·simp only [Act.put, sa_, sz_, ss_, i64_w, i32_w]
           rfl
          refine take_ (i := 1) (N := some 58) (v := ?_) (a' := ?_) #[true, true, false, true, false, false, true, false, false, false, false] rfl rfl (take_ofW HT_.out HW_.out (by kernel_rfl)) (fun _ _ _ h => h) (Or.inl ⟨by rfl, ?_⟩) hHeld ?_ ?_
          rotate_left
          ·rintro w' ⟨s0, s1⟩
           go_simp
           with_reducible rfl
          rotate_left
          ·simp only [Act.put, sa_, sz_, ss_, i64_w, i32_w]
           rfl
          refine take_ (i := 7) (N := some 64) (v := ?_) (a' := ?_) #[true, true, false, true, false, false, true, true, false, false, false] rfl rfl (take_ofW HT_.out HW_.out (by kernel_rfl)) (fun _ _ _ h => h) (Or.inl ⟨by rfl, ?_⟩) hHeld ?_ ?_
          rotate_left
          ·rintro w' ⟨s0, s1⟩
           go_simp
           with_reducible rfl
          rotate_left
          ·simp only [Act.put, sa_, sz_, ss_, i64_w, i32_w]
           rfl
          refine join_ (σ := Value × Value × Value × Nat) 1 #[true, true, true, true, true, true, true, true, true, true, false] (fun s_ => [(59, s_.1), (61, s_.2.1), (62, s_.2.2.1), (9, .pointer (some ⟨s_.2.2.2, 0, none⟩)), (65, .agg #[s_.2.2.1, .int .i64 a1_1])]) (fun s_ w' => (w'.cell? ⟨gb158, 0, none⟩ = some (.slice Ao19 l1_0.length co19) ∧ w'.cell? ⟨gb158, 1, none⟩ = some (.int .i64 a1_1)) ∧ (Kd.R (Kd.int .i64) 3 w' w0.heap.size (fun k_ => (P1_0_ k_ ∨ w.heap.size ≤ k_) ∧ some k_ ≠ (s_.2.2.1 : Value).ownBlock ∧ some k_ ≠ (.slice Ao19 l1_0.length co19 : Value).ownBlock) s_.2.1 y173) ∧ (Kd.R (Kd.int .i64) 3 w' w0.heap.size (fun k_ => (P1_0_ k_ ∨ w.heap.size ≤ k_) ∧ some k_ ≠ (s_.2.1 : Value).ownBlock ∧ some k_ ≠ (.slice Ao19 l1_0.length co19 : Value).ownBlock) s_.2.2.1 y176) ∧ (Kd.R (Kd.int .i64) 3 w' w0.heap.size (fun k_ => (P1_0_ k_ ∨ w.heap.size ≤ k_) ∧ some k_ ≠ (s_.2.1 : Value).ownBlock ∧ some k_ ≠ (s_.2.2.1 : Value).ownBlock) (.slice Ao19 l1_0.length co19) l1_0) ∧ (w'.heap[gb158]? = some (.cells #[.slice Ao19 l1_0.length co19, .int .i64 a1_1] 31 (0, 0))) ∧ (w'.heap[s_.2.2.2]? = some (.cells #[.slice none 0 0, .int .i64 0] 31 (0, 0))) ∧ (w.heap.size ≤ s_.2.2.2) ∧ (w0.heap.size ≤ s_.2.2.2) ∧ (gb158 ≠ s_.2.2.2) ∧ (s_.2.2.2 ≠ gb158) ∧ (Kept w w' (fun k_ => P1_0_ k_)) ∧ (Below w0.heap.size w0 w')) ?_ ?_
          rotate_left
          ·intro hJ2_4_5_9
           refine join_ (σ := Value × Value × Value) 2 #[true, true, true, true, true, true, true, true, true, false, false] (fun s_ => [(59, s_.1), (61, s_.2.1), (62, s_.2.2), (65, .agg #[s_.2.2, .int .i64 a1_1])]) (fun s_ w' => (w'.cell? ⟨gb158, 0, none⟩ = some (.slice Ao19 l1_0.length co19) ∧ w'.cell? ⟨gb158, 1, none⟩ = some (.int .i64 a1_1)) ∧ (Kd.R (Kd.int .i64) 3 w' w0.heap.size (fun k_ => (P1_0_ k_ ∨ w.heap.size ≤ k_) ∧ some k_ ≠ (s_.2.2 : Value).ownBlock ∧ some k_ ≠ (.slice Ao19 l1_0.length co19 : Value).ownBlock) s_.2.1 y173) ∧ (Kd.R (Kd.int .i64) 3 w' w0.heap.size (fun k_ => (P1_0_ k_ ∨ w.heap.size ≤ k_) ∧ some k_ ≠ (s_.2.1 : Value).ownBlock ∧ some k_ ≠ (.slice Ao19 l1_0.length co19 : Value).ownBlock) s_.2.2 y176) ∧ (Kd.R (Kd.int .i64) 3 w' w0.heap.size (fun k_ => (P1_0_ k_ ∨ w.heap.size ≤ k_) ∧ some k_ ≠ (s_.2.1 : Value).ownBlock ∧ some k_ ≠ (s_.2.2 : Value).ownBlock) (.slice Ao19 l1_0.length co19) l1_0) ∧ (w'.heap[gb158]? = some (.cells #[.slice Ao19 l1_0.length co19, .int .i64 a1_1] 31 (0, 0))) ∧ (Kept w w' (fun k_ => P1_0_ k_)) ∧ (Below w0.heap.size w0 w')) ?_ ?_
           rotate_left
           ·intro hJ2_4_5
            refine join_ (σ := Value × Value × Nat) 3 #[true, true, true, true, true, false, true, true, false, true, false] (fun s_ => [(59, s_.1), (61, s_.2.1), (9, .pointer (some ⟨s_.2.2, 0, none⟩))]) (fun s_ w' => (w'.cell? ⟨gb158, 0, none⟩ = some (.slice Ao19 l1_0.length co19) ∧ w'.cell? ⟨gb158, 1, none⟩ = some (.int .i64 a1_1)) ∧ (Kd.R (Kd.int .i64) 3 w' w0.heap.size (fun k_ => (P1_0_ k_ ∨ w.heap.size ≤ k_) ∧ some k_ ≠ (s_.2.1 : Value).ownBlock ∧ some k_ ≠ (.slice Ao19 l1_0.length co19 : Value).ownBlock) s_.1 t170) ∧ (Kd.R (Kd.int .i64) 3 w' w0.heap.size (fun k_ => (P1_0_ k_ ∨ w.heap.size ≤ k_) ∧ some k_ ≠ (s_.1 : Value).ownBlock ∧ some k_ ≠ (.slice Ao19 l1_0.length co19 : Value).ownBlock) s_.2.1 y173) ∧ (Kd.R (Kd.int .i64) 3 w' w0.heap.size (fun k_ => (P1_0_ k_ ∨ w.heap.size ≤ k_) ∧ some k_ ≠ (s_.1 : Value).ownBlock ∧ some k_ ≠ (s_.2.1 : Value).ownBlock) (.slice Ao19 l1_0.length co19) l1_0) ∧ (w'.heap[gb158]? = some (.cells #[.slice Ao19 l1_0.length co19, .int .i64 a1_1] 31 (0, 0))) ∧ (w'.heap[s_.2.2]? = some (.cells #[.slice none 0 0, .int .i64 0] 31 (0, 0))) ∧ (w.heap.size ≤ s_.2.2) ∧ (w0.heap.size ≤ s_.2.2) ∧ (gb158 ≠ s_.2.2) ∧ (s_.2.2 ≠ gb158) ∧ (Kept w w' (fun k_ => P1_0_ k_)) ∧ (Below w0.heap.size w0 w')) ?_ ?_
            rotate_left
            ·intro hJ2_4_9
             refine join_ (σ := Value × Value) 4 #[true, true, true, true, true, false, true, true, false, false, false] (fun s_ => [(59, s_.1), (61, s_.2)]) (fun s_ w' => (w'.cell? ⟨gb158, 0, none⟩ = some (.slice Ao19 l1_0.length co19) ∧ w'.cell? ⟨gb158, 1, none⟩ = some (.int .i64 a1_1)) ∧ (Kd.R (Kd.int .i64) 3 w' w0.heap.size (fun k_ => (P1_0_ k_ ∨ w.heap.size ≤ k_) ∧ some k_ ≠ (s_.2 : Value).ownBlock ∧ some k_ ≠ (.slice Ao19 l1_0.length co19 : Value).ownBlock) s_.1 t170) ∧ (Kd.R (Kd.int .i64) 3 w' w0.heap.size (fun k_ => (P1_0_ k_ ∨ w.heap.size ≤ k_) ∧ some k_ ≠ (s_.1 : Value).ownBlock ∧ some k_ ≠ (.slice Ao19 l1_0.length co19 : Value).ownBlock) s_.2 y173) ∧ (Kd.R (Kd.int .i64) 3 w' w0.heap.size (fun k_ => (P1_0_ k_ ∨ w.heap.size ≤ k_) ∧ some k_ ≠ (s_.1 : Value).ownBlock ∧ some k_ ≠ (s_.2 : Value).ownBlock) (.slice Ao19 l1_0.length co19) l1_0) ∧ (w'.heap[gb158]? = some (.cells #[.slice Ao19 l1_0.length co19, .int .i64 a1_1] 31 (0, 0))) ∧ (Kept w w' (fun k_ => P1_0_ k_)) ∧ (Below w0.heap.size w0 w')) ?_ ?_
             rotate_left
             ·intro hJ2_4
              refine join_ (σ := Value × Nat) 4 #[true, true, true, true, false, false, true, true, false, true, false] (fun s_ => [(59, s_.1), (9, .pointer (some ⟨s_.2, 0, none⟩))]) (fun s_ w' => (w'.cell? ⟨gb158, 0, none⟩ = some (.slice Ao19 l1_0.length co19) ∧ w'.cell? ⟨gb158, 1, none⟩ = some (.int .i64 a1_1)) ∧ (Kd.R (Kd.int .i64) 3 w' w0.heap.size (fun k_ => (P1_0_ k_ ∨ w.heap.size ≤ k_) ∧ some k_ ≠ (.slice Ao19 l1_0.length co19 : Value).ownBlock) s_.1 t170) ∧ (Kd.R (Kd.int .i64) 3 w' w0.heap.size (fun k_ => (P1_0_ k_ ∨ w.heap.size ≤ k_) ∧ some k_ ≠ (s_.1 : Value).ownBlock) (.slice Ao19 l1_0.length co19) l1_0) ∧ (w'.heap[gb158]? = some (.cells #[.slice Ao19 l1_0.length co19, .int .i64 a1_1] 31 (0, 0))) ∧ (w'.heap[s_.2]? = some (.cells #[.slice none 0 0, .int .i64 0] 31 (0, 0))) ∧ (w.heap.size ≤ s_.2) ∧ (w0.heap.size ≤ s_.2) ∧ (gb158 ≠ s_.2) ∧ (s_.2 ≠ gb158) ∧ (Kept w w' (fun k_ => P1_0_ k_)) ∧ (Below w0.heap.size w0 w')) ?_ ?_
              rotate_left
              ·intro hJ2_9
               refine join_ (σ := Value × Nat) 4 #[true, true, false, true, true, false, true, true, false, true, false] (fun s_ => [(61, s_.1), (9, .pointer (some ⟨s_.2, 0, none⟩))]) (fun s_ w' => (w'.cell? ⟨gb158, 0, none⟩ = some (.slice Ao19 l1_0.length co19) ∧ w'.cell? ⟨gb158, 1, none⟩ = some (.int .i64 a1_1)) ∧ (Kd.R (Kd.int .i64) 3 w' w0.heap.size (fun k_ => (P1_0_ k_ ∨ w.heap.size ≤ k_) ∧ some k_ ≠ (.slice Ao19 l1_0.length co19 : Value).ownBlock) s_.1 y173) ∧ (Kd.R (Kd.int .i64) 3 w' w0.heap.size (fun k_ => (P1_0_ k_ ∨ w.heap.size ≤ k_) ∧ some k_ ≠ (s_.1 : Value).ownBlock) (.slice Ao19 l1_0.length co19) l1_0) ∧ (w'.heap[gb158]? = some (.cells #[.slice Ao19 l1_0.length co19, .int .i64 a1_1] 31 (0, 0))) ∧ (w'.heap[s_.2]? = some (.cells #[.slice none 0 0, .int .i64 0] 31 (0, 0))) ∧ (w.heap.size ≤ s_.2) ∧ (w0.heap.size ≤ s_.2) ∧ (gb158 ≠ s_.2) ∧ (s_.2 ≠ gb158) ∧ (Kept w w' (fun k_ => P1_0_ k_)) ∧ (Below w0.heap.size w0 w')) ?_ ?_
               rotate_left
               ·intro hJ4_9
                refine join_ (σ := Value) 5 #[true, true, true, true, false, false, true, true, false, false, false] (fun s_ => [(59, s_)]) (fun s_ w' => (w'.cell? ⟨gb158, 0, none⟩ = some (.slice Ao19 l1_0.length co19) ∧ w'.cell? ⟨gb158, 1, none⟩ = some (.int .i64 a1_1)) ∧ (Kd.R (Kd.int .i64) 3 w' w0.heap.size (fun k_ => (P1_0_ k_ ∨ w.heap.size ≤ k_) ∧ some k_ ≠ (.slice Ao19 l1_0.length co19 : Value).ownBlock) s_ t170) ∧ (Kd.R (Kd.int .i64) 3 w' w0.heap.size (fun k_ => (P1_0_ k_ ∨ w.heap.size ≤ k_) ∧ some k_ ≠ (s_ : Value).ownBlock) (.slice Ao19 l1_0.length co19) l1_0) ∧ (w'.heap[gb158]? = some (.cells #[.slice Ao19 l1_0.length co19, .int .i64 a1_1] 31 (0, 0))) ∧ (Kept w w' (fun k_ => P1_0_ k_)) ∧ (Below w0.heap.size w0 w')) ?_ ?_
                rotate_left
                ·intro hJ2
                 refine join_ (σ := Value) 5 #[true, true, false, true, true, false, true, true, false, false, false] (fun s_ => [(61, s_)]) (fun s_ w' => (w'.cell? ⟨gb158, 0, none⟩ = some (.slice Ao19 l1_0.length co19) ∧ w'.cell? ⟨gb158, 1, none⟩ = some (.int .i64 a1_1)) ∧ (Kd.R (Kd.int .i64) 3 w' w0.heap.size (fun k_ => (P1_0_ k_ ∨ w.heap.size ≤ k_) ∧ some k_ ≠ (.slice Ao19 l1_0.length co19 : Value).ownBlock) s_ y173) ∧ (Kd.R (Kd.int .i64) 3 w' w0.heap.size (fun k_ => (P1_0_ k_ ∨ w.heap.size ≤ k_) ∧ some k_ ≠ (s_ : Value).ownBlock) (.slice Ao19 l1_0.length co19) l1_0) ∧ (w'.heap[gb158]? = some (.cells #[.slice Ao19 l1_0.length co19, .int .i64 a1_1] 31 (0, 0))) ∧ (Kept w w' (fun k_ => P1_0_ k_)) ∧ (Below w0.heap.size w0 w')) ?_ ?_
                 rotate_left
                 ·intro hJ4
                  refine join_ (σ := Nat) 5 #[true, true, false, true, false, false, true, true, false, true, false] (fun s_ => [(9, .pointer (some ⟨s_, 0, none⟩))]) (fun s_ w' => (w'.cell? ⟨gb158, 0, none⟩ = some (.slice Ao19 l1_0.length co19) ∧ w'.cell? ⟨gb158, 1, none⟩ = some (.int .i64 a1_1)) ∧ (Kd.R (Kd.int .i64) 3 w' w0.heap.size (fun k_ => (P1_0_ k_ ∨ w.heap.size ≤ k_)) (.slice Ao19 l1_0.length co19) l1_0) ∧ (w'.heap[gb158]? = some (.cells #[.slice Ao19 l1_0.length co19, .int .i64 a1_1] 31 (0, 0))) ∧ (w'.heap[s_]? = some (.cells #[.slice none 0 0, .int .i64 0] 31 (0, 0))) ∧ (w.heap.size ≤ s_) ∧ (w0.heap.size ≤ s_) ∧ (gb158 ≠ s_) ∧ (s_ ≠ gb158) ∧ (Kept w w' (fun k_ => P1_0_ k_)) ∧ (Below w0.heap.size w0 w')) ?_ ?_
                  rotate_left
                  ·intro hJ9
                   refine three_ (i := 2) (j := 4) (k := 9) (Ni := some 59) (Nj := some 61) (Nk := some 9) #[true, true, true, true, false, false, true, true, false, false, false] #[true, true, false, true, true, false, true, true, false, false, false] #[true, true, false, true, false, false, true, true, false, true, false] rfl rfl rfl rfl rfl rfl (three_of HT_.out (by kernel_rfl)) (by decide) (by decide) (by decide) (fun K hK => ?_) (fun K hK => ?_) (fun K hK => ?_)
                   ·skip
                    refine goes_ Try.func17 (by kernel_rfl) rfl #[.slice Ao19 l1_0.length co19] (by rfl) rfl rfl (by (try simp only [List.map_toArray, List.map_cons, List.map_nil]); first | done | rfl | (simp only [List.length_drop, List.length_take]; rfl)) ?_
                    with_reducible refine (spec_l1Own.calls _ _ l1_0 t170 _ ?side1 ?side2 A34.out).mono ?_
                    (case side1 => repeat (first | exact (Kd.R_reads' HO_159000.out).2.2 | (with_reducible refine Kd.C_alloc ?_ _) | (with_reducible refine Kd.C_drewN ?_ _) | (with_reducible refine Kd.C_drew ?_)))
                    (case side2 => exact (Kd.R_reads' HO_159000.out).2.1)
                    rintro e w39 ⟨v171, rfl, ho0, hb⟩
                    refine ⟨_, rfl, ?_⟩
                    have n0_ := Aside0.mk (Kd.R_elder' (by (with_reducible repeat first | apply ra_ | apply rn_ | apply rw_); exact HO_159000.out) (Kd.R_base ho0) hb)
                    have n1_ := Aside0.mk (Kd.R_lower (Kd.R_new' (Kd.R_newM (M := fun k_ => (P1_0_ k_ ∨ w.heap.size ≤ k_)) ho0 (by first | exact HK.out.1 | exact (show Kept w _ (fun k_ => P1_0_ k_) from by repeat (first | (with_reducible first | exact HK.out | apply Kept.alloc | apply Kept.drewN | apply Kept.drew | refine Kept.setCell ?_ (.inr GW158.out) _) | exact HK.out)).1) (fun k_ h_ => .inr h_)) (Kd.R_lt (by (with_reducible repeat first | apply ra_ | apply rn_ | apply rw_); exact HO_159000.out))) (below_size (by repeat (first | (with_reducible first | exact HB.out | apply below_alloc | apply pw_below_drewN | apply below_drew1 | refine below_set ?_ GE158.out) | exact HB.out))))
                    have n2_ := Aside0.mk (blk_below (g := gb158) (o := .cells #[.slice Ao19 l1_0.length co19, .int .i64 a1_1] 31 (0, 0)) (by (with_reducible repeat (first | refine blk_drewN ?_ _ | refine blk_drew ?_ | refine blk_alloc ?_ _)); exact BK158.out) hb)
                    have n3_ := Aside0.mk (Kept.below (S := (fun k_ => P1_0_ k_)) (by repeat (first | (with_reducible first | exact HK.out | apply Kept.alloc | apply Kept.drewN | apply Kept.drew | refine Kept.setCell ?_ (.inr GW158.out) _) | exact HK.out)) hb)
                    have n4_ := Aside0.mk (below_step (by repeat (first | (with_reducible first | exact HB.out | apply below_alloc | apply pw_below_drewN | apply below_drew1 | refine below_set ?_ GE158.out) | exact HB.out)) hb)
                    clear HO_159000
                    clear BK158
                    clear HK
                    clear HB
                    have HO_159000 := n0_
                    have HO172 := n1_
                    have BK158 := n2_
                    have HK := n3_
                    have HB := n4_
                    clear n0_ n1_ n2_ n3_ n4_
                    (try clear hb)
                    (try clear hb2)
                    (try clear hk)
                    (try clear hi)
                    (try clear ho0)
                    refine hK.out _ _ ⟨(blk_cell BK158.out 0).trans rfl, (blk_cell BK158.out 1).trans rfl⟩ (fun hHeld => ?_)
                    clear hK K
                    refine norm_ (a' := ?_) ?_ ?_
                    rotate_left
                    ·show Act.put _ (some 59) _ = _
                     simp only [Act.put, sa_, sz_, ss_, i64_w, i32_w]
                     rfl
                    exact norm_ (by simp only [putAll, Act.put, sa_, sz_, ss_] <;> rfl) (hJ2 (v171) _ ⟨hHeld, (by (with_reducible repeat first | apply ra_ | apply rn_ | apply rw_); exact Kd.R_mono HO172.out (fun _ hk => ⟨hk.1.1, hk.2⟩)), (by (with_reducible repeat first | apply ra_ | apply rn_ | apply rw_); exact HO_159000.out), (by (with_reducible repeat (first | refine blk_drewN ?_ _ | refine blk_drew ?_ | refine blk_alloc ?_ _)); exact BK158.out), (by repeat (first | (with_reducible first | exact HK.out | apply Kept.alloc | apply Kept.drewN | apply Kept.drew | refine Kept.setCell ?_ (.inr GW158.out) _) | exact HK.out)), (by repeat (first | (with_reducible first | exact HB.out | apply below_alloc | apply pw_below_drewN | apply below_drew1 | refine below_set ?_ GE158.out) | exact HB.out))⟩)
                   ·skip
                    refine Kd.R_lit_step (Kd.int .i64) _ 3 ?hg (N := 61) ?hd (xs := ([x6_1] : List Int)) (inner := [.int .i64 x6_1]) (ok := fun _ => True) (okp := fun _ => True) ?hr ?hp (fun _ hk => hk) trivial (Below.refl _ _) (Nat.le_refl _) (by simp) ?_; (case hd => rfl); (case hg => rfl); (case hr => first | (go_simp; done) | (go_simp; rfl)); (case hp => exact (Reps.one (show Kd.M (Kd.int .i64) _ _ _ x6_1 [.int .i64 x6_1] from rfl) (Reps.none _ _)))
                    intro v174 w39 ho40 hb hg_ hnew_
                    clear hg_ hnew_
                    (first | rw [← Ny173.out] at ho40 | (simp only [Int.reduceToNat] at ho40; rw [← Ny173.out] at ho40))
                    have n0_ := Aside0.mk (Kd.R_elder' (by (with_reducible repeat first | apply ra_ | apply rn_ | apply rw_); exact HO_159000.out) (Kd.R_base ho40) hb)
                    have n1_ := Aside0.mk (Kd.R_lower (Kd.R_new' (Kd.R_newM (M := fun k_ => (P1_0_ k_ ∨ w.heap.size ≤ k_)) ho40 (by first | exact HK.out.1 | exact (show Kept w _ (fun k_ => P1_0_ k_) from by repeat (first | (with_reducible first | exact HK.out | apply Kept.alloc | apply Kept.drewN | apply Kept.drew | refine Kept.setCell ?_ (.inr GW158.out) _) | exact HK.out)).1) (fun k_ h_ => .inr h_)) (Kd.R_lt (by (with_reducible repeat first | apply ra_ | apply rn_ | apply rw_); exact HO_159000.out))) (below_size (by repeat (first | (with_reducible first | exact HB.out | apply below_alloc | apply pw_below_drewN | apply below_drew1 | refine below_set ?_ GE158.out) | exact HB.out))))
                    have n2_ := Aside0.mk (blk_below (g := gb158) (o := .cells #[.slice Ao19 l1_0.length co19, .int .i64 a1_1] 31 (0, 0)) (by (with_reducible repeat (first | refine blk_drewN ?_ _ | refine blk_drew ?_ | refine blk_alloc ?_ _)); exact BK158.out) hb)
                    have n3_ := Aside0.mk (Kept.below (S := (fun k_ => P1_0_ k_)) (by repeat (first | (with_reducible first | exact HK.out | apply Kept.alloc | apply Kept.drewN | apply Kept.drew | refine Kept.setCell ?_ (.inr GW158.out) _) | exact HK.out)) hb)
                    have n4_ := Aside0.mk (below_step (by repeat (first | (with_reducible first | exact HB.out | apply below_alloc | apply pw_below_drewN | apply below_drew1 | refine below_set ?_ GE158.out) | exact HB.out)) hb)
                    clear HO_159000
                    clear BK158
                    clear HK
                    clear HB
                    have HO_159000 := n0_
                    have HO175 := n1_
                    have BK158 := n2_
                    have HK := n3_
                    have HB := n4_
                    clear n0_ n1_ n2_ n3_ n4_
                    clear hb ho40
                    refine hK.out _ _ ⟨(blk_cell BK158.out 0).trans rfl, (blk_cell BK158.out 1).trans rfl⟩ (fun hHeld => ?_)
                    clear hK K
                    refine norm_ (a' := ?_) ?_ ?_
                    rotate_left
                    ·show Act.put _ (some 61) _ = _
                     simp only [Act.put, sa_, sz_, ss_, i64_w, i32_w]
                     rfl
                    exact norm_ (by simp only [putAll, Act.put, sa_, sz_, ss_] <;> rfl) (hJ4 (v174) _ ⟨hHeld, (by (with_reducible repeat first | apply ra_ | apply rn_ | apply rw_); exact Kd.R_mono HO175.out (fun _ hk => ⟨hk.1.1, hk.2⟩)), (by (with_reducible repeat first | apply ra_ | apply rn_ | apply rw_); exact HO_159000.out), (by (with_reducible repeat (first | refine blk_drewN ?_ _ | refine blk_drew ?_ | refine blk_alloc ?_ _)); exact BK158.out), (by repeat (first | (with_reducible first | exact HK.out | apply Kept.alloc | apply Kept.drewN | apply Kept.drew | refine Kept.setCell ?_ (.inr GW158.out) _) | exact HK.out)), (by repeat (first | (with_reducible first | exact HB.out | apply below_alloc | apply pw_below_drewN | apply below_drew1 | refine below_set ?_ GE158.out) | exact HB.out))⟩)
                   ·skip
                    refine box_step ?hg (N := 9) ?hd (cs := #[.slice none 0 0, .int .i64 0]) (t := 31) ?hr ?_; (case hd => rfl); (case hg => rfl); (case hr => first | (go_simp; done) | (go_simp; rfl))
                    intro gb179 hg w39 hbox hb
                    have n0_ := Aside0.mk (Kd.R_below (by (with_reducible repeat first | apply ra_ | apply rn_ | apply rw_); exact HO_159000.out) hb)
                    have n1_ := Aside0.mk (blk_below (g := gb158) (o := .cells #[.slice Ao19 l1_0.length co19, .int .i64 a1_1] 31 (0, 0)) (by (with_reducible repeat (first | refine blk_drewN ?_ _ | refine blk_drew ?_ | refine blk_alloc ?_ _)); exact BK158.out) hb)
                    have n2_ := Aside0.mk (Kept.below (S := (fun k_ => P1_0_ k_)) (by repeat (first | (with_reducible first | exact HK.out | apply Kept.alloc | apply Kept.drewN | apply Kept.drew | refine Kept.setCell ?_ (.inr GW158.out) _) | exact HK.out)) hb)
                    have n3_ := Aside0.mk (below_step (by repeat (first | (with_reducible first | exact HB.out | apply below_alloc | apply pw_below_drewN | apply below_drew1 | refine below_set ?_ GE158.out) | exact HB.out)) hb)
                    have n4_ := Aside0.mk (hbox)
                    have n5_ := Aside0.mk ((by rw [hg]; exact (by first | exact HK.out.1 | exact (show Kept w _ (fun k_ => P1_0_ k_) from by repeat (first | (with_reducible first | exact HK.out | apply Kept.alloc | apply Kept.drewN | apply Kept.drew | refine Kept.setCell ?_ (.inr GW158.out) _) | exact HK.out)).1) : w.heap.size ≤ gb179))
                    have n6_ := Aside0.mk ((by rw [hg]; exact (below_size (by repeat (first | (with_reducible first | exact HB.out | apply below_alloc | apply pw_below_drewN | apply below_drew1 | refine below_set ?_ GE158.out) | exact HB.out))) : w0.heap.size ≤ gb179))
                    have n7_ := Aside0.mk ((by rw [hg]; exact Nat.ne_of_lt (blk_lt (g := gb158) (o := .cells #[.slice Ao19 l1_0.length co19, .int .i64 a1_1] 31 (0, 0)) (by (with_reducible repeat (first | refine blk_drewN ?_ _ | refine blk_drew ?_ | refine blk_alloc ?_ _)); exact BK158.out)) : gb158 ≠ gb179))
                    have n8_ := Aside0.mk ((by rw [hg]; exact Nat.ne_of_gt (blk_lt (g := gb158) (o := .cells #[.slice Ao19 l1_0.length co19, .int .i64 a1_1] 31 (0, 0)) (by (with_reducible repeat (first | refine blk_drewN ?_ _ | refine blk_drew ?_ | refine blk_alloc ?_ _)); exact BK158.out)) : gb179 ≠ gb158))
                    clear HO_159000
                    clear BK158
                    clear HK
                    clear HB
                    have HO_159000 := n0_
                    have BK158 := n1_
                    have HK := n2_
                    have HB := n3_
                    have BK179 := n4_
                    have GW179 := n5_
                    have GE179 := n6_
                    have NB158_179 := n7_
                    have NB179_158 := n8_
                    clear n0_ n1_ n2_ n3_ n4_ n5_ n6_ n7_ n8_
                    clear hb hbox hg
                    refine hK.out _ _ ⟨(blk_cell BK158.out 0).trans rfl, (blk_cell BK158.out 1).trans rfl⟩ (fun hHeld => ?_)
                    clear hK K
                    refine norm_ (a' := ?_) ?_ ?_
                    rotate_left
                    ·show Act.put _ (some 9) _ = _
                     simp only [Act.put, sa_, sz_, ss_, i64_w, i32_w]
                     rfl
                    exact norm_ (by simp only [putAll, Act.put, sa_, sz_, ss_] <;> rfl) (hJ9 (gb179) _ ⟨hHeld, (by (with_reducible repeat first | apply ra_ | apply rn_ | apply rw_); exact HO_159000.out), (by (with_reducible repeat (first | refine blk_drewN ?_ _ | refine blk_drew ?_ | refine blk_alloc ?_ _)); exact BK158.out), (by (with_reducible repeat (first | refine blk_drewN ?_ _ | refine blk_drew ?_ | refine blk_alloc ?_ _)); exact BK179.out), GW179.out, GE179.out, NB158_179.out, NB179_158.out, (by repeat (first | (with_reducible first | exact HK.out | apply Kept.alloc | apply Kept.drewN | apply Kept.drew | refine Kept.setCell ?_ (.inr GW158.out) _ | refine Kept.setCell ?_ (.inr GW179.out) _) | exact HK.out)), (by repeat (first | (with_reducible first | exact HB.out | apply below_alloc | apply pw_below_drewN | apply below_drew1 | refine below_set ?_ GE158.out | refine below_set ?_ GE179.out) | exact HB.out))⟩)
                  ·skip
                   rintro gb179 w40 ⟨hS_, h0_, h1_, h2_, h3_, h4_, h5_, h6_, h7_, h8_⟩
                   have n0_ : Aside0 (Kd.R (Kd.int .i64) 3 w40 w0.heap.size (fun k_ => (P1_0_ k_ ∨ w.heap.size ≤ k_)) (.slice Ao19 l1_0.length co19) l1_0) := ⟨h0_⟩
                   have n1_ : Aside0 (w40.heap[gb158]? = some (.cells #[.slice Ao19 l1_0.length co19, .int .i64 a1_1] 31 (0, 0))) := ⟨h1_⟩
                   have n2_ : Aside0 (w40.heap[gb179]? = some (.cells #[.slice none 0 0, .int .i64 0] 31 (0, 0))) := ⟨h2_⟩
                   have n3_ : Aside0 (w.heap.size ≤ gb179) := ⟨h3_⟩
                   have n4_ : Aside0 (w0.heap.size ≤ gb179) := ⟨h4_⟩
                   have n5_ : Aside0 (gb158 ≠ gb179) := ⟨h5_⟩
                   have n6_ : Aside0 (gb179 ≠ gb158) := ⟨h6_⟩
                   have n7_ : Aside0 (Kept w w40 (fun k_ => P1_0_ k_)) := ⟨h7_⟩
                   have n8_ : Aside0 (Below w0.heap.size w0 w40) := ⟨h8_⟩
                   clear HO_159000
                   clear BK158
                   clear HK
                   clear HB
                   clear h0_ h1_ h2_ h3_ h4_ h5_ h6_ h7_ h8_
                   have HO_159000 := n0_
                   have BK158 := n1_
                   have BK179 := n2_
                   have GW179 := n3_
                   have GE179 := n4_
                   have NB158_179 := n5_
                   have NB179_158 := n6_
                   have HK := n7_
                   have HB := n8_
                   clear n0_ n1_ n2_ n3_ n4_ n5_ n6_ n7_ n8_
                   have hHeld : w40.cell? ⟨gb158, 0, none⟩ = some (.slice Ao19 l1_0.length co19) ∧ w40.cell? ⟨gb158, 1, none⟩ = some (.int .i64 a1_1) := hS_
                   refine norm_ (a' := ?_) ?_ ?_
                   rotate_left
                   ·simp only [putAll, Act.put, sa_, sz_, ss_]
                    rfl
                   refine two_ (i := 2) (j := 4) (Ni := some 59) (Nj := some 61) #[true, true, true, true, false, false, true, true, false, true, false] #[true, true, false, true, true, false, true, true, false, true, false] rfl rfl rfl rfl (two_of HT_.out (by kernel_rfl)) (by decide) (by decide) (fun K hK => ?_) (fun K hK => ?_)
                   ·skip
                    refine goes_ Try.func17 (by kernel_rfl) rfl #[.slice Ao19 l1_0.length co19] (by rfl) rfl rfl (by (try simp only [List.map_toArray, List.map_cons, List.map_nil]); first | done | rfl | (simp only [List.length_drop, List.length_take]; rfl)) ?_
                    with_reducible refine (spec_l1Own.calls _ _ l1_0 t170 _ ?side1 ?side2 A34.out).mono ?_
                    (case side1 => repeat (first | exact (Kd.R_reads' HO_159000.out).2.2 | (with_reducible refine Kd.C_alloc ?_ _) | (with_reducible refine Kd.C_drewN ?_ _) | (with_reducible refine Kd.C_drew ?_)))
                    (case side2 => exact (Kd.R_reads' HO_159000.out).2.1)
                    rintro e w41 ⟨v171, rfl, ho0, hb⟩
                    refine ⟨_, rfl, ?_⟩
                    have n0_ := Aside0.mk (Kd.R_elder' (by (with_reducible repeat first | apply ra_ | apply rn_ | apply rw_); exact HO_159000.out) (Kd.R_base ho0) hb)
                    have n1_ := Aside0.mk (Kd.R_lower (Kd.R_new' (Kd.R_newM (M := fun k_ => (P1_0_ k_ ∨ w.heap.size ≤ k_)) ho0 (by first | exact HK.out.1 | exact (show Kept w _ (fun k_ => P1_0_ k_) from by repeat (first | (with_reducible first | exact HK.out | apply Kept.alloc | apply Kept.drewN | apply Kept.drew | refine Kept.setCell ?_ (.inr GW158.out) _ | refine Kept.setCell ?_ (.inr GW179.out) _) | exact HK.out)).1) (fun k_ h_ => .inr h_)) (Kd.R_lt (by (with_reducible repeat first | apply ra_ | apply rn_ | apply rw_); exact HO_159000.out))) (below_size (by repeat (first | (with_reducible first | exact HB.out | apply below_alloc | apply pw_below_drewN | apply below_drew1 | refine below_set ?_ GE158.out | refine below_set ?_ GE179.out) | exact HB.out))))
                    have n2_ := Aside0.mk (blk_below (g := gb158) (o := .cells #[.slice Ao19 l1_0.length co19, .int .i64 a1_1] 31 (0, 0)) (by (with_reducible repeat (first | refine blk_drewN ?_ _ | refine blk_drew ?_ | refine blk_alloc ?_ _)); exact BK158.out) hb)
                    have n3_ := Aside0.mk (blk_below (g := gb179) (o := .cells #[.slice none 0 0, .int .i64 0] 31 (0, 0)) (by (with_reducible repeat (first | refine blk_drewN ?_ _ | refine blk_drew ?_ | refine blk_alloc ?_ _)); exact BK179.out) hb)
                    have n4_ := Aside0.mk (Kept.below (S := (fun k_ => P1_0_ k_)) (by repeat (first | (with_reducible first | exact HK.out | apply Kept.alloc | apply Kept.drewN | apply Kept.drew | refine Kept.setCell ?_ (.inr GW158.out) _ | refine Kept.setCell ?_ (.inr GW179.out) _) | exact HK.out)) hb)
                    have n5_ := Aside0.mk (below_step (by repeat (first | (with_reducible first | exact HB.out | apply below_alloc | apply pw_below_drewN | apply below_drew1 | refine below_set ?_ GE158.out | refine below_set ?_ GE179.out) | exact HB.out)) hb)
                    clear HO_159000
                    clear BK158
                    clear BK179
                    clear HK
                    clear HB
                    have HO_159000 := n0_
                    have HO172 := n1_
                    have BK158 := n2_
                    have BK179 := n3_
                    have HK := n4_
                    have HB := n5_
                    clear n0_ n1_ n2_ n3_ n4_ n5_
                    (try clear hb)
                    (try clear hb2)
                    (try clear hk)
                    (try clear hi)
                    (try clear ho0)
                    refine hK.out _ _ ⟨(blk_cell BK158.out 0).trans rfl, (blk_cell BK158.out 1).trans rfl⟩ (fun hHeld => ?_)
                    clear hK K
                    refine norm_ (a' := ?_) ?_ ?_
                    rotate_left
                    ·show Act.put _ (some 59) _ = _
                     simp only [Act.put, sa_, sz_, ss_, i64_w, i32_w]
                     rfl
                    exact norm_ (by simp only [putAll, Act.put, sa_, sz_, ss_] <;> rfl) (hJ2_9 (v171, gb179) _ ⟨hHeld, (by (with_reducible repeat first | apply ra_ | apply rn_ | apply rw_); exact Kd.R_mono HO172.out (fun _ hk => ⟨hk.1.1, hk.2⟩)), (by (with_reducible repeat first | apply ra_ | apply rn_ | apply rw_); exact HO_159000.out), (by (with_reducible repeat (first | refine blk_drewN ?_ _ | refine blk_drew ?_ | refine blk_alloc ?_ _)); exact BK158.out), (by (with_reducible repeat (first | refine blk_drewN ?_ _ | refine blk_drew ?_ | refine blk_alloc ?_ _)); exact BK179.out), GW179.out, GE179.out, NB158_179.out, NB179_158.out, (by repeat (first | (with_reducible first | exact HK.out | apply Kept.alloc | apply Kept.drewN | apply Kept.drew | refine Kept.setCell ?_ (.inr GW158.out) _ | refine Kept.setCell ?_ (.inr GW179.out) _) | exact HK.out)), (by repeat (first | (with_reducible first | exact HB.out | apply below_alloc | apply pw_below_drewN | apply below_drew1 | refine below_set ?_ GE158.out | refine below_set ?_ GE179.out) | exact HB.out))⟩)
                   ·skip
                    refine Kd.R_lit_step (Kd.int .i64) _ 3 ?hg (N := 61) ?hd (xs := ([x6_1] : List Int)) (inner := [.int .i64 x6_1]) (ok := fun _ => True) (okp := fun _ => True) ?hr ?hp (fun _ hk => hk) trivial (Below.refl _ _) (Nat.le_refl _) (by simp) ?_; (case hd => rfl); (case hg => rfl); (case hr => first | (go_simp; done) | (go_simp; rfl)); (case hp => exact (Reps.one (show Kd.M (Kd.int .i64) _ _ _ x6_1 [.int .i64 x6_1] from rfl) (Reps.none _ _)))
                    intro v174 w41 ho42 hb hg_ hnew_
                    clear hg_ hnew_
                    (first | rw [← Ny173.out] at ho42 | (simp only [Int.reduceToNat] at ho42; rw [← Ny173.out] at ho42))
                    have n0_ := Aside0.mk (Kd.R_elder' (by (with_reducible repeat first | apply ra_ | apply rn_ | apply rw_); exact HO_159000.out) (Kd.R_base ho42) hb)
                    have n1_ := Aside0.mk (Kd.R_lower (Kd.R_new' (Kd.R_newM (M := fun k_ => (P1_0_ k_ ∨ w.heap.size ≤ k_)) ho42 (by first | exact HK.out.1 | exact (show Kept w _ (fun k_ => P1_0_ k_) from by repeat (first | (with_reducible first | exact HK.out | apply Kept.alloc | apply Kept.drewN | apply Kept.drew | refine Kept.setCell ?_ (.inr GW158.out) _ | refine Kept.setCell ?_ (.inr GW179.out) _) | exact HK.out)).1) (fun k_ h_ => .inr h_)) (Kd.R_lt (by (with_reducible repeat first | apply ra_ | apply rn_ | apply rw_); exact HO_159000.out))) (below_size (by repeat (first | (with_reducible first | exact HB.out | apply below_alloc | apply pw_below_drewN | apply below_drew1 | refine below_set ?_ GE158.out | refine below_set ?_ GE179.out) | exact HB.out))))
                    have n2_ := Aside0.mk (blk_below (g := gb158) (o := .cells #[.slice Ao19 l1_0.length co19, .int .i64 a1_1] 31 (0, 0)) (by (with_reducible repeat (first | refine blk_drewN ?_ _ | refine blk_drew ?_ | refine blk_alloc ?_ _)); exact BK158.out) hb)
                    have n3_ := Aside0.mk (blk_below (g := gb179) (o := .cells #[.slice none 0 0, .int .i64 0] 31 (0, 0)) (by (with_reducible repeat (first | refine blk_drewN ?_ _ | refine blk_drew ?_ | refine blk_alloc ?_ _)); exact BK179.out) hb)
                    have n4_ := Aside0.mk (Kept.below (S := (fun k_ => P1_0_ k_)) (by repeat (first | (with_reducible first | exact HK.out | apply Kept.alloc | apply Kept.drewN | apply Kept.drew | refine Kept.setCell ?_ (.inr GW158.out) _ | refine Kept.setCell ?_ (.inr GW179.out) _) | exact HK.out)) hb)
                    have n5_ := Aside0.mk (below_step (by repeat (first | (with_reducible first | exact HB.out | apply below_alloc | apply pw_below_drewN | apply below_drew1 | refine below_set ?_ GE158.out | refine below_set ?_ GE179.out) | exact HB.out)) hb)
                    clear HO_159000
                    clear BK158
                    clear BK179
                    clear HK
                    clear HB
                    have HO_159000 := n0_
                    have HO175 := n1_
                    have BK158 := n2_
                    have BK179 := n3_
                    have HK := n4_
                    have HB := n5_
                    clear n0_ n1_ n2_ n3_ n4_ n5_
                    clear hb ho42
                    refine hK.out _ _ ⟨(blk_cell BK158.out 0).trans rfl, (blk_cell BK158.out 1).trans rfl⟩ (fun hHeld => ?_)
                    clear hK K
                    refine norm_ (a' := ?_) ?_ ?_
                    rotate_left
                    ·show Act.put _ (some 61) _ = _
                     simp only [Act.put, sa_, sz_, ss_, i64_w, i32_w]
                     rfl
                    exact norm_ (by simp only [putAll, Act.put, sa_, sz_, ss_] <;> rfl) (hJ4_9 (v174, gb179) _ ⟨hHeld, (by (with_reducible repeat first | apply ra_ | apply rn_ | apply rw_); exact Kd.R_mono HO175.out (fun _ hk => ⟨hk.1.1, hk.2⟩)), (by (with_reducible repeat first | apply ra_ | apply rn_ | apply rw_); exact HO_159000.out), (by (with_reducible repeat (first | refine blk_drewN ?_ _ | refine blk_drew ?_ | refine blk_alloc ?_ _)); exact BK158.out), (by (with_reducible repeat (first | refine blk_drewN ?_ _ | refine blk_drew ?_ | refine blk_alloc ?_ _)); exact BK179.out), GW179.out, GE179.out, NB158_179.out, NB179_158.out, (by repeat (first | (with_reducible first | exact HK.out | apply Kept.alloc | apply Kept.drewN | apply Kept.drew | refine Kept.setCell ?_ (.inr GW158.out) _ | refine Kept.setCell ?_ (.inr GW179.out) _) | exact HK.out)), (by repeat (first | (with_reducible first | exact HB.out | apply below_alloc | apply pw_below_drewN | apply below_drew1 | refine below_set ?_ GE158.out | refine below_set ?_ GE179.out) | exact HB.out))⟩)
                 ·skip
                  rintro v174 w41 ⟨hS_, h0_, h1_, h2_, h3_, h4_⟩
                  have n0_ : Aside0 (Kd.R (Kd.int .i64) 3 w41 w0.heap.size (fun k_ => (P1_0_ k_ ∨ w.heap.size ≤ k_) ∧ some k_ ≠ (.slice Ao19 l1_0.length co19 : Value).ownBlock) v174 y173) := ⟨h0_⟩
                  have n1_ : Aside0 (Kd.R (Kd.int .i64) 3 w41 w0.heap.size (fun k_ => (P1_0_ k_ ∨ w.heap.size ≤ k_) ∧ some k_ ≠ (v174 : Value).ownBlock) (.slice Ao19 l1_0.length co19) l1_0) := ⟨h1_⟩
                  have n2_ : Aside0 (w41.heap[gb158]? = some (.cells #[.slice Ao19 l1_0.length co19, .int .i64 a1_1] 31 (0, 0))) := ⟨h2_⟩
                  have n3_ : Aside0 (Kept w w41 (fun k_ => P1_0_ k_)) := ⟨h3_⟩
                  have n4_ : Aside0 (Below w0.heap.size w0 w41) := ⟨h4_⟩
                  clear HO_159000
                  clear BK158
                  clear HK
                  clear HB
                  clear h0_ h1_ h2_ h3_ h4_
                  have HO175 := n0_
                  have HO_159000 := n1_
                  have BK158 := n2_
                  have HK := n3_
                  have HB := n4_
                  clear n0_ n1_ n2_ n3_ n4_
                  have hHeld : w41.cell? ⟨gb158, 0, none⟩ = some (.slice Ao19 l1_0.length co19) ∧ w41.cell? ⟨gb158, 1, none⟩ = some (.int .i64 a1_1) := hS_
                  refine norm_ (a' := ?_) ?_ ?_
                  rotate_left
                  ·simp only [putAll, Act.put, sa_, sz_, ss_]
                   rfl
                  refine two_ (i := 2) (j := 9) (Ni := some 59) (Nj := some 9) #[true, true, true, true, true, false, true, true, false, false, false] #[true, true, false, true, true, false, true, true, false, true, false] rfl rfl rfl rfl (two_of HT_.out (by kernel_rfl)) (by decide) (by decide) (fun K hK => ?_) (fun K hK => ?_)
                  ·skip
                   refine goes_ Try.func17 (by kernel_rfl) rfl #[.slice Ao19 l1_0.length co19] (by rfl) rfl rfl (by (try simp only [List.map_toArray, List.map_cons, List.map_nil]); first | done | rfl | (simp only [List.length_drop, List.length_take]; rfl)) ?_
                   with_reducible refine (spec_l1Own.calls _ _ l1_0 t170 _ ?side1 ?side2 A34.out).mono ?_
                   (case side1 => repeat (first | exact (Kd.R_reads' HO_159000.out).2.2 | (with_reducible refine Kd.C_alloc ?_ _) | (with_reducible refine Kd.C_drewN ?_ _) | (with_reducible refine Kd.C_drew ?_)))
                   (case side2 => exact (Kd.R_reads' HO_159000.out).2.1)
                   rintro e w42 ⟨v171, rfl, ho0, hb⟩
                   refine ⟨_, rfl, ?_⟩
                   have n0_ := Aside0.mk (Kd.R_elder' (by (with_reducible repeat first | apply ra_ | apply rn_ | apply rw_); exact HO_159000.out) (Kd.R_base ho0) hb)
                   have n1_ := Aside0.mk (Kd.R_elder' (by (with_reducible repeat first | apply ra_ | apply rn_ | apply rw_); exact HO175.out) (Kd.R_base ho0) hb)
                   have n2_ := Aside0.mk (Kd.R_lower (Kd.R_new' (Kd.R_new' (Kd.R_newM (M := fun k_ => (P1_0_ k_ ∨ w.heap.size ≤ k_)) ho0 (by first | exact HK.out.1 | exact (show Kept w _ (fun k_ => P1_0_ k_) from by repeat (first | (with_reducible first | exact HK.out | apply Kept.alloc | apply Kept.drewN | apply Kept.drew | refine Kept.setCell ?_ (.inr GW158.out) _) | exact HK.out)).1) (fun k_ h_ => .inr h_)) (Kd.R_lt (by (with_reducible repeat first | apply ra_ | apply rn_ | apply rw_); exact HO_159000.out))) (Kd.R_lt (by (with_reducible repeat first | apply ra_ | apply rn_ | apply rw_); exact HO175.out))) (below_size (by repeat (first | (with_reducible first | exact HB.out | apply below_alloc | apply pw_below_drewN | apply below_drew1 | refine below_set ?_ GE158.out) | exact HB.out))))
                   have n3_ := Aside0.mk (blk_below (g := gb158) (o := .cells #[.slice Ao19 l1_0.length co19, .int .i64 a1_1] 31 (0, 0)) (by (with_reducible repeat (first | refine blk_drewN ?_ _ | refine blk_drew ?_ | refine blk_alloc ?_ _)); exact BK158.out) hb)
                   have n4_ := Aside0.mk (Kept.below (S := (fun k_ => P1_0_ k_)) (by repeat (first | (with_reducible first | exact HK.out | apply Kept.alloc | apply Kept.drewN | apply Kept.drew | refine Kept.setCell ?_ (.inr GW158.out) _) | exact HK.out)) hb)
                   have n5_ := Aside0.mk (below_step (by repeat (first | (with_reducible first | exact HB.out | apply below_alloc | apply pw_below_drewN | apply below_drew1 | refine below_set ?_ GE158.out) | exact HB.out)) hb)
                   clear HO_159000
                   clear HO175
                   clear BK158
                   clear HK
                   clear HB
                   have HO_159000 := n0_
                   have HO175 := n1_
                   have HO172 := n2_
                   have BK158 := n3_
                   have HK := n4_
                   have HB := n5_
                   clear n0_ n1_ n2_ n3_ n4_ n5_
                   (try clear hb)
                   (try clear hb2)
                   (try clear hk)
                   (try clear hi)
                   (try clear ho0)
                   refine hK.out _ _ ⟨(blk_cell BK158.out 0).trans rfl, (blk_cell BK158.out 1).trans rfl⟩ (fun hHeld => ?_)
                   clear hK K
                   refine norm_ (a' := ?_) ?_ ?_
                   rotate_left
                   ·show Act.put _ (some 59) _ = _
                    simp only [Act.put, sa_, sz_, ss_, i64_w, i32_w]
                    rfl
                   exact norm_ (by simp only [putAll, Act.put, sa_, sz_, ss_] <;> rfl) (hJ2_4 (v171, v174) _ ⟨hHeld, (by (with_reducible repeat first | apply ra_ | apply rn_ | apply rw_); exact Kd.R_mono HO172.out (fun _ hk => ⟨hk.1.1.1, ⟨hk.2, hk.1.2⟩⟩)), (by (with_reducible repeat first | apply ra_ | apply rn_ | apply rw_); exact Kd.R_mono HO175.out (fun _ hk => ⟨hk.1.1, ⟨hk.2, hk.1.2⟩⟩)), (by (with_reducible repeat first | apply ra_ | apply rn_ | apply rw_); exact Kd.R_mono HO_159000.out (fun _ hk => ⟨hk.1.1, ⟨hk.2, hk.1.2⟩⟩)), (by (with_reducible repeat (first | refine blk_drewN ?_ _ | refine blk_drew ?_ | refine blk_alloc ?_ _)); exact BK158.out), (by repeat (first | (with_reducible first | exact HK.out | apply Kept.alloc | apply Kept.drewN | apply Kept.drew | refine Kept.setCell ?_ (.inr GW158.out) _) | exact HK.out)), (by repeat (first | (with_reducible first | exact HB.out | apply below_alloc | apply pw_below_drewN | apply below_drew1 | refine below_set ?_ GE158.out) | exact HB.out))⟩)
                  ·skip
                   refine box_step ?hg (N := 9) ?hd (cs := #[.slice none 0 0, .int .i64 0]) (t := 31) ?hr ?_; (case hd => rfl); (case hg => rfl); (case hr => first | (go_simp; done) | (go_simp; rfl))
                   intro gb179 hg w42 hbox hb
                   have n0_ := Aside0.mk (Kd.R_below (by (with_reducible repeat first | apply ra_ | apply rn_ | apply rw_); exact HO_159000.out) hb)
                   have n1_ := Aside0.mk (Kd.R_below (by (with_reducible repeat first | apply ra_ | apply rn_ | apply rw_); exact HO175.out) hb)
                   have n2_ := Aside0.mk (blk_below (g := gb158) (o := .cells #[.slice Ao19 l1_0.length co19, .int .i64 a1_1] 31 (0, 0)) (by (with_reducible repeat (first | refine blk_drewN ?_ _ | refine blk_drew ?_ | refine blk_alloc ?_ _)); exact BK158.out) hb)
                   have n3_ := Aside0.mk (Kept.below (S := (fun k_ => P1_0_ k_)) (by repeat (first | (with_reducible first | exact HK.out | apply Kept.alloc | apply Kept.drewN | apply Kept.drew | refine Kept.setCell ?_ (.inr GW158.out) _) | exact HK.out)) hb)
                   have n4_ := Aside0.mk (below_step (by repeat (first | (with_reducible first | exact HB.out | apply below_alloc | apply pw_below_drewN | apply below_drew1 | refine below_set ?_ GE158.out) | exact HB.out)) hb)
                   have n5_ := Aside0.mk (hbox)
                   have n6_ := Aside0.mk ((by rw [hg]; exact (by first | exact HK.out.1 | exact (show Kept w _ (fun k_ => P1_0_ k_) from by repeat (first | (with_reducible first | exact HK.out | apply Kept.alloc | apply Kept.drewN | apply Kept.drew | refine Kept.setCell ?_ (.inr GW158.out) _) | exact HK.out)).1) : w.heap.size ≤ gb179))
                   have n7_ := Aside0.mk ((by rw [hg]; exact (below_size (by repeat (first | (with_reducible first | exact HB.out | apply below_alloc | apply pw_below_drewN | apply below_drew1 | refine below_set ?_ GE158.out) | exact HB.out))) : w0.heap.size ≤ gb179))
                   have n8_ := Aside0.mk ((by rw [hg]; exact Nat.ne_of_lt (blk_lt (g := gb158) (o := .cells #[.slice Ao19 l1_0.length co19, .int .i64 a1_1] 31 (0, 0)) (by (with_reducible repeat (first | refine blk_drewN ?_ _ | refine blk_drew ?_ | refine blk_alloc ?_ _)); exact BK158.out)) : gb158 ≠ gb179))
                   have n9_ := Aside0.mk ((by rw [hg]; exact Nat.ne_of_gt (blk_lt (g := gb158) (o := .cells #[.slice Ao19 l1_0.length co19, .int .i64 a1_1] 31 (0, 0)) (by (with_reducible repeat (first | refine blk_drewN ?_ _ | refine blk_drew ?_ | refine blk_alloc ?_ _)); exact BK158.out)) : gb179 ≠ gb158))
                   clear HO_159000
                   clear HO175
                   clear BK158
                   clear HK
                   clear HB
                   have HO_159000 := n0_
                   have HO175 := n1_
                   have BK158 := n2_
                   have HK := n3_
                   have HB := n4_
                   have BK179 := n5_
                   have GW179 := n6_
                   have GE179 := n7_
                   have NB158_179 := n8_
                   have NB179_158 := n9_
                   clear n0_ n1_ n2_ n3_ n4_ n5_ n6_ n7_ n8_ n9_
                   clear hb hbox hg
                   refine hK.out _ _ ⟨(blk_cell BK158.out 0).trans rfl, (blk_cell BK158.out 1).trans rfl⟩ (fun hHeld => ?_)
                   clear hK K
                   refine norm_ (a' := ?_) ?_ ?_
                   rotate_left
                   ·show Act.put _ (some 9) _ = _
                    simp only [Act.put, sa_, sz_, ss_, i64_w, i32_w]
                    rfl
                   exact norm_ (by simp only [putAll, Act.put, sa_, sz_, ss_] <;> rfl) (hJ4_9 (v174, gb179) _ ⟨hHeld, (by (with_reducible repeat first | apply ra_ | apply rn_ | apply rw_); exact HO175.out), (by (with_reducible repeat first | apply ra_ | apply rn_ | apply rw_); exact HO_159000.out), (by (with_reducible repeat (first | refine blk_drewN ?_ _ | refine blk_drew ?_ | refine blk_alloc ?_ _)); exact BK158.out), (by (with_reducible repeat (first | refine blk_drewN ?_ _ | refine blk_drew ?_ | refine blk_alloc ?_ _)); exact BK179.out), GW179.out, GE179.out, NB158_179.out, NB179_158.out, (by repeat (first | (with_reducible first | exact HK.out | apply Kept.alloc | apply Kept.drewN | apply Kept.drew | refine Kept.setCell ?_ (.inr GW158.out) _ | refine Kept.setCell ?_ (.inr GW179.out) _) | exact HK.out)), (by repeat (first | (with_reducible first | exact HB.out | apply below_alloc | apply pw_below_drewN | apply below_drew1 | refine below_set ?_ GE158.out | refine below_set ?_ GE179.out) | exact HB.out))⟩)
                ·skip
                 rintro v171 w40 ⟨hS_, h0_, h1_, h2_, h3_, h4_⟩
                 have n0_ : Aside0 (Kd.R (Kd.int .i64) 3 w40 w0.heap.size (fun k_ => (P1_0_ k_ ∨ w.heap.size ≤ k_) ∧ some k_ ≠ (.slice Ao19 l1_0.length co19 : Value).ownBlock) v171 t170) := ⟨h0_⟩
                 have n1_ : Aside0 (Kd.R (Kd.int .i64) 3 w40 w0.heap.size (fun k_ => (P1_0_ k_ ∨ w.heap.size ≤ k_) ∧ some k_ ≠ (v171 : Value).ownBlock) (.slice Ao19 l1_0.length co19) l1_0) := ⟨h1_⟩
                 have n2_ : Aside0 (w40.heap[gb158]? = some (.cells #[.slice Ao19 l1_0.length co19, .int .i64 a1_1] 31 (0, 0))) := ⟨h2_⟩
                 have n3_ : Aside0 (Kept w w40 (fun k_ => P1_0_ k_)) := ⟨h3_⟩
                 have n4_ : Aside0 (Below w0.heap.size w0 w40) := ⟨h4_⟩
                 clear HO_159000
                 clear BK158
                 clear HK
                 clear HB
                 clear h0_ h1_ h2_ h3_ h4_
                 have HO172 := n0_
                 have HO_159000 := n1_
                 have BK158 := n2_
                 have HK := n3_
                 have HB := n4_
                 clear n0_ n1_ n2_ n3_ n4_
                 have hHeld : w40.cell? ⟨gb158, 0, none⟩ = some (.slice Ao19 l1_0.length co19) ∧ w40.cell? ⟨gb158, 1, none⟩ = some (.int .i64 a1_1) := hS_
                 refine norm_ (a' := ?_) ?_ ?_
                 rotate_left
                 ·simp only [putAll, Act.put, sa_, sz_, ss_]
                  rfl
                 refine two_ (i := 4) (j := 9) (Ni := some 61) (Nj := some 9) #[true, true, true, true, true, false, true, true, false, false, false] #[true, true, true, true, false, false, true, true, false, true, false] rfl rfl rfl rfl (two_of HT_.out (by kernel_rfl)) (by decide) (by decide) (fun K hK => ?_) (fun K hK => ?_)
                 ·skip
                  refine Kd.R_lit_step (Kd.int .i64) _ 3 ?hg (N := 61) ?hd (xs := ([x6_1] : List Int)) (inner := [.int .i64 x6_1]) (ok := fun _ => True) (okp := fun _ => True) ?hr ?hp (fun _ hk => hk) trivial (Below.refl _ _) (Nat.le_refl _) (by simp) ?_; (case hd => rfl); (case hg => rfl); (case hr => first | (go_simp; done) | (go_simp; rfl)); (case hp => exact (Reps.one (show Kd.M (Kd.int .i64) _ _ _ x6_1 [.int .i64 x6_1] from rfl) (Reps.none _ _)))
                  intro v174 w41 ho42 hb hg_ hnew_
                  clear hg_ hnew_
                  (first | rw [← Ny173.out] at ho42 | (simp only [Int.reduceToNat] at ho42; rw [← Ny173.out] at ho42))
                  have n0_ := Aside0.mk (Kd.R_elder' (by (with_reducible repeat first | apply ra_ | apply rn_ | apply rw_); exact HO_159000.out) (Kd.R_base ho42) hb)
                  have n1_ := Aside0.mk (Kd.R_elder' (by (with_reducible repeat first | apply ra_ | apply rn_ | apply rw_); exact HO172.out) (Kd.R_base ho42) hb)
                  have n2_ := Aside0.mk (Kd.R_lower (Kd.R_new' (Kd.R_new' (Kd.R_newM (M := fun k_ => (P1_0_ k_ ∨ w.heap.size ≤ k_)) ho42 (by first | exact HK.out.1 | exact (show Kept w _ (fun k_ => P1_0_ k_) from by repeat (first | (with_reducible first | exact HK.out | apply Kept.alloc | apply Kept.drewN | apply Kept.drew | refine Kept.setCell ?_ (.inr GW158.out) _) | exact HK.out)).1) (fun k_ h_ => .inr h_)) (Kd.R_lt (by (with_reducible repeat first | apply ra_ | apply rn_ | apply rw_); exact HO_159000.out))) (Kd.R_lt (by (with_reducible repeat first | apply ra_ | apply rn_ | apply rw_); exact HO172.out))) (below_size (by repeat (first | (with_reducible first | exact HB.out | apply below_alloc | apply pw_below_drewN | apply below_drew1 | refine below_set ?_ GE158.out) | exact HB.out))))
                  have n3_ := Aside0.mk (blk_below (g := gb158) (o := .cells #[.slice Ao19 l1_0.length co19, .int .i64 a1_1] 31 (0, 0)) (by (with_reducible repeat (first | refine blk_drewN ?_ _ | refine blk_drew ?_ | refine blk_alloc ?_ _)); exact BK158.out) hb)
                  have n4_ := Aside0.mk (Kept.below (S := (fun k_ => P1_0_ k_)) (by repeat (first | (with_reducible first | exact HK.out | apply Kept.alloc | apply Kept.drewN | apply Kept.drew | refine Kept.setCell ?_ (.inr GW158.out) _) | exact HK.out)) hb)
                  have n5_ := Aside0.mk (below_step (by repeat (first | (with_reducible first | exact HB.out | apply below_alloc | apply pw_below_drewN | apply below_drew1 | refine below_set ?_ GE158.out) | exact HB.out)) hb)
                  clear HO_159000
                  clear HO172
                  clear BK158
                  clear HK
                  clear HB
                  have HO_159000 := n0_
                  have HO172 := n1_
                  have HO175 := n2_
                  have BK158 := n3_
                  have HK := n4_
                  have HB := n5_
                  clear n0_ n1_ n2_ n3_ n4_ n5_
                  clear hb ho42
                  refine hK.out _ _ ⟨(blk_cell BK158.out 0).trans rfl, (blk_cell BK158.out 1).trans rfl⟩ (fun hHeld => ?_)
                  clear hK K
                  refine norm_ (a' := ?_) ?_ ?_
                  rotate_left
                  ·show Act.put _ (some 61) _ = _
                   simp only [Act.put, sa_, sz_, ss_, i64_w, i32_w]
                   rfl
                  exact norm_ (by simp only [putAll, Act.put, sa_, sz_, ss_] <;> rfl) (hJ2_4 (v171, v174) _ ⟨hHeld, (by (with_reducible repeat first | apply ra_ | apply rn_ | apply rw_); exact Kd.R_mono HO172.out (fun _ hk => ⟨hk.1.1, ⟨hk.2, hk.1.2⟩⟩)), (by (with_reducible repeat first | apply ra_ | apply rn_ | apply rw_); exact Kd.R_mono HO175.out (fun _ hk => ⟨hk.1.1.1, ⟨hk.2, hk.1.2⟩⟩)), (by (with_reducible repeat first | apply ra_ | apply rn_ | apply rw_); exact Kd.R_mono HO_159000.out (fun _ hk => ⟨hk.1.1, ⟨hk.1.2, hk.2⟩⟩)), (by (with_reducible repeat (first | refine blk_drewN ?_ _ | refine blk_drew ?_ | refine blk_alloc ?_ _)); exact BK158.out), (by repeat (first | (with_reducible first | exact HK.out | apply Kept.alloc | apply Kept.drewN | apply Kept.drew | refine Kept.setCell ?_ (.inr GW158.out) _) | exact HK.out)), (by repeat (first | (with_reducible first | exact HB.out | apply below_alloc | apply pw_below_drewN | apply below_drew1 | refine below_set ?_ GE158.out) | exact HB.out))⟩)
                 ·skip
                  refine box_step ?hg (N := 9) ?hd (cs := #[.slice none 0 0, .int .i64 0]) (t := 31) ?hr ?_; (case hd => rfl); (case hg => rfl); (case hr => first | (go_simp; done) | (go_simp; rfl))
                  intro gb179 hg w41 hbox hb
                  have n0_ := Aside0.mk (Kd.R_below (by (with_reducible repeat first | apply ra_ | apply rn_ | apply rw_); exact HO_159000.out) hb)
                  have n1_ := Aside0.mk (Kd.R_below (by (with_reducible repeat first | apply ra_ | apply rn_ | apply rw_); exact HO172.out) hb)
                  have n2_ := Aside0.mk (blk_below (g := gb158) (o := .cells #[.slice Ao19 l1_0.length co19, .int .i64 a1_1] 31 (0, 0)) (by (with_reducible repeat (first | refine blk_drewN ?_ _ | refine blk_drew ?_ | refine blk_alloc ?_ _)); exact BK158.out) hb)
                  have n3_ := Aside0.mk (Kept.below (S := (fun k_ => P1_0_ k_)) (by repeat (first | (with_reducible first | exact HK.out | apply Kept.alloc | apply Kept.drewN | apply Kept.drew | refine Kept.setCell ?_ (.inr GW158.out) _) | exact HK.out)) hb)
                  have n4_ := Aside0.mk (below_step (by repeat (first | (with_reducible first | exact HB.out | apply below_alloc | apply pw_below_drewN | apply below_drew1 | refine below_set ?_ GE158.out) | exact HB.out)) hb)
                  have n5_ := Aside0.mk (hbox)
                  have n6_ := Aside0.mk ((by rw [hg]; exact (by first | exact HK.out.1 | exact (show Kept w _ (fun k_ => P1_0_ k_) from by repeat (first | (with_reducible first | exact HK.out | apply Kept.alloc | apply Kept.drewN | apply Kept.drew | refine Kept.setCell ?_ (.inr GW158.out) _) | exact HK.out)).1) : w.heap.size ≤ gb179))
                  have n7_ := Aside0.mk ((by rw [hg]; exact (below_size (by repeat (first | (with_reducible first | exact HB.out | apply below_alloc | apply pw_below_drewN | apply below_drew1 | refine below_set ?_ GE158.out) | exact HB.out))) : w0.heap.size ≤ gb179))
                  have n8_ := Aside0.mk ((by rw [hg]; exact Nat.ne_of_lt (blk_lt (g := gb158) (o := .cells #[.slice Ao19 l1_0.length co19, .int .i64 a1_1] 31 (0, 0)) (by (with_reducible repeat (first | refine blk_drewN ?_ _ | refine blk_drew ?_ | refine blk_alloc ?_ _)); exact BK158.out)) : gb158 ≠ gb179))
                  have n9_ := Aside0.mk ((by rw [hg]; exact Nat.ne_of_gt (blk_lt (g := gb158) (o := .cells #[.slice Ao19 l1_0.length co19, .int .i64 a1_1] 31 (0, 0)) (by (with_reducible repeat (first | refine blk_drewN ?_ _ | refine blk_drew ?_ | refine blk_alloc ?_ _)); exact BK158.out)) : gb179 ≠ gb158))
                  clear HO_159000
                  clear HO172
                  clear BK158
                  clear HK
                  clear HB
                  have HO_159000 := n0_
                  have HO172 := n1_
                  have BK158 := n2_
                  have HK := n3_
                  have HB := n4_
                  have BK179 := n5_
                  have GW179 := n6_
                  have GE179 := n7_
                  have NB158_179 := n8_
                  have NB179_158 := n9_
                  clear n0_ n1_ n2_ n3_ n4_ n5_ n6_ n7_ n8_ n9_
                  clear hb hbox hg
                  refine hK.out _ _ ⟨(blk_cell BK158.out 0).trans rfl, (blk_cell BK158.out 1).trans rfl⟩ (fun hHeld => ?_)
                  clear hK K
                  refine norm_ (a' := ?_) ?_ ?_
                  rotate_left
                  ·show Act.put _ (some 9) _ = _
                   simp only [Act.put, sa_, sz_, ss_, i64_w, i32_w]
                   rfl
                  exact norm_ (by simp only [putAll, Act.put, sa_, sz_, ss_] <;> rfl) (hJ2_9 (v171, gb179) _ ⟨hHeld, (by (with_reducible repeat first | apply ra_ | apply rn_ | apply rw_); exact HO172.out), (by (with_reducible repeat first | apply ra_ | apply rn_ | apply rw_); exact HO_159000.out), (by (with_reducible repeat (first | refine blk_drewN ?_ _ | refine blk_drew ?_ | refine blk_alloc ?_ _)); exact BK158.out), (by (with_reducible repeat (first | refine blk_drewN ?_ _ | refine blk_drew ?_ | refine blk_alloc ?_ _)); exact BK179.out), GW179.out, GE179.out, NB158_179.out, NB179_158.out, (by repeat (first | (with_reducible first | exact HK.out | apply Kept.alloc | apply Kept.drewN | apply Kept.drew | refine Kept.setCell ?_ (.inr GW158.out) _ | refine Kept.setCell ?_ (.inr GW179.out) _) | exact HK.out)), (by repeat (first | (with_reducible first | exact HB.out | apply below_alloc | apply pw_below_drewN | apply below_drew1 | refine below_set ?_ GE158.out | refine below_set ?_ GE179.out) | exact HB.out))⟩)
               ·skip
                rintro ⟨v174, gb179⟩ w42 ⟨hS_, h0_, h1_, h2_, h3_, h4_, h5_, h6_, h7_, h8_, h9_⟩
                have n0_ : Aside0 (Kd.R (Kd.int .i64) 3 w42 w0.heap.size (fun k_ => (P1_0_ k_ ∨ w.heap.size ≤ k_) ∧ some k_ ≠ (.slice Ao19 l1_0.length co19 : Value).ownBlock) v174 y173) := ⟨h0_⟩
                have n1_ : Aside0 (Kd.R (Kd.int .i64) 3 w42 w0.heap.size (fun k_ => (P1_0_ k_ ∨ w.heap.size ≤ k_) ∧ some k_ ≠ (v174 : Value).ownBlock) (.slice Ao19 l1_0.length co19) l1_0) := ⟨h1_⟩
                have n2_ : Aside0 (w42.heap[gb158]? = some (.cells #[.slice Ao19 l1_0.length co19, .int .i64 a1_1] 31 (0, 0))) := ⟨h2_⟩
                have n3_ : Aside0 (w42.heap[gb179]? = some (.cells #[.slice none 0 0, .int .i64 0] 31 (0, 0))) := ⟨h3_⟩
                have n4_ : Aside0 (w.heap.size ≤ gb179) := ⟨h4_⟩
                have n5_ : Aside0 (w0.heap.size ≤ gb179) := ⟨h5_⟩
                have n6_ : Aside0 (gb158 ≠ gb179) := ⟨h6_⟩
                have n7_ : Aside0 (gb179 ≠ gb158) := ⟨h7_⟩
                have n8_ : Aside0 (Kept w w42 (fun k_ => P1_0_ k_)) := ⟨h8_⟩
                have n9_ : Aside0 (Below w0.heap.size w0 w42) := ⟨h9_⟩
                clear HO_159000
                clear BK158
                clear HK
                clear HB
                clear h0_ h1_ h2_ h3_ h4_ h5_ h6_ h7_ h8_ h9_
                have HO175 := n0_
                have HO_159000 := n1_
                have BK158 := n2_
                have BK179 := n3_
                have GW179 := n4_
                have GE179 := n5_
                have NB158_179 := n6_
                have NB179_158 := n7_
                have HK := n8_
                have HB := n9_
                clear n0_ n1_ n2_ n3_ n4_ n5_ n6_ n7_ n8_ n9_
                have hHeld : w42.cell? ⟨gb158, 0, none⟩ = some (.slice Ao19 l1_0.length co19) ∧ w42.cell? ⟨gb158, 1, none⟩ = some (.int .i64 a1_1) := hS_
                refine norm_ (a' := ?_) ?_ ?_
                rotate_left
                ·simp only [putAll, Act.put, sa_, sz_, ss_]
                 rfl
                refine one_ (i := 2) (N := some 59) #[true, true, true, true, true, false, true, true, false, true, false] rfl rfl (one_of HT_.out (by kernel_rfl)) (by decide) (fun K hK => ?_)
                refine goes_ Try.func17 (by kernel_rfl) rfl #[.slice Ao19 l1_0.length co19] (by rfl) rfl rfl (by (try simp only [List.map_toArray, List.map_cons, List.map_nil]); first | done | rfl | (simp only [List.length_drop, List.length_take]; rfl)) ?_
                with_reducible refine (spec_l1Own.calls _ _ l1_0 t170 _ ?side1 ?side2 A34.out).mono ?_
                (case side1 => repeat (first | exact (Kd.R_reads' HO_159000.out).2.2 | (with_reducible refine Kd.C_alloc ?_ _) | (with_reducible refine Kd.C_drewN ?_ _) | (with_reducible refine Kd.C_drew ?_)))
                (case side2 => exact (Kd.R_reads' HO_159000.out).2.1)
                rintro e w43 ⟨v171, rfl, ho0, hb⟩
                refine ⟨_, rfl, ?_⟩
                have n0_ := Aside0.mk (Kd.R_elder' (by (with_reducible repeat first | apply ra_ | apply rn_ | apply rw_); exact HO_159000.out) (Kd.R_base ho0) hb)
                have n1_ := Aside0.mk (Kd.R_elder' (by (with_reducible repeat first | apply ra_ | apply rn_ | apply rw_); exact HO175.out) (Kd.R_base ho0) hb)
                have n2_ := Aside0.mk (Kd.R_lower (Kd.R_new' (Kd.R_new' (Kd.R_newM (M := fun k_ => (P1_0_ k_ ∨ w.heap.size ≤ k_)) ho0 (by first | exact HK.out.1 | exact (show Kept w _ (fun k_ => P1_0_ k_) from by repeat (first | (with_reducible first | exact HK.out | apply Kept.alloc | apply Kept.drewN | apply Kept.drew | refine Kept.setCell ?_ (.inr GW158.out) _ | refine Kept.setCell ?_ (.inr GW179.out) _) | exact HK.out)).1) (fun k_ h_ => .inr h_)) (Kd.R_lt (by (with_reducible repeat first | apply ra_ | apply rn_ | apply rw_); exact HO_159000.out))) (Kd.R_lt (by (with_reducible repeat first | apply ra_ | apply rn_ | apply rw_); exact HO175.out))) (below_size (by repeat (first | (with_reducible first | exact HB.out | apply below_alloc | apply pw_below_drewN | apply below_drew1 | refine below_set ?_ GE158.out | refine below_set ?_ GE179.out) | exact HB.out))))
                have n3_ := Aside0.mk (blk_below (g := gb158) (o := .cells #[.slice Ao19 l1_0.length co19, .int .i64 a1_1] 31 (0, 0)) (by (with_reducible repeat (first | refine blk_drewN ?_ _ | refine blk_drew ?_ | refine blk_alloc ?_ _)); exact BK158.out) hb)
                have n4_ := Aside0.mk (blk_below (g := gb179) (o := .cells #[.slice none 0 0, .int .i64 0] 31 (0, 0)) (by (with_reducible repeat (first | refine blk_drewN ?_ _ | refine blk_drew ?_ | refine blk_alloc ?_ _)); exact BK179.out) hb)
                have n5_ := Aside0.mk (Kept.below (S := (fun k_ => P1_0_ k_)) (by repeat (first | (with_reducible first | exact HK.out | apply Kept.alloc | apply Kept.drewN | apply Kept.drew | refine Kept.setCell ?_ (.inr GW158.out) _ | refine Kept.setCell ?_ (.inr GW179.out) _) | exact HK.out)) hb)
                have n6_ := Aside0.mk (below_step (by repeat (first | (with_reducible first | exact HB.out | apply below_alloc | apply pw_below_drewN | apply below_drew1 | refine below_set ?_ GE158.out | refine below_set ?_ GE179.out) | exact HB.out)) hb)
                clear HO_159000
                clear HO175
                clear BK158
                clear BK179
                clear HK
                clear HB
                have HO_159000 := n0_
                have HO175 := n1_
                have HO172 := n2_
                have BK158 := n3_
                have BK179 := n4_
                have HK := n5_
                have HB := n6_
                clear n0_ n1_ n2_ n3_ n4_ n5_ n6_
                (try clear hb)
                (try clear hb2)
                (try clear hk)
                (try clear hi)
                (try clear ho0)
                refine hK.out _ _ ⟨(blk_cell BK158.out 0).trans rfl, (blk_cell BK158.out 1).trans rfl⟩ (fun hHeld => ?_)
                clear hK K
                refine norm_ (a' := ?_) ?_ ?_
                rotate_left
                ·show Act.put _ (some 59) _ = _
                 simp only [Act.put, sa_, sz_, ss_, i64_w, i32_w]
                 rfl
                exact norm_ (by simp only [putAll, Act.put, sa_, sz_, ss_] <;> rfl) (hJ2_4_9 (v171, v174, gb179) _ ⟨hHeld, (by (with_reducible repeat first | apply ra_ | apply rn_ | apply rw_); exact Kd.R_mono HO172.out (fun _ hk => ⟨hk.1.1.1, ⟨hk.2, hk.1.2⟩⟩)), (by (with_reducible repeat first | apply ra_ | apply rn_ | apply rw_); exact Kd.R_mono HO175.out (fun _ hk => ⟨hk.1.1, ⟨hk.2, hk.1.2⟩⟩)), (by (with_reducible repeat first | apply ra_ | apply rn_ | apply rw_); exact Kd.R_mono HO_159000.out (fun _ hk => ⟨hk.1.1, ⟨hk.2, hk.1.2⟩⟩)), (by (with_reducible repeat (first | refine blk_drewN ?_ _ | refine blk_drew ?_ | refine blk_alloc ?_ _)); exact BK158.out), (by (with_reducible repeat (first | refine blk_drewN ?_ _ | refine blk_drew ?_ | refine blk_alloc ?_ _)); exact BK179.out), GW179.out, GE179.out, NB158_179.out, NB179_158.out, (by repeat (first | (with_reducible first | exact HK.out | apply Kept.alloc | apply Kept.drewN | apply Kept.drew | refine Kept.setCell ?_ (.inr GW158.out) _ | refine Kept.setCell ?_ (.inr GW179.out) _) | exact HK.out)), (by repeat (first | (with_reducible first | exact HB.out | apply below_alloc | apply pw_below_drewN | apply below_drew1 | refine below_set ?_ GE158.out | refine below_set ?_ GE179.out) | exact HB.out))⟩)
              ·skip
               rintro ⟨v171, gb179⟩ w41 ⟨hS_, h0_, h1_, h2_, h3_, h4_, h5_, h6_, h7_, h8_, h9_⟩
               have n0_ : Aside0 (Kd.R (Kd.int .i64) 3 w41 w0.heap.size (fun k_ => (P1_0_ k_ ∨ w.heap.size ≤ k_) ∧ some k_ ≠ (.slice Ao19 l1_0.length co19 : Value).ownBlock) v171 t170) := ⟨h0_⟩
               have n1_ : Aside0 (Kd.R (Kd.int .i64) 3 w41 w0.heap.size (fun k_ => (P1_0_ k_ ∨ w.heap.size ≤ k_) ∧ some k_ ≠ (v171 : Value).ownBlock) (.slice Ao19 l1_0.length co19) l1_0) := ⟨h1_⟩
               have n2_ : Aside0 (w41.heap[gb158]? = some (.cells #[.slice Ao19 l1_0.length co19, .int .i64 a1_1] 31 (0, 0))) := ⟨h2_⟩
               have n3_ : Aside0 (w41.heap[gb179]? = some (.cells #[.slice none 0 0, .int .i64 0] 31 (0, 0))) := ⟨h3_⟩
               have n4_ : Aside0 (w.heap.size ≤ gb179) := ⟨h4_⟩
               have n5_ : Aside0 (w0.heap.size ≤ gb179) := ⟨h5_⟩
               have n6_ : Aside0 (gb158 ≠ gb179) := ⟨h6_⟩
               have n7_ : Aside0 (gb179 ≠ gb158) := ⟨h7_⟩
               have n8_ : Aside0 (Kept w w41 (fun k_ => P1_0_ k_)) := ⟨h8_⟩
               have n9_ : Aside0 (Below w0.heap.size w0 w41) := ⟨h9_⟩
               clear HO_159000
               clear BK158
               clear HK
               clear HB
               clear h0_ h1_ h2_ h3_ h4_ h5_ h6_ h7_ h8_ h9_
               have HO172 := n0_
               have HO_159000 := n1_
               have BK158 := n2_
               have BK179 := n3_
               have GW179 := n4_
               have GE179 := n5_
               have NB158_179 := n6_
               have NB179_158 := n7_
               have HK := n8_
               have HB := n9_
               clear n0_ n1_ n2_ n3_ n4_ n5_ n6_ n7_ n8_ n9_
               have hHeld : w41.cell? ⟨gb158, 0, none⟩ = some (.slice Ao19 l1_0.length co19) ∧ w41.cell? ⟨gb158, 1, none⟩ = some (.int .i64 a1_1) := hS_
               refine norm_ (a' := ?_) ?_ ?_
               rotate_left
               ·simp only [putAll, Act.put, sa_, sz_, ss_]
                rfl
               refine one_ (i := 4) (N := some 61) #[true, true, true, true, true, false, true, true, false, true, false] rfl rfl (one_of HT_.out (by kernel_rfl)) (by decide) (fun K hK => ?_)
               refine Kd.R_lit_step (Kd.int .i64) _ 3 ?hg (N := 61) ?hd (xs := ([x6_1] : List Int)) (inner := [.int .i64 x6_1]) (ok := fun _ => True) (okp := fun _ => True) ?hr ?hp (fun _ hk => hk) trivial (Below.refl _ _) (Nat.le_refl _) (by simp) ?_; (case hd => rfl); (case hg => rfl); (case hr => first | (go_simp; done) | (go_simp; rfl)); (case hp => exact (Reps.one (show Kd.M (Kd.int .i64) _ _ _ x6_1 [.int .i64 x6_1] from rfl) (Reps.none _ _)))
               intro v174 w42 ho43 hb hg_ hnew_
               clear hg_ hnew_
               (first | rw [← Ny173.out] at ho43 | (simp only [Int.reduceToNat] at ho43; rw [← Ny173.out] at ho43))
               have n0_ := Aside0.mk (Kd.R_elder' (by (with_reducible repeat first | apply ra_ | apply rn_ | apply rw_); exact HO_159000.out) (Kd.R_base ho43) hb)
               have n1_ := Aside0.mk (Kd.R_elder' (by (with_reducible repeat first | apply ra_ | apply rn_ | apply rw_); exact HO172.out) (Kd.R_base ho43) hb)
               have n2_ := Aside0.mk (Kd.R_lower (Kd.R_new' (Kd.R_new' (Kd.R_newM (M := fun k_ => (P1_0_ k_ ∨ w.heap.size ≤ k_)) ho43 (by first | exact HK.out.1 | exact (show Kept w _ (fun k_ => P1_0_ k_) from by repeat (first | (with_reducible first | exact HK.out | apply Kept.alloc | apply Kept.drewN | apply Kept.drew | refine Kept.setCell ?_ (.inr GW158.out) _ | refine Kept.setCell ?_ (.inr GW179.out) _) | exact HK.out)).1) (fun k_ h_ => .inr h_)) (Kd.R_lt (by (with_reducible repeat first | apply ra_ | apply rn_ | apply rw_); exact HO_159000.out))) (Kd.R_lt (by (with_reducible repeat first | apply ra_ | apply rn_ | apply rw_); exact HO172.out))) (below_size (by repeat (first | (with_reducible first | exact HB.out | apply below_alloc | apply pw_below_drewN | apply below_drew1 | refine below_set ?_ GE158.out | refine below_set ?_ GE179.out) | exact HB.out))))
               have n3_ := Aside0.mk (blk_below (g := gb158) (o := .cells #[.slice Ao19 l1_0.length co19, .int .i64 a1_1] 31 (0, 0)) (by (with_reducible repeat (first | refine blk_drewN ?_ _ | refine blk_drew ?_ | refine blk_alloc ?_ _)); exact BK158.out) hb)
               have n4_ := Aside0.mk (blk_below (g := gb179) (o := .cells #[.slice none 0 0, .int .i64 0] 31 (0, 0)) (by (with_reducible repeat (first | refine blk_drewN ?_ _ | refine blk_drew ?_ | refine blk_alloc ?_ _)); exact BK179.out) hb)
               have n5_ := Aside0.mk (Kept.below (S := (fun k_ => P1_0_ k_)) (by repeat (first | (with_reducible first | exact HK.out | apply Kept.alloc | apply Kept.drewN | apply Kept.drew | refine Kept.setCell ?_ (.inr GW158.out) _ | refine Kept.setCell ?_ (.inr GW179.out) _) | exact HK.out)) hb)
               have n6_ := Aside0.mk (below_step (by repeat (first | (with_reducible first | exact HB.out | apply below_alloc | apply pw_below_drewN | apply below_drew1 | refine below_set ?_ GE158.out | refine below_set ?_ GE179.out) | exact HB.out)) hb)
               clear HO_159000
               clear HO172
               clear BK158
               clear BK179
               clear HK
               clear HB
               have HO_159000 := n0_
               have HO172 := n1_
               have HO175 := n2_
               have BK158 := n3_
               have BK179 := n4_
               have HK := n5_
               have HB := n6_
               clear n0_ n1_ n2_ n3_ n4_ n5_ n6_
               clear hb ho43
               refine hK.out _ _ ⟨(blk_cell BK158.out 0).trans rfl, (blk_cell BK158.out 1).trans rfl⟩ (fun hHeld => ?_)
               clear hK K
               refine norm_ (a' := ?_) ?_ ?_
               rotate_left
               ·show Act.put _ (some 61) _ = _
                simp only [Act.put, sa_, sz_, ss_, i64_w, i32_w]
                rfl
               exact norm_ (by simp only [putAll, Act.put, sa_, sz_, ss_] <;> rfl) (hJ2_4_9 (v171, v174, gb179) _ ⟨hHeld, (by (with_reducible repeat first | apply ra_ | apply rn_ | apply rw_); exact Kd.R_mono HO172.out (fun _ hk => ⟨hk.1.1, ⟨hk.2, hk.1.2⟩⟩)), (by (with_reducible repeat first | apply ra_ | apply rn_ | apply rw_); exact Kd.R_mono HO175.out (fun _ hk => ⟨hk.1.1.1, ⟨hk.2, hk.1.2⟩⟩)), (by (with_reducible repeat first | apply ra_ | apply rn_ | apply rw_); exact Kd.R_mono HO_159000.out (fun _ hk => ⟨hk.1.1, ⟨hk.1.2, hk.2⟩⟩)), (by (with_reducible repeat (first | refine blk_drewN ?_ _ | refine blk_drew ?_ | refine blk_alloc ?_ _)); exact BK158.out), (by (with_reducible repeat (first | refine blk_drewN ?_ _ | refine blk_drew ?_ | refine blk_alloc ?_ _)); exact BK179.out), GW179.out, GE179.out, NB158_179.out, NB179_158.out, (by repeat (first | (with_reducible first | exact HK.out | apply Kept.alloc | apply Kept.drewN | apply Kept.drew | refine Kept.setCell ?_ (.inr GW158.out) _ | refine Kept.setCell ?_ (.inr GW179.out) _) | exact HK.out)), (by repeat (first | (with_reducible first | exact HB.out | apply below_alloc | apply pw_below_drewN | apply below_drew1 | refine below_set ?_ GE158.out | refine below_set ?_ GE179.out) | exact HB.out))⟩)
             ·skip
              rintro ⟨v171, v174⟩ w42 ⟨hS_, h0_, h1_, h2_, h3_, h4_, h5_⟩
              have n0_ : Aside0 (Kd.R (Kd.int .i64) 3 w42 w0.heap.size (fun k_ => (P1_0_ k_ ∨ w.heap.size ≤ k_) ∧ some k_ ≠ (v174 : Value).ownBlock ∧ some k_ ≠ (.slice Ao19 l1_0.length co19 : Value).ownBlock) v171 t170) := ⟨h0_⟩
              have n1_ : Aside0 (Kd.R (Kd.int .i64) 3 w42 w0.heap.size (fun k_ => (P1_0_ k_ ∨ w.heap.size ≤ k_) ∧ some k_ ≠ (v171 : Value).ownBlock ∧ some k_ ≠ (.slice Ao19 l1_0.length co19 : Value).ownBlock) v174 y173) := ⟨h1_⟩
              have n2_ : Aside0 (Kd.R (Kd.int .i64) 3 w42 w0.heap.size (fun k_ => (P1_0_ k_ ∨ w.heap.size ≤ k_) ∧ some k_ ≠ (v171 : Value).ownBlock ∧ some k_ ≠ (v174 : Value).ownBlock) (.slice Ao19 l1_0.length co19) l1_0) := ⟨h2_⟩
              have n3_ : Aside0 (w42.heap[gb158]? = some (.cells #[.slice Ao19 l1_0.length co19, .int .i64 a1_1] 31 (0, 0))) := ⟨h3_⟩
              have n4_ : Aside0 (Kept w w42 (fun k_ => P1_0_ k_)) := ⟨h4_⟩
              have n5_ : Aside0 (Below w0.heap.size w0 w42) := ⟨h5_⟩
              clear HO_159000
              clear BK158
              clear HK
              clear HB
              clear h0_ h1_ h2_ h3_ h4_ h5_
              have HO172 := n0_
              have HO175 := n1_
              have HO_159000 := n2_
              have BK158 := n3_
              have HK := n4_
              have HB := n5_
              clear n0_ n1_ n2_ n3_ n4_ n5_
              have hHeld : w42.cell? ⟨gb158, 0, none⟩ = some (.slice Ao19 l1_0.length co19) ∧ w42.cell? ⟨gb158, 1, none⟩ = some (.int .i64 a1_1) := hS_
              obtain ⟨Ao44, co44, eo44⟩ := Kd.R_slice HO175.out
              (first | subst eo44 | (injection eo44 with f1_ f2_ f3_; have f4_ := f1_.symm; have f5_ := f3_.symm; clear f1_ f2_ f3_; subst f4_; subst f5_))
              refine norm_ (a' := ?_) ?_ ?_
              rotate_left
              ·simp only [putAll, Act.put, sa_, sz_, ss_]
               rfl
              refine two_ (i := 5) (j := 9) (Ni := some 62) (Nj := some 9) #[true, true, true, true, true, true, true, true, false, false, false] #[true, true, true, true, true, false, true, true, false, true, false] rfl rfl rfl rfl (two_of HT_.out (by kernel_rfl)) (by decide) (by decide) (fun K hK => ?_) (fun K hK => ?_)
              ·skip
               refine Kd.R_append_rows_step (Kd.int .i64) (w0 := w0) w0.heap.size (by rfl) (.tmp 59) (.tmp 61) 22 3 (.int .i64 0) 8 rfl Try.underlying22 info3 rfl (by decide) (by omega) v171 t170 y173 _ _ _ (fun k_ => (P1_0_ k_ ∨ w.heap.size ≤ k_) ∧ some k_ ≠ (.slice Ao19 l1_0.length co19 : Value).ownBlock ∧ some k_ ≠ (.slice Ao44 y173.length co44 : Value).ownBlock) (fun _ => False) rfl rfl ?aO ?aR (fun _ _ h => h) (fun _ h => h.elim) ?aF ?aB ?aS ?aL ?_
               (case aR => repeat (first | exact (Kd.R_reads' HO175.out).2.2 | (with_reducible refine Kd.C_alloc ?_ _) | (with_reducible refine Kd.C_drewN ?_ _) | (with_reducible refine Kd.C_drew ?_)))
               (case aB => exact (by repeat (first | (with_reducible first | exact HB.out | apply below_alloc | apply pw_below_drewN | apply below_drew1 | refine below_set ?_ GE158.out) | exact HB.out)))
               (case aF => exact (fun k_ hk => ⟨(.inr (Nat.le_trans (by first | exact HK.out.1 | exact (show Kept w _ (fun k_ => P1_0_ k_) from by repeat (first | (with_reducible first | exact HK.out | apply Kept.alloc | apply Kept.drewN | apply Kept.drew | refine Kept.setCell ?_ (.inr GW158.out) _) | exact HK.out)).1) hk)), Kd.fresh' (Kd.R_lt (by (with_reducible repeat first | apply ra_ | apply rn_ | apply rw_); exact HO_159000.out)) k_ hk, Kd.fresh' (Kd.R_lt (by (with_reducible repeat first | apply ra_ | apply rn_ | apply rw_); exact HO175.out)) k_ hk⟩))
               (case aO => exact (by (with_reducible repeat first | apply ra_ | apply rn_ | apply rw_); exact Kd.R_mono HO172.out (fun _ hk => ⟨hk.1, ⟨hk.2.2, hk.2.1⟩⟩)))
               (case aS => exact (below_size (by repeat (first | (with_reducible first | exact HB.out | apply below_alloc | apply pw_below_drewN | apply below_drew1 | refine below_set ?_ GE158.out) | exact HB.out))))
               (case aL => have := LMc35.out; omega)
               intro v177 w43 ho hb hg hat
               rw [← Ny176.out] at ho
               have n0_ := Aside0.mk (Kd.R_after (ok := (fun k_ => (P1_0_ k_ ∨ w.heap.size ≤ k_) ∧ some k_ ≠ (.slice Ao44 y173.length co44 : Value).ownBlock)) (by (with_reducible repeat first | apply ra_ | apply rn_ | apply rw_); exact Kd.R_mono HO_159000.out (fun _ hk => ⟨⟨hk.1, hk.2.2⟩, hk.2.1⟩)) hg hat)
               have n1_ := Aside0.mk (blk_grown (g := gb158) (o := .cells #[.slice Ao19 l1_0.length co19, .int .i64 a1_1] 31 (0, 0)) (by (with_reducible repeat (first | refine blk_drewN ?_ _ | refine blk_drew ?_ | refine blk_alloc ?_ _)); exact BK158.out) hg (Kd.R_ne HO172.out BK158.out (by decide)))
               have n2_ := Aside0.mk (Kd.R_after (ok := (fun k_ => (P1_0_ k_ ∨ w.heap.size ≤ k_) ∧ some k_ ≠ (.slice Ao19 l1_0.length co19 : Value).ownBlock)) (by (with_reducible repeat first | apply ra_ | apply rn_ | apply rw_); exact Kd.R_mono HO175.out (fun _ hk => ⟨⟨hk.1, hk.2.2⟩, hk.2.1⟩)) hg hat)
               have n3_ := Aside0.mk (hb)
               have n4_ := Aside0.mk (Kept.of_grown (S := (fun k_ => P1_0_ k_)) hg (by repeat (first | (with_reducible first | exact HK.out | apply Kept.alloc | apply Kept.drewN | apply Kept.drew | refine Kept.setCell ?_ (.inr GW158.out) _) | exact HK.out)) (fun k_ e_ => (HO172.out.1 k_ e_).1))
               have n5_ := Aside0.mk (ho)
               clear HO_159000
               clear BK158
               clear HO175
               clear HB
               clear HK
               clear HO172
               have HO_159000 := n0_
               have BK158 := n1_
               have HO175 := n2_
               have HB := n3_
               have HK := n4_
               have HO178 := n5_
               clear n0_ n1_ n2_ n3_ n4_ n5_
               clear ho hb hg hat
               obtain ⟨Ao45, co45, eo45⟩ := Kd.R_slice HO178.out
               (first | subst eo45 | (injection eo45 with f1_ f2_ f3_; have f4_ := f1_.symm; have f5_ := f3_.symm; clear f1_ f2_ f3_; subst f4_; subst f5_))
               refine hK.out _ _ ⟨(blk_cell BK158.out 0).trans rfl, (blk_cell BK158.out 1).trans rfl⟩ (fun hHeld => ?_)
               clear hK K
               refine norm_ (a' := ?_) ?_ ?_
               rotate_left
               ·show Act.put _ (some 62) _ = _
                simp only [Act.put, sa_, sz_, ss_, i64_w, i32_w]
                rfl
               refine pure_ (i := 8) (N := some 65) (v := ?_) (a' := ?_) #[true, true, true, true, true, true, true, true, true, false, false] rfl rfl (any_of HT_.out (by kernel_rfl)) (fun _ _ _ h => h) (Or.inl ⟨by rfl, ?_⟩) ?_ ?_
               rotate_left
               ·intro w'
                go_simp
                with_reducible rfl
               rotate_left
               ·simp only [Act.put, sa_, sz_, ss_, i64_w, i32_w]
                rfl
               exact norm_ (by simp only [putAll, Act.put, sa_, sz_, ss_] <;> rfl) (hJ2_4_5 (v171, .slice Ao44 y173.length co44, .slice Ao45 y176.length co45) _ ⟨hHeld, (by (with_reducible repeat first | apply ra_ | apply rn_ | apply rw_); exact Kd.R_mono HO175.out (fun _ hk => ⟨hk.1.1, ⟨hk.2, hk.1.2⟩⟩)), (by (with_reducible repeat first | apply ra_ | apply rn_ | apply rw_); exact Kd.R_mono HO178.out (fun _ hk => ⟨hk.1, ⟨hk.2.2, hk.2.1⟩⟩)), (by (with_reducible repeat first | apply ra_ | apply rn_ | apply rw_); exact Kd.R_mono HO_159000.out (fun _ hk => ⟨hk.1.1, ⟨hk.1.2, hk.2⟩⟩)), (by (with_reducible repeat (first | refine blk_drewN ?_ _ | refine blk_drew ?_ | refine blk_alloc ?_ _)); exact BK158.out), (by repeat (first | (with_reducible first | exact HK.out | apply Kept.alloc | apply Kept.drewN | apply Kept.drew | refine Kept.setCell ?_ (.inr GW158.out) _) | exact HK.out)), (by repeat (first | (with_reducible first | exact HB.out | apply below_alloc | apply pw_below_drewN | apply below_drew1 | refine below_set ?_ GE158.out) | exact HB.out))⟩)
              ·skip
               refine box_step ?hg (N := 9) ?hd (cs := #[.slice none 0 0, .int .i64 0]) (t := 31) ?hr ?_; (case hd => rfl); (case hg => rfl); (case hr => first | (go_simp; done) | (go_simp; rfl))
               intro gb179 hg w43 hbox hb
               have n0_ := Aside0.mk (Kd.R_below (by (with_reducible repeat first | apply ra_ | apply rn_ | apply rw_); exact HO_159000.out) hb)
               have n1_ := Aside0.mk (Kd.R_below (by (with_reducible repeat first | apply ra_ | apply rn_ | apply rw_); exact HO172.out) hb)
               have n2_ := Aside0.mk (Kd.R_below (by (with_reducible repeat first | apply ra_ | apply rn_ | apply rw_); exact HO175.out) hb)
               have n3_ := Aside0.mk (blk_below (g := gb158) (o := .cells #[.slice Ao19 l1_0.length co19, .int .i64 a1_1] 31 (0, 0)) (by (with_reducible repeat (first | refine blk_drewN ?_ _ | refine blk_drew ?_ | refine blk_alloc ?_ _)); exact BK158.out) hb)
               have n4_ := Aside0.mk (Kept.below (S := (fun k_ => P1_0_ k_)) (by repeat (first | (with_reducible first | exact HK.out | apply Kept.alloc | apply Kept.drewN | apply Kept.drew | refine Kept.setCell ?_ (.inr GW158.out) _) | exact HK.out)) hb)
               have n5_ := Aside0.mk (below_step (by repeat (first | (with_reducible first | exact HB.out | apply below_alloc | apply pw_below_drewN | apply below_drew1 | refine below_set ?_ GE158.out) | exact HB.out)) hb)
               have n6_ := Aside0.mk (hbox)
               have n7_ := Aside0.mk ((by rw [hg]; exact (by first | exact HK.out.1 | exact (show Kept w _ (fun k_ => P1_0_ k_) from by repeat (first | (with_reducible first | exact HK.out | apply Kept.alloc | apply Kept.drewN | apply Kept.drew | refine Kept.setCell ?_ (.inr GW158.out) _) | exact HK.out)).1) : w.heap.size ≤ gb179))
               have n8_ := Aside0.mk ((by rw [hg]; exact (below_size (by repeat (first | (with_reducible first | exact HB.out | apply below_alloc | apply pw_below_drewN | apply below_drew1 | refine below_set ?_ GE158.out) | exact HB.out))) : w0.heap.size ≤ gb179))
               have n9_ := Aside0.mk ((by rw [hg]; exact Nat.ne_of_lt (blk_lt (g := gb158) (o := .cells #[.slice Ao19 l1_0.length co19, .int .i64 a1_1] 31 (0, 0)) (by (with_reducible repeat (first | refine blk_drewN ?_ _ | refine blk_drew ?_ | refine blk_alloc ?_ _)); exact BK158.out)) : gb158 ≠ gb179))
               have n10_ := Aside0.mk ((by rw [hg]; exact Nat.ne_of_gt (blk_lt (g := gb158) (o := .cells #[.slice Ao19 l1_0.length co19, .int .i64 a1_1] 31 (0, 0)) (by (with_reducible repeat (first | refine blk_drewN ?_ _ | refine blk_drew ?_ | refine blk_alloc ?_ _)); exact BK158.out)) : gb179 ≠ gb158))
               clear HO_159000
               clear HO172
               clear HO175
               clear BK158
               clear HK
               clear HB
               have HO_159000 := n0_
               have HO172 := n1_
               have HO175 := n2_
               have BK158 := n3_
               have HK := n4_
               have HB := n5_
               have BK179 := n6_
               have GW179 := n7_
               have GE179 := n8_
               have NB158_179 := n9_
               have NB179_158 := n10_
               clear n0_ n1_ n2_ n3_ n4_ n5_ n6_ n7_ n8_ n9_ n10_
               clear hb hbox hg
               refine hK.out _ _ ⟨(blk_cell BK158.out 0).trans rfl, (blk_cell BK158.out 1).trans rfl⟩ (fun hHeld => ?_)
               clear hK K
               refine norm_ (a' := ?_) ?_ ?_
               rotate_left
               ·show Act.put _ (some 9) _ = _
                simp only [Act.put, sa_, sz_, ss_, i64_w, i32_w]
                rfl
               exact norm_ (by simp only [putAll, Act.put, sa_, sz_, ss_] <;> rfl) (hJ2_4_9 (v171, (.slice Ao44 y173.length co44), gb179) _ ⟨hHeld, (by (with_reducible repeat first | apply ra_ | apply rn_ | apply rw_); exact HO172.out), (by (with_reducible repeat first | apply ra_ | apply rn_ | apply rw_); exact HO175.out), (by (with_reducible repeat first | apply ra_ | apply rn_ | apply rw_); exact HO_159000.out), (by (with_reducible repeat (first | refine blk_drewN ?_ _ | refine blk_drew ?_ | refine blk_alloc ?_ _)); exact BK158.out), (by (with_reducible repeat (first | refine blk_drewN ?_ _ | refine blk_drew ?_ | refine blk_alloc ?_ _)); exact BK179.out), GW179.out, GE179.out, NB158_179.out, NB179_158.out, (by repeat (first | (with_reducible first | exact HK.out | apply Kept.alloc | apply Kept.drewN | apply Kept.drew | refine Kept.setCell ?_ (.inr GW158.out) _ | refine Kept.setCell ?_ (.inr GW179.out) _) | exact HK.out)), (by repeat (first | (with_reducible first | exact HB.out | apply below_alloc | apply pw_below_drewN | apply below_drew1 | refine below_set ?_ GE158.out | refine below_set ?_ GE179.out) | exact HB.out))⟩)
            ·skip
             rintro ⟨v171, v174, gb179⟩ w43 ⟨hS_, h0_, h1_, h2_, h3_, h4_, h5_, h6_, h7_, h8_, h9_, h10_⟩
             have n0_ : Aside0 (Kd.R (Kd.int .i64) 3 w43 w0.heap.size (fun k_ => (P1_0_ k_ ∨ w.heap.size ≤ k_) ∧ some k_ ≠ (v174 : Value).ownBlock ∧ some k_ ≠ (.slice Ao19 l1_0.length co19 : Value).ownBlock) v171 t170) := ⟨h0_⟩
             have n1_ : Aside0 (Kd.R (Kd.int .i64) 3 w43 w0.heap.size (fun k_ => (P1_0_ k_ ∨ w.heap.size ≤ k_) ∧ some k_ ≠ (v171 : Value).ownBlock ∧ some k_ ≠ (.slice Ao19 l1_0.length co19 : Value).ownBlock) v174 y173) := ⟨h1_⟩
             have n2_ : Aside0 (Kd.R (Kd.int .i64) 3 w43 w0.heap.size (fun k_ => (P1_0_ k_ ∨ w.heap.size ≤ k_) ∧ some k_ ≠ (v171 : Value).ownBlock ∧ some k_ ≠ (v174 : Value).ownBlock) (.slice Ao19 l1_0.length co19) l1_0) := ⟨h2_⟩
             have n3_ : Aside0 (w43.heap[gb158]? = some (.cells #[.slice Ao19 l1_0.length co19, .int .i64 a1_1] 31 (0, 0))) := ⟨h3_⟩
             have n4_ : Aside0 (w43.heap[gb179]? = some (.cells #[.slice none 0 0, .int .i64 0] 31 (0, 0))) := ⟨h4_⟩
             have n5_ : Aside0 (w.heap.size ≤ gb179) := ⟨h5_⟩
             have n6_ : Aside0 (w0.heap.size ≤ gb179) := ⟨h6_⟩
             have n7_ : Aside0 (gb158 ≠ gb179) := ⟨h7_⟩
             have n8_ : Aside0 (gb179 ≠ gb158) := ⟨h8_⟩
             have n9_ : Aside0 (Kept w w43 (fun k_ => P1_0_ k_)) := ⟨h9_⟩
             have n10_ : Aside0 (Below w0.heap.size w0 w43) := ⟨h10_⟩
             clear HO_159000
             clear BK158
             clear HK
             clear HB
             clear h0_ h1_ h2_ h3_ h4_ h5_ h6_ h7_ h8_ h9_ h10_
             have HO172 := n0_
             have HO175 := n1_
             have HO_159000 := n2_
             have BK158 := n3_
             have BK179 := n4_
             have GW179 := n5_
             have GE179 := n6_
             have NB158_179 := n7_
             have NB179_158 := n8_
             have HK := n9_
             have HB := n10_
             clear n0_ n1_ n2_ n3_ n4_ n5_ n6_ n7_ n8_ n9_ n10_
             have hHeld : w43.cell? ⟨gb158, 0, none⟩ = some (.slice Ao19 l1_0.length co19) ∧ w43.cell? ⟨gb158, 1, none⟩ = some (.int .i64 a1_1) := hS_
             obtain ⟨Ao45, co45, eo45⟩ := Kd.R_slice HO175.out
             (first | subst eo45 | (injection eo45 with f1_ f2_ f3_; have f4_ := f1_.symm; have f5_ := f3_.symm; clear f1_ f2_ f3_; subst f4_; subst f5_))
             refine norm_ (a' := ?_) ?_ ?_
             rotate_left
             ·simp only [putAll, Act.put, sa_, sz_, ss_]
              rfl
             refine one_ (i := 5) (N := some 62) #[true, true, true, true, true, true, true, true, false, true, false] rfl rfl (one_of HT_.out (by kernel_rfl)) (by decide) (fun K hK => ?_)
             refine Kd.R_append_rows_step (Kd.int .i64) (w0 := w0) w0.heap.size (by rfl) (.tmp 59) (.tmp 61) 22 3 (.int .i64 0) 8 rfl Try.underlying22 info3 rfl (by decide) (by omega) v171 t170 y173 _ _ _ (fun k_ => (P1_0_ k_ ∨ w.heap.size ≤ k_) ∧ some k_ ≠ (.slice Ao19 l1_0.length co19 : Value).ownBlock ∧ some k_ ≠ (.slice Ao45 y173.length co45 : Value).ownBlock) (fun _ => False) rfl rfl ?aO ?aR (fun _ _ h => h) (fun _ h => h.elim) ?aF ?aB ?aS ?aL ?_
             (case aR => repeat (first | exact (Kd.R_reads' HO175.out).2.2 | (with_reducible refine Kd.C_alloc ?_ _) | (with_reducible refine Kd.C_drewN ?_ _) | (with_reducible refine Kd.C_drew ?_)))
             (case aB => exact (by repeat (first | (with_reducible first | exact HB.out | apply below_alloc | apply pw_below_drewN | apply below_drew1 | refine below_set ?_ GE158.out | refine below_set ?_ GE179.out) | exact HB.out)))
             (case aF => exact (fun k_ hk => ⟨(.inr (Nat.le_trans (by first | exact HK.out.1 | exact (show Kept w _ (fun k_ => P1_0_ k_) from by repeat (first | (with_reducible first | exact HK.out | apply Kept.alloc | apply Kept.drewN | apply Kept.drew | refine Kept.setCell ?_ (.inr GW158.out) _ | refine Kept.setCell ?_ (.inr GW179.out) _) | exact HK.out)).1) hk)), Kd.fresh' (Kd.R_lt (by (with_reducible repeat first | apply ra_ | apply rn_ | apply rw_); exact HO_159000.out)) k_ hk, Kd.fresh' (Kd.R_lt (by (with_reducible repeat first | apply ra_ | apply rn_ | apply rw_); exact HO175.out)) k_ hk⟩))
             (case aO => exact (by (with_reducible repeat first | apply ra_ | apply rn_ | apply rw_); exact Kd.R_mono HO172.out (fun _ hk => ⟨hk.1, ⟨hk.2.2, hk.2.1⟩⟩)))
             (case aS => exact (below_size (by repeat (first | (with_reducible first | exact HB.out | apply below_alloc | apply pw_below_drewN | apply below_drew1 | refine below_set ?_ GE158.out | refine below_set ?_ GE179.out) | exact HB.out))))
             (case aL => have := LMc35.out; omega)
             intro v177 w44 ho hb hg hat
             rw [← Ny176.out] at ho
             have n0_ := Aside0.mk (Kd.R_after (ok := (fun k_ => (P1_0_ k_ ∨ w.heap.size ≤ k_) ∧ some k_ ≠ (.slice Ao45 y173.length co45 : Value).ownBlock)) (by (with_reducible repeat first | apply ra_ | apply rn_ | apply rw_); exact Kd.R_mono HO_159000.out (fun _ hk => ⟨⟨hk.1, hk.2.2⟩, hk.2.1⟩)) hg hat)
             have n1_ := Aside0.mk (blk_grown (g := gb158) (o := .cells #[.slice Ao19 l1_0.length co19, .int .i64 a1_1] 31 (0, 0)) (by (with_reducible repeat (first | refine blk_drewN ?_ _ | refine blk_drew ?_ | refine blk_alloc ?_ _)); exact BK158.out) hg (Kd.R_ne HO172.out BK158.out (by decide)))
             have n2_ := Aside0.mk (Kd.R_after (ok := (fun k_ => (P1_0_ k_ ∨ w.heap.size ≤ k_) ∧ some k_ ≠ (.slice Ao19 l1_0.length co19 : Value).ownBlock)) (by (with_reducible repeat first | apply ra_ | apply rn_ | apply rw_); exact Kd.R_mono HO175.out (fun _ hk => ⟨⟨hk.1, hk.2.2⟩, hk.2.1⟩)) hg hat)
             have n3_ := Aside0.mk (blk_grown (g := gb179) (o := .cells #[.slice none 0 0, .int .i64 0] 31 (0, 0)) (by (with_reducible repeat (first | refine blk_drewN ?_ _ | refine blk_drew ?_ | refine blk_alloc ?_ _)); exact BK179.out) hg (Kd.R_ne HO172.out BK179.out (by decide)))
             have n4_ := Aside0.mk (hb)
             have n5_ := Aside0.mk (Kept.of_grown (S := (fun k_ => P1_0_ k_)) hg (by repeat (first | (with_reducible first | exact HK.out | apply Kept.alloc | apply Kept.drewN | apply Kept.drew | refine Kept.setCell ?_ (.inr GW158.out) _ | refine Kept.setCell ?_ (.inr GW179.out) _) | exact HK.out)) (fun k_ e_ => (HO172.out.1 k_ e_).1))
             have n6_ := Aside0.mk (ho)
             clear HO_159000
             clear BK158
             clear HO175
             clear BK179
             clear HB
             clear HK
             clear HO172
             have HO_159000 := n0_
             have BK158 := n1_
             have HO175 := n2_
             have BK179 := n3_
             have HB := n4_
             have HK := n5_
             have HO178 := n6_
             clear n0_ n1_ n2_ n3_ n4_ n5_ n6_
             clear ho hb hg hat
             obtain ⟨Ao46, co46, eo46⟩ := Kd.R_slice HO178.out
             (first | subst eo46 | (injection eo46 with f1_ f2_ f3_; have f4_ := f1_.symm; have f5_ := f3_.symm; clear f1_ f2_ f3_; subst f4_; subst f5_))
             refine hK.out _ _ ⟨(blk_cell BK158.out 0).trans rfl, (blk_cell BK158.out 1).trans rfl⟩ (fun hHeld => ?_)
             clear hK K
             refine norm_ (a' := ?_) ?_ ?_
             rotate_left
             ·show Act.put _ (some 62) _ = _
              simp only [Act.put, sa_, sz_, ss_, i64_w, i32_w]
              rfl
             refine pure_ (i := 8) (N := some 65) (v := ?_) (a' := ?_) #[true, true, true, true, true, true, true, true, true, true, false] rfl rfl (any_of HT_.out (by kernel_rfl)) (fun _ _ _ h => h) (Or.inl ⟨by rfl, ?_⟩) ?_ ?_
             rotate_left
             ·intro w'
              go_simp
              with_reducible rfl
             rotate_left
             ·simp only [Act.put, sa_, sz_, ss_, i64_w, i32_w]
              rfl
             exact norm_ (by simp only [putAll, Act.put, sa_, sz_, ss_] <;> rfl) (hJ2_4_5_9 (v171, .slice Ao45 y173.length co45, .slice Ao46 y176.length co46, gb179) _ ⟨hHeld, (by (with_reducible repeat first | apply ra_ | apply rn_ | apply rw_); exact Kd.R_mono HO175.out (fun _ hk => ⟨hk.1.1, ⟨hk.2, hk.1.2⟩⟩)), (by (with_reducible repeat first | apply ra_ | apply rn_ | apply rw_); exact Kd.R_mono HO178.out (fun _ hk => ⟨hk.1, ⟨hk.2.2, hk.2.1⟩⟩)), (by (with_reducible repeat first | apply ra_ | apply rn_ | apply rw_); exact Kd.R_mono HO_159000.out (fun _ hk => ⟨hk.1.1, ⟨hk.1.2, hk.2⟩⟩)), (by (with_reducible repeat (first | refine blk_drewN ?_ _ | refine blk_drew ?_ | refine blk_alloc ?_ _)); exact BK158.out), (by (with_reducible repeat (first | refine blk_drewN ?_ _ | refine blk_drew ?_ | refine blk_alloc ?_ _)); exact BK179.out), GW179.out, GE179.out, NB158_179.out, NB179_158.out, (by repeat (first | (with_reducible first | exact HK.out | apply Kept.alloc | apply Kept.drewN | apply Kept.drew | refine Kept.setCell ?_ (.inr GW158.out) _ | refine Kept.setCell ?_ (.inr GW179.out) _) | exact HK.out)), (by repeat (first | (with_reducible first | exact HB.out | apply below_alloc | apply pw_below_drewN | apply below_drew1 | refine below_set ?_ GE158.out | refine below_set ?_ GE179.out) | exact HB.out))⟩)
           ·skip
            rintro ⟨v171, v174, v177⟩ w45 ⟨hS_, h0_, h1_, h2_, h3_, h4_, h5_⟩
            have n0_ : Aside0 (Kd.R (Kd.int .i64) 3 w45 w0.heap.size (fun k_ => (P1_0_ k_ ∨ w.heap.size ≤ k_) ∧ some k_ ≠ (v177 : Value).ownBlock ∧ some k_ ≠ (.slice Ao19 l1_0.length co19 : Value).ownBlock) v174 y173) := ⟨h0_⟩
            have n1_ : Aside0 (Kd.R (Kd.int .i64) 3 w45 w0.heap.size (fun k_ => (P1_0_ k_ ∨ w.heap.size ≤ k_) ∧ some k_ ≠ (v174 : Value).ownBlock ∧ some k_ ≠ (.slice Ao19 l1_0.length co19 : Value).ownBlock) v177 y176) := ⟨h1_⟩
            have n2_ : Aside0 (Kd.R (Kd.int .i64) 3 w45 w0.heap.size (fun k_ => (P1_0_ k_ ∨ w.heap.size ≤ k_) ∧ some k_ ≠ (v174 : Value).ownBlock ∧ some k_ ≠ (v177 : Value).ownBlock) (.slice Ao19 l1_0.length co19) l1_0) := ⟨h2_⟩
            have n3_ : Aside0 (w45.heap[gb158]? = some (.cells #[.slice Ao19 l1_0.length co19, .int .i64 a1_1] 31 (0, 0))) := ⟨h3_⟩
            have n4_ : Aside0 (Kept w w45 (fun k_ => P1_0_ k_)) := ⟨h4_⟩
            have n5_ : Aside0 (Below w0.heap.size w0 w45) := ⟨h5_⟩
            clear HO_159000
            clear BK158
            clear HK
            clear HB
            clear h0_ h1_ h2_ h3_ h4_ h5_
            have HO175 := n0_
            have HO178 := n1_
            have HO_159000 := n2_
            have BK158 := n3_
            have HK := n4_
            have HB := n5_
            clear n0_ n1_ n2_ n3_ n4_ n5_
            have hHeld : w45.cell? ⟨gb158, 0, none⟩ = some (.slice Ao19 l1_0.length co19) ∧ w45.cell? ⟨gb158, 1, none⟩ = some (.int .i64 a1_1) := hS_
            obtain ⟨Ao46, co46, eo46⟩ := Kd.R_slice HO178.out
            (first | subst eo46 | (injection eo46 with f1_ f2_ f3_; have f4_ := f1_.symm; have f5_ := f3_.symm; clear f1_ f2_ f3_; subst f4_; subst f5_))
            refine norm_ (a' := ?_) ?_ ?_
            rotate_left
            ·simp only [putAll, Act.put, sa_, sz_, ss_]
             rfl
            refine one_ (i := 9) (N := some 9) #[true, true, true, true, true, true, true, true, true, true, false] rfl rfl (one_of HT_.out (by kernel_rfl)) (by decide) (fun K hK => ?_)
            refine box_step ?hg (N := 9) ?hd (cs := #[.slice none 0 0, .int .i64 0]) (t := 31) ?hr ?_; (case hd => rfl); (case hg => rfl); (case hr => first | (go_simp; done) | (go_simp; rfl))
            intro gb179 hg w47 hbox hb
            have n0_ := Aside0.mk (Kd.R_below (by (with_reducible repeat first | apply ra_ | apply rn_ | apply rw_); exact HO_159000.out) hb)
            have n1_ := Aside0.mk (Kd.R_below (by (with_reducible repeat first | apply ra_ | apply rn_ | apply rw_); exact HO175.out) hb)
            have n2_ := Aside0.mk (Kd.R_below (by (with_reducible repeat first | apply ra_ | apply rn_ | apply rw_); exact HO178.out) hb)
            have n3_ := Aside0.mk (blk_below (g := gb158) (o := .cells #[.slice Ao19 l1_0.length co19, .int .i64 a1_1] 31 (0, 0)) (by (with_reducible repeat (first | refine blk_drewN ?_ _ | refine blk_drew ?_ | refine blk_alloc ?_ _)); exact BK158.out) hb)
            have n4_ := Aside0.mk (Kept.below (S := (fun k_ => P1_0_ k_)) (by repeat (first | (with_reducible first | exact HK.out | apply Kept.alloc | apply Kept.drewN | apply Kept.drew | refine Kept.setCell ?_ (.inr GW158.out) _) | exact HK.out)) hb)
            have n5_ := Aside0.mk (below_step (by repeat (first | (with_reducible first | exact HB.out | apply below_alloc | apply pw_below_drewN | apply below_drew1 | refine below_set ?_ GE158.out) | exact HB.out)) hb)
            have n6_ := Aside0.mk (hbox)
            have n7_ := Aside0.mk ((by rw [hg]; exact (by first | exact HK.out.1 | exact (show Kept w _ (fun k_ => P1_0_ k_) from by repeat (first | (with_reducible first | exact HK.out | apply Kept.alloc | apply Kept.drewN | apply Kept.drew | refine Kept.setCell ?_ (.inr GW158.out) _) | exact HK.out)).1) : w.heap.size ≤ gb179))
            have n8_ := Aside0.mk ((by rw [hg]; exact (below_size (by repeat (first | (with_reducible first | exact HB.out | apply below_alloc | apply pw_below_drewN | apply below_drew1 | refine below_set ?_ GE158.out) | exact HB.out))) : w0.heap.size ≤ gb179))
            have n9_ := Aside0.mk ((by rw [hg]; exact Nat.ne_of_lt (blk_lt (g := gb158) (o := .cells #[.slice Ao19 l1_0.length co19, .int .i64 a1_1] 31 (0, 0)) (by (with_reducible repeat (first | refine blk_drewN ?_ _ | refine blk_drew ?_ | refine blk_alloc ?_ _)); exact BK158.out)) : gb158 ≠ gb179))
            have n10_ := Aside0.mk ((by rw [hg]; exact Nat.ne_of_gt (blk_lt (g := gb158) (o := .cells #[.slice Ao19 l1_0.length co19, .int .i64 a1_1] 31 (0, 0)) (by (with_reducible repeat (first | refine blk_drewN ?_ _ | refine blk_drew ?_ | refine blk_alloc ?_ _)); exact BK158.out)) : gb179 ≠ gb158))
            clear HO_159000
            clear HO175
            clear HO178
            clear BK158
            clear HK
            clear HB
            have HO_159000 := n0_
            have HO175 := n1_
            have HO178 := n2_
            have BK158 := n3_
            have HK := n4_
            have HB := n5_
            have BK179 := n6_
            have GW179 := n7_
            have GE179 := n8_
            have NB158_179 := n9_
            have NB179_158 := n10_
            clear n0_ n1_ n2_ n3_ n4_ n5_ n6_ n7_ n8_ n9_ n10_
            clear hb hbox hg
            refine hK.out _ _ ⟨(blk_cell BK158.out 0).trans rfl, (blk_cell BK158.out 1).trans rfl⟩ (fun hHeld => ?_)
            clear hK K
            refine norm_ (a' := ?_) ?_ ?_
            rotate_left
            ·show Act.put _ (some 9) _ = _
             simp only [Act.put, sa_, sz_, ss_, i64_w, i32_w]
             rfl
            exact norm_ (by simp only [putAll, Act.put, sa_, sz_, ss_] <;> rfl) (hJ2_4_5_9 (v171, v174, .slice Ao46 y176.length co46, gb179) _ ⟨hHeld, (by (with_reducible repeat first | apply ra_ | apply rn_ | apply rw_); exact HO175.out), (by (with_reducible repeat first | apply ra_ | apply rn_ | apply rw_); exact HO178.out), (by (with_reducible repeat first | apply ra_ | apply rn_ | apply rw_); exact HO_159000.out), (by (with_reducible repeat (first | refine blk_drewN ?_ _ | refine blk_drew ?_ | refine blk_alloc ?_ _)); exact BK158.out), (by (with_reducible repeat (first | refine blk_drewN ?_ _ | refine blk_drew ?_ | refine blk_alloc ?_ _)); exact BK179.out), GW179.out, GE179.out, NB158_179.out, NB179_158.out, (by repeat (first | (with_reducible first | exact HK.out | apply Kept.alloc | apply Kept.drewN | apply Kept.drew | refine Kept.setCell ?_ (.inr GW158.out) _ | refine Kept.setCell ?_ (.inr GW179.out) _) | exact HK.out)), (by repeat (first | (with_reducible first | exact HB.out | apply below_alloc | apply pw_below_drewN | apply below_drew1 | refine below_set ?_ GE158.out | refine below_set ?_ GE179.out) | exact HB.out))⟩)
          rintro ⟨v171, v174, v177, gb179⟩ w46 ⟨hS_, h0_, h1_, h2_, h3_, h4_, h5_, h6_, h7_, h8_, h9_, h10_⟩
          have n0_ : Aside0 (Kd.R (Kd.int .i64) 3 w46 w0.heap.size (fun k_ => (P1_0_ k_ ∨ w.heap.size ≤ k_) ∧ some k_ ≠ (v177 : Value).ownBlock ∧ some k_ ≠ (.slice Ao19 l1_0.length co19 : Value).ownBlock) v174 y173) := ⟨h0_⟩
          have n1_ : Aside0 (Kd.R (Kd.int .i64) 3 w46 w0.heap.size (fun k_ => (P1_0_ k_ ∨ w.heap.size ≤ k_) ∧ some k_ ≠ (v174 : Value).ownBlock ∧ some k_ ≠ (.slice Ao19 l1_0.length co19 : Value).ownBlock) v177 y176) := ⟨h1_⟩
          have n2_ : Aside0 (Kd.R (Kd.int .i64) 3 w46 w0.heap.size (fun k_ => (P1_0_ k_ ∨ w.heap.size ≤ k_) ∧ some k_ ≠ (v174 : Value).ownBlock ∧ some k_ ≠ (v177 : Value).ownBlock) (.slice Ao19 l1_0.length co19) l1_0) := ⟨h2_⟩
          have n3_ : Aside0 (w46.heap[gb158]? = some (.cells #[.slice Ao19 l1_0.length co19, .int .i64 a1_1] 31 (0, 0))) := ⟨h3_⟩
          have n4_ : Aside0 (w46.heap[gb179]? = some (.cells #[.slice none 0 0, .int .i64 0] 31 (0, 0))) := ⟨h4_⟩
          have n5_ : Aside0 (w.heap.size ≤ gb179) := ⟨h5_⟩
          have n6_ : Aside0 (w0.heap.size ≤ gb179) := ⟨h6_⟩
          have n7_ : Aside0 (gb158 ≠ gb179) := ⟨h7_⟩
          have n8_ : Aside0 (gb179 ≠ gb158) := ⟨h8_⟩
          have n9_ : Aside0 (Kept w w46 (fun k_ => P1_0_ k_)) := ⟨h9_⟩
          have n10_ : Aside0 (Below w0.heap.size w0 w46) := ⟨h10_⟩
          clear HO_159000
          clear BK158
          clear HK
          clear HB
          clear h0_ h1_ h2_ h3_ h4_ h5_ h6_ h7_ h8_ h9_ h10_
          have HO175 := n0_
          have HO178 := n1_
          have HO_159000 := n2_
          have BK158 := n3_
          have BK179 := n4_
          have GW179 := n5_
          have GE179 := n6_
          have NB158_179 := n7_
          have NB179_158 := n8_
          have HK := n9_
          have HB := n10_
          clear n0_ n1_ n2_ n3_ n4_ n5_ n6_ n7_ n8_ n9_ n10_
          have hHeld : w46.cell? ⟨gb158, 0, none⟩ = some (.slice Ao19 l1_0.length co19) ∧ w46.cell? ⟨gb158, 1, none⟩ = some (.int .i64 a1_1) := hS_
          obtain ⟨Ao47, co47, eo47⟩ := Kd.R_slice HO178.out
          (first | subst eo47 | (injection eo47 with f1_ f2_ f3_; have f4_ := f1_.symm; have f5_ := f3_.symm; clear f1_ f2_ f3_; subst f4_; subst f5_))
          refine norm_ (a' := ?_) ?_ ?_
          rotate_left
          ·simp only [putAll, Act.put, sa_, sz_, ss_]
           rfl
          refine one_ (i := 10) (N := none) #[true, true, true, true, true, true, true, true, true, true, true] rfl rfl (one_of HT_.out (by kernel_rfl)) (by decide) (fun K hK => ?_)
          have hs48 : w46.cell? ⟨gb179, 0, none⟩ = some (.slice none 0 0) := (blk_cell BK179.out 0).trans rfl
          have hfs48 := blk_frozen BK179.out 0
          have hns48_0 := NB158_179.out
          have hms48_0 := NB179_158.out
          have hs49 : w46.cell? ⟨gb179, 1, none⟩ = some (.int .i64 0) := (blk_cell BK179.out 1).trans rfl
          have hfs49 := blk_frozen BK179.out 1
          have hns49_0 := NB158_179.out
          have hms49_0 := NB179_158.out
          refine skip_ (w1 := ?_) (by rfl) rfl ?_ ?_
          rotate_left
          ·go_simp
           rfl
          refine hK.out _ _ ⟨((cell_far (p := ⟨gb179, _, none⟩) NB158_179.out _).trans (((cell_far (p := ⟨gb179, _, none⟩) NB158_179.out _).trans (hHeld.1)))), ((cell_far (p := ⟨gb179, _, none⟩) NB158_179.out _).trans (((cell_far (p := ⟨gb179, _, none⟩) NB158_179.out _).trans (hHeld.2))))⟩ (fun hHeld => ?_)
          clear hK K
          refine done_ (done_of HT_.out (by kernel_rfl)) ?_
          have n0_ : Aside0 (Kd.R (Kd.int .i64) 3 ((w46.setCell ⟨gb179, 0, none⟩ (.slice Ao47 y176.length co47)).setCell ⟨gb179, 1, none⟩ (.int .i64 a1_1)) w0.heap.size (fun k_ => (P1_0_ k_ ∨ w.heap.size ≤ k_) ∧ some k_ ≠ (v174 : Value).ownBlock ∧ some k_ ≠ (.slice Ao47 y176.length co47 : Value).ownBlock) (.slice Ao19 l1_0.length co19) l1_0) := ⟨by (with_reducible repeat first | apply ra_ | apply rn_ | apply rw_); exact Kd.R_mono (Kd.R_far (p := ⟨gb179, 1, none⟩) (Kd.R_far (p := ⟨gb179, 0, none⟩) (Kd.R_types HO_159000.out BK179.out (by decide)) (fun _ hk => hk.2) (.slice Ao47 y176.length co47)) (fun _ hk => hk.2) (.int .i64 a1_1)) (fun _ hk => ⟨hk.1.1, ⟨hk.1.2.1, hk.1.2.2⟩⟩)⟩
          have n1_ : Aside0 (Kd.R (Kd.int .i64) 3 ((w46.setCell ⟨gb179, 0, none⟩ (.slice Ao47 y176.length co47)).setCell ⟨gb179, 1, none⟩ (.int .i64 a1_1)) w0.heap.size (fun k_ => (P1_0_ k_ ∨ w.heap.size ≤ k_) ∧ some k_ ≠ (.slice Ao19 l1_0.length co19 : Value).ownBlock ∧ some k_ ≠ (.slice Ao47 y176.length co47 : Value).ownBlock) v174 y173) := ⟨by (with_reducible repeat first | apply ra_ | apply rn_ | apply rw_); exact Kd.R_mono (Kd.R_far (p := ⟨gb179, 1, none⟩) (Kd.R_far (p := ⟨gb179, 0, none⟩) (Kd.R_types HO175.out BK179.out (by decide)) (fun _ hk => hk.2) (.slice Ao47 y176.length co47)) (fun _ hk => hk.2) (.int .i64 a1_1)) (fun _ hk => ⟨hk.1.1, ⟨hk.1.2.2, hk.1.2.1⟩⟩)⟩
          have n2_ : Aside0 (Kd.R (Kd.int .i64) 3 ((w46.setCell ⟨gb179, 0, none⟩ (.slice Ao47 y176.length co47)).setCell ⟨gb179, 1, none⟩ (.int .i64 a1_1)) w0.heap.size (fun k_ => (P1_0_ k_ ∨ w.heap.size ≤ k_) ∧ some k_ ≠ (.slice Ao19 l1_0.length co19 : Value).ownBlock ∧ some k_ ≠ (v174 : Value).ownBlock) (.slice Ao47 y176.length co47) y176) := ⟨by (with_reducible repeat first | apply ra_ | apply rn_ | apply rw_); exact Kd.R_mono (Kd.R_far (p := ⟨gb179, 1, none⟩) (Kd.R_far (p := ⟨gb179, 0, none⟩) (Kd.R_types HO178.out BK179.out (by decide)) (fun _ hk => hk.2) (.slice Ao47 y176.length co47)) (fun _ hk => hk.2) (.int .i64 a1_1)) (fun _ hk => ⟨hk.1.1, ⟨hk.1.2.2, hk.1.2.1⟩⟩)⟩
          have n3_ : Aside0 (((w46.setCell ⟨gb179, 0, none⟩ (.slice Ao47 y176.length co47)).setCell ⟨gb179, 1, none⟩ (.int .i64 a1_1)).heap[gb158]? = some (.cells #[.slice Ao19 l1_0.length co19, .int .i64 a1_1] 31 (0, 0))) := ⟨by (with_reducible repeat (first | refine blk_drewN ?_ _ | refine blk_drew ?_ | refine blk_alloc ?_ _)); refine blk_far ?_ NB158_179.out _; (with_reducible repeat (first | refine blk_drewN ?_ _ | refine blk_drew ?_ | refine blk_alloc ?_ _)); refine blk_far ?_ NB158_179.out _; (with_reducible repeat (first | refine blk_drewN ?_ _ | refine blk_drew ?_ | refine blk_alloc ?_ _)); exact BK158.out⟩
          have n4_ : Aside0 (((w46.setCell ⟨gb179, 0, none⟩ (.slice Ao47 y176.length co47)).setCell ⟨gb179, 1, none⟩ (.int .i64 a1_1)).heap[gb179]? = some (.cells #[.slice Ao47 y176.length co47, .int .i64 a1_1] 31 (0, 0))) := ⟨by (with_reducible repeat (first | refine blk_drewN ?_ _ | refine blk_drew ?_ | refine blk_alloc ?_ _)); refine blk_put (cs := #[.slice Ao47 y176.length co47, .int .i64 0]) ?_ 1 _ rfl; (with_reducible repeat (first | refine blk_drewN ?_ _ | refine blk_drew ?_ | refine blk_alloc ?_ _)); refine blk_put (cs := #[.slice none 0 0, .int .i64 0]) ?_ 0 _ rfl; (with_reducible repeat (first | refine blk_drewN ?_ _ | refine blk_drew ?_ | refine blk_alloc ?_ _)); exact BK179.out⟩
          have n5_ : Aside0 (Kept w ((w46.setCell ⟨gb179, 0, none⟩ (.slice Ao47 y176.length co47)).setCell ⟨gb179, 1, none⟩ (.int .i64 a1_1)) (fun k_ => P1_0_ k_)) := ⟨by repeat (first | (with_reducible first | exact HK.out | apply Kept.alloc | apply Kept.drewN | apply Kept.drew | refine Kept.setCell ?_ (.inr GW158.out) _ | refine Kept.setCell ?_ (.inr GW179.out) _) | exact HK.out)⟩
          have n6_ : Aside0 (Below w0.heap.size w0 ((w46.setCell ⟨gb179, 0, none⟩ (.slice Ao47 y176.length co47)).setCell ⟨gb179, 1, none⟩ (.int .i64 a1_1))) := ⟨by repeat (first | (with_reducible first | exact HB.out | apply below_alloc | apply pw_below_drewN | apply below_drew1 | refine below_set ?_ GE158.out | refine below_set ?_ GE179.out) | exact HB.out)⟩
          (try clear HO_159000)
          (try clear HO175)
          (try clear HO178)
          (try clear BK158)
          (try clear BK179)
          (try clear HK)
          (try clear HB)
          generalize ((w46.setCell ⟨gb179, 0, none⟩ (.slice Ao47 y176.length co47)).setCell ⟨gb179, 1, none⟩ (.int .i64 a1_1)) = w50 at n0_ n1_ n2_ n3_ n4_ n5_ n6_ ⊢
          have HO_159000 := n0_
          have HO175 := n1_
          have HO178 := n2_
          have BK158 := n3_
          have BK179 := n4_
          have HK := n5_
          have HB := n6_
          clear n0_ n1_ n2_ n3_ n4_ n5_ n6_
          have hnb51 := NB179_158.out
          have hnc51 := NB158_179.out
          have hcz52_0 : w50.cell? ⟨gb179, 0, none⟩ = some (.slice Ao47 y176.length co47) := (blk_cell BK179.out 0).trans rfl
          have hcz52_1 : w50.cell? ⟨gb179, 1, none⟩ = some (.int .i64 a1_1) := (blk_cell BK179.out 1).trans rfl
          have hfz52_0 := blk_frozen BK179.out 0
          have hfz52_1 := blk_frozen BK179.out 1
          try go_wp2_with (first | ((with_reducible refine gate_callee (f := 10) rfl ?_); refine goesL_ (some 70) rfl rfl Try.func10 (by kernel_rfl) rfl #[.int .i64 (wrap64 (a0 - 1)), .agg #[.slice Ao47 y176.length co47, .int .i64 a1_1]] rfl (by (try simp only [List.map_toArray, List.map_cons, List.map_nil]); first | done | rfl | (simp only [List.length_drop, List.length_take]; rfl)) ?_; (with_reducible refine (ih kj22 (by have := HK1.out; have := HJ22.out; omega) (wrap64 (a0 - 1)) (fun k_ => some k_ = (.slice Ao47 y176.length co47 : Value).ownBlock) (.slice Ao47 y176.length co47) y176 a1_1 t180 true w0 _ ?side1 ?side2 A36.out).mono ?_); (case side1 => repeat (first | (with_reducible first | exact HB.out | apply below_alloc | apply pw_below_drewN | apply below_drew1 | refine below_set ?_ GE158.out | refine below_set ?_ GE179.out) | exact HB.out)); (case side2 => exact Kd.R_tight rfl HO178.out); rintro e w53 ⟨v181, rfl, ho0, hb, hkp⟩; refine ⟨_, rfl, ?_⟩; have n0_ := Aside0.mk (Kd.R_mono (ok' := fun k_ => (P1_0_ k_ ∨ w.heap.size ≤ k_) ∧ some k_ ≠ (v174 : Value).ownBlock ∧ some k_ ≠ (v181 : Value).ownBlock) (Kd.R_keptB (HO_159000.out) hkp (fun k_ hk_ hs_ => (hk_.2.2) hs_)) (fun k_ hk_ => ⟨hk_.1.1, hk_.1.2.1, fun e_ => Or.elim (ho0.1 k_ e_.symm) (fun hs_ => hk_.2.1 hs_) (fun hn_ => Nat.not_le.2 hk_.2.2 hn_)⟩)); have n1_ := Aside0.mk (blk_kept (by (with_reducible repeat (first | refine blk_drewN ?_ _ | refine blk_drew ?_ | refine blk_alloc ?_ _)); exact BK158.out) hkp (fun hs_ => (fun e_ => (Kd.R_ne HO178.out BK158.out (by decide)) e_) hs_)); have n2_ := Aside0.mk (Kd.R_mono (ok' := fun k_ => (P1_0_ k_ ∨ w.heap.size ≤ k_) ∧ some k_ ≠ (.slice Ao19 l1_0.length co19 : Value).ownBlock ∧ some k_ ≠ (v181 : Value).ownBlock) (Kd.R_keptB (HO175.out) hkp (fun k_ hk_ hs_ => (hk_.2.2) hs_)) (fun k_ hk_ => ⟨hk_.1.1, hk_.1.2.1, fun e_ => Or.elim (ho0.1 k_ e_.symm) (fun hs_ => hk_.2.1 hs_) (fun hn_ => Nat.not_le.2 hk_.2.2 hn_)⟩)); have n3_ := Aside0.mk (blk_kept (by (with_reducible repeat (first | refine blk_drewN ?_ _ | refine blk_drew ?_ | refine blk_alloc ?_ _)); exact BK179.out) hkp (fun hs_ => (fun e_ => (Kd.R_ne HO178.out BK179.out (by decide)) e_) hs_)); have n4_ := Aside0.mk (Kd.R_mono (ok' := fun k_ => (P1_0_ k_ ∨ w.heap.size ≤ k_) ∧ some k_ ≠ (.slice Ao19 l1_0.length co19 : Value).ownBlock ∧ some k_ ≠ (v174 : Value).ownBlock) ho0 (fun k_ hk_ => ⟨Or.elim hk_ (fun hs_ => (HO178.out.1 k_ (hs_).symm).1) (fun hn_ => (.inr (Nat.le_trans (by first | exact HK.out.1 | exact (show Kept w _ (fun k_ => P1_0_ k_) from by repeat (first | (with_reducible first | exact HK.out | apply Kept.alloc | apply Kept.drewN | apply Kept.drew | refine Kept.setCell ?_ (.inr GW158.out) _ | refine Kept.setCell ?_ (.inr GW179.out) _) | exact HK.out)).1) hn_))), Or.elim hk_ (fun hs_ => fun e_ => (((HO_159000.out).1 k_ e_.symm).2.2) hs_) (fun hn_ => (Kd.fresh' (Kd.R_lt (by (with_reducible repeat first | apply ra_ | apply rn_ | apply rw_); exact HO_159000.out)) k_ hn_)), Or.elim hk_ (fun hs_ => fun e_ => (((HO175.out).1 k_ e_.symm).2.2) hs_) (fun hn_ => (Kd.fresh' (Kd.R_lt (by (with_reducible repeat first | apply ra_ | apply rn_ | apply rw_); exact HO175.out)) k_ hn_))⟩)); have n5_ := Aside0.mk (Kept.then_ (S := (fun k_ => P1_0_ k_)) (by repeat (first | (with_reducible first | exact HK.out | apply Kept.alloc | apply Kept.drewN | apply Kept.drew | refine Kept.setCell ?_ (.inr GW158.out) _ | refine Kept.setCell ?_ (.inr GW179.out) _) | exact HK.out)) hkp (fun k_ hs_ => (fun e_ => (HO178.out.1 k_ e_.symm).1) hs_)); have n6_ := Aside0.mk (hb); clear HO_159000; clear BK158; clear HO175; clear BK179; clear HK; clear HB; clear HO178; have HO_159000 := n0_; have BK158 := n1_; have HO175 := n2_; have BK179 := n3_; have HO182 := n4_; have HK := n5_; have HB := n6_; clear n0_ n1_ n2_ n3_ n4_ n5_ n6_; (try clear hb); (try clear hkp); (try clear ho0)))
          go_ret2
          exact ⟨_, by first | rfl | (simp [errW_none, errW_some] <;> rfl) | (simp [*, errW_none, errW_some] <;> rfl), by (with_reducible repeat first | apply ra_ | apply rn_ | apply rw_); exact Kd.R_mono HO182.out (fun _ hk => hk.1), by repeat (first | (with_reducible first | exact HB.out | apply below_alloc | apply pw_below_drewN | apply below_drew1 | refine below_set ?_ GE158.out | refine below_set ?_ GE179.out) | exact HB.out), by repeat (first | (with_reducible first | exact HK.out | apply Kept.alloc | apply Kept.drewN | apply Kept.drew | refine Kept.setCell ?_ (.inr GW158.out) _ | refine Kept.setCell ?_ (.inr GW179.out) _) | exact HK.out)⟩
         ·replace c37 := Bool.eq_false_iff.mpr c37
          subst c37
          have H1 : (spec_slBest.l0 kj22 a0 (wrap64 (x6_1 + 1)) l1_0 a1_1) = some (r1, r2) := by rw [if_neg (show ¬ (false = true) by decide)] at H; exact H
          clear H
          have H := H1
          clear H1
          have H' := Aside0.mk H
          clear H
          try go_wp2
          have n0_ := Aside0.mk (Kd.R_drew HO_159000.out)
          have n1_ := Aside0.mk (blk_drew BK158.out)
          have n2_ := Aside0.mk (Kept.drew HK.out)
          have n3_ := Aside0.mk (below_drew1 HB.out)
          clear HO_159000
          clear BK158
          clear HK
          clear HB
          have HO_159000 := n0_
          have BK158 := n1_
          have HK := n2_
          have HB := n3_
          clear n0_ n1_ n2_ n3_
          refine start_ (n := 11) (S := fun w' => w'.cell? ⟨gb158, 0, none⟩ = some (.slice Ao19 l1_0.length co19) ∧ w'.cell? ⟨gb158, 1, none⟩ = some (.int .i64 a1_1)) (ds := []) #[false, false, false, false, false, false, false, false, false, false, false] (by kernel_rfl) rfl rfl ⟨(blk_cell BK158.out 0).trans rfl, (blk_cell BK158.out 1).trans rfl⟩ (fun hHeld => ?_); refine with_tabW spec_slBest.tab8 spec_slBest.bits8 (fun HT_ HW_ => ?_)
          generalize wc.drew = w54 at HO_159000 BK158 HK HB hHeld ⊢
          refine pure_ (i := 0) (N := some 57) (v := ?_) (a' := ?_) #[true, false, false, false, false, false, false, false, false, false, false] rfl rfl (any_of HT_.out (by kernel_rfl)) (fun _ _ _ h => h) (Or.inl ⟨by rfl, ?_⟩) ?_ ?_
          rotate_left
          ·intro w'
           go_simp
           with_reducible rfl
          rotate_left
          ·simp only [Act.put, sa_, sz_, ss_, i64_w, i32_w]
           rfl
          refine pure_ (i := 3) (N := some 60) (v := ?_) (a' := ?_) #[true, false, false, true, false, false, false, false, false, false, false] rfl rfl (any_of HT_.out (by kernel_rfl)) (fun _ _ _ h => h) (Or.inl ⟨by rfl, ?_⟩) ?_ ?_
          rotate_left
          ·intro w'
           go_simp
           with_reducible rfl
          rotate_left
          ·simp only [Act.put, sa_, sz_, ss_, i64_w, i32_w]
           rfl
          refine pure_ (i := 6) (N := some 63) (v := ?_) (a' := ?_) #[true, false, false, true, false, false, true, false, false, false, false] rfl rfl (any_of HT_.out (by kernel_rfl)) (fun _ _ _ h => h) (Or.inl ⟨by rfl, ?_⟩) ?_ ?_
          rotate_left
          ·intro w'
           go_simp
           with_reducible rfl
          rotate_left
          ·simp only [Act.put, sa_, sz_, ss_, i64_w, i32_w]
           rfl
          refine take_ (i := 1) (N := some 58) (v := ?_) (a' := ?_) #[true, true, false, true, false, false, true, false, false, false, false] rfl rfl (take_ofW HT_.out HW_.out (by kernel_rfl)) (fun _ _ _ h => h) (Or.inl ⟨by rfl, ?_⟩) hHeld ?_ ?_
          rotate_left
          ·rintro w' ⟨s0, s1⟩
           go_simp
           with_reducible rfl
          rotate_left
          ·simp only [Act.put, sa_, sz_, ss_, i64_w, i32_w]
           rfl
          refine take_ (i := 7) (N := some 64) (v := ?_) (a' := ?_) #[true, true, false, true, false, false, true, true, false, false, false] rfl rfl (take_ofW HT_.out HW_.out (by kernel_rfl)) (fun _ _ _ h => h) (Or.inl ⟨by rfl, ?_⟩) hHeld ?_ ?_
          rotate_left
          ·rintro w' ⟨s0, s1⟩
           go_simp
           with_reducible rfl
          rotate_left
          ·simp only [Act.put, sa_, sz_, ss_, i64_w, i32_w]
           rfl
          refine join_ (σ := Value × Value × Value × Nat) 1 #[true, true, true, true, true, true, true, true, true, true, false] (fun s_ => [(59, s_.1), (61, s_.2.1), (62, s_.2.2.1), (9, .pointer (some ⟨s_.2.2.2, 0, none⟩)), (65, .agg #[s_.2.2.1, .int .i64 a1_1])]) (fun s_ w' => (w'.cell? ⟨gb158, 0, none⟩ = some (.slice Ao19 l1_0.length co19) ∧ w'.cell? ⟨gb158, 1, none⟩ = some (.int .i64 a1_1)) ∧ (Kd.R (Kd.int .i64) 3 w' w0.heap.size (fun k_ => (P1_0_ k_ ∨ w.heap.size ≤ k_) ∧ some k_ ≠ (s_.2.2.1 : Value).ownBlock ∧ some k_ ≠ (.slice Ao19 l1_0.length co19 : Value).ownBlock) s_.2.1 y173) ∧ (Kd.R (Kd.int .i64) 3 w' w0.heap.size (fun k_ => (P1_0_ k_ ∨ w.heap.size ≤ k_) ∧ some k_ ≠ (s_.2.1 : Value).ownBlock ∧ some k_ ≠ (.slice Ao19 l1_0.length co19 : Value).ownBlock) s_.2.2.1 y176) ∧ (Kd.R (Kd.int .i64) 3 w' w0.heap.size (fun k_ => (P1_0_ k_ ∨ w.heap.size ≤ k_) ∧ some k_ ≠ (s_.2.1 : Value).ownBlock ∧ some k_ ≠ (s_.2.2.1 : Value).ownBlock) (.slice Ao19 l1_0.length co19) l1_0) ∧ (w'.heap[gb158]? = some (.cells #[.slice Ao19 l1_0.length co19, .int .i64 a1_1] 31 (0, 0))) ∧ (w'.heap[s_.2.2.2]? = some (.cells #[.slice none 0 0, .int .i64 0] 31 (0, 0))) ∧ (w.heap.size ≤ s_.2.2.2) ∧ (w0.heap.size ≤ s_.2.2.2) ∧ (gb158 ≠ s_.2.2.2) ∧ (s_.2.2.2 ≠ gb158) ∧ (Kept w w' (fun k_ => P1_0_ k_)) ∧ (Below w0.heap.size w0 w')) ?_ ?_
          rotate_left
          ·intro hJ2_4_5_9
           refine join_ (σ := Value × Value × Value) 2 #[true, true, true, true, true, true, true, true, true, false, false] (fun s_ => [(59, s_.1), (61, s_.2.1), (62, s_.2.2), (65, .agg #[s_.2.2, .int .i64 a1_1])]) (fun s_ w' => (w'.cell? ⟨gb158, 0, none⟩ = some (.slice Ao19 l1_0.length co19) ∧ w'.cell? ⟨gb158, 1, none⟩ = some (.int .i64 a1_1)) ∧ (Kd.R (Kd.int .i64) 3 w' w0.heap.size (fun k_ => (P1_0_ k_ ∨ w.heap.size ≤ k_) ∧ some k_ ≠ (s_.2.2 : Value).ownBlock ∧ some k_ ≠ (.slice Ao19 l1_0.length co19 : Value).ownBlock) s_.2.1 y173) ∧ (Kd.R (Kd.int .i64) 3 w' w0.heap.size (fun k_ => (P1_0_ k_ ∨ w.heap.size ≤ k_) ∧ some k_ ≠ (s_.2.1 : Value).ownBlock ∧ some k_ ≠ (.slice Ao19 l1_0.length co19 : Value).ownBlock) s_.2.2 y176) ∧ (Kd.R (Kd.int .i64) 3 w' w0.heap.size (fun k_ => (P1_0_ k_ ∨ w.heap.size ≤ k_) ∧ some k_ ≠ (s_.2.1 : Value).ownBlock ∧ some k_ ≠ (s_.2.2 : Value).ownBlock) (.slice Ao19 l1_0.length co19) l1_0) ∧ (w'.heap[gb158]? = some (.cells #[.slice Ao19 l1_0.length co19, .int .i64 a1_1] 31 (0, 0))) ∧ (Kept w w' (fun k_ => P1_0_ k_)) ∧ (Below w0.heap.size w0 w')) ?_ ?_
           rotate_left
           ·intro hJ2_4_5
            refine join_ (σ := Value × Value × Nat) 3 #[true, true, true, true, true, false, true, true, false, true, false] (fun s_ => [(59, s_.1), (61, s_.2.1), (9, .pointer (some ⟨s_.2.2, 0, none⟩))]) (fun s_ w' => (w'.cell? ⟨gb158, 0, none⟩ = some (.slice Ao19 l1_0.length co19) ∧ w'.cell? ⟨gb158, 1, none⟩ = some (.int .i64 a1_1)) ∧ (Kd.R (Kd.int .i64) 3 w' w0.heap.size (fun k_ => (P1_0_ k_ ∨ w.heap.size ≤ k_) ∧ some k_ ≠ (s_.2.1 : Value).ownBlock ∧ some k_ ≠ (.slice Ao19 l1_0.length co19 : Value).ownBlock) s_.1 t170) ∧ (Kd.R (Kd.int .i64) 3 w' w0.heap.size (fun k_ => (P1_0_ k_ ∨ w.heap.size ≤ k_) ∧ some k_ ≠ (s_.1 : Value).ownBlock ∧ some k_ ≠ (.slice Ao19 l1_0.length co19 : Value).ownBlock) s_.2.1 y173) ∧ (Kd.R (Kd.int .i64) 3 w' w0.heap.size (fun k_ => (P1_0_ k_ ∨ w.heap.size ≤ k_) ∧ some k_ ≠ (s_.1 : Value).ownBlock ∧ some k_ ≠ (s_.2.1 : Value).ownBlock) (.slice Ao19 l1_0.length co19) l1_0) ∧ (w'.heap[gb158]? = some (.cells #[.slice Ao19 l1_0.length co19, .int .i64 a1_1] 31 (0, 0))) ∧ (w'.heap[s_.2.2]? = some (.cells #[.slice none 0 0, .int .i64 0] 31 (0, 0))) ∧ (w.heap.size ≤ s_.2.2) ∧ (w0.heap.size ≤ s_.2.2) ∧ (gb158 ≠ s_.2.2) ∧ (s_.2.2 ≠ gb158) ∧ (Kept w w' (fun k_ => P1_0_ k_)) ∧ (Below w0.heap.size w0 w')) ?_ ?_
            rotate_left
            ·intro hJ2_4_9
             refine join_ (σ := Value × Value) 4 #[true, true, true, true, true, false, true, true, false, false, false] (fun s_ => [(59, s_.1), (61, s_.2)]) (fun s_ w' => (w'.cell? ⟨gb158, 0, none⟩ = some (.slice Ao19 l1_0.length co19) ∧ w'.cell? ⟨gb158, 1, none⟩ = some (.int .i64 a1_1)) ∧ (Kd.R (Kd.int .i64) 3 w' w0.heap.size (fun k_ => (P1_0_ k_ ∨ w.heap.size ≤ k_) ∧ some k_ ≠ (s_.2 : Value).ownBlock ∧ some k_ ≠ (.slice Ao19 l1_0.length co19 : Value).ownBlock) s_.1 t170) ∧ (Kd.R (Kd.int .i64) 3 w' w0.heap.size (fun k_ => (P1_0_ k_ ∨ w.heap.size ≤ k_) ∧ some k_ ≠ (s_.1 : Value).ownBlock ∧ some k_ ≠ (.slice Ao19 l1_0.length co19 : Value).ownBlock) s_.2 y173) ∧ (Kd.R (Kd.int .i64) 3 w' w0.heap.size (fun k_ => (P1_0_ k_ ∨ w.heap.size ≤ k_) ∧ some k_ ≠ (s_.1 : Value).ownBlock ∧ some k_ ≠ (s_.2 : Value).ownBlock) (.slice Ao19 l1_0.length co19) l1_0) ∧ (w'.heap[gb158]? = some (.cells #[.slice Ao19 l1_0.length co19, .int .i64 a1_1] 31 (0, 0))) ∧ (Kept w w' (fun k_ => P1_0_ k_)) ∧ (Below w0.heap.size w0 w')) ?_ ?_
             rotate_left
             ·intro hJ2_4
              refine join_ (σ := Value × Nat) 4 #[true, true, true, true, false, false, true, true, false, true, false] (fun s_ => [(59, s_.1), (9, .pointer (some ⟨s_.2, 0, none⟩))]) (fun s_ w' => (w'.cell? ⟨gb158, 0, none⟩ = some (.slice Ao19 l1_0.length co19) ∧ w'.cell? ⟨gb158, 1, none⟩ = some (.int .i64 a1_1)) ∧ (Kd.R (Kd.int .i64) 3 w' w0.heap.size (fun k_ => (P1_0_ k_ ∨ w.heap.size ≤ k_) ∧ some k_ ≠ (.slice Ao19 l1_0.length co19 : Value).ownBlock) s_.1 t170) ∧ (Kd.R (Kd.int .i64) 3 w' w0.heap.size (fun k_ => (P1_0_ k_ ∨ w.heap.size ≤ k_) ∧ some k_ ≠ (s_.1 : Value).ownBlock) (.slice Ao19 l1_0.length co19) l1_0) ∧ (w'.heap[gb158]? = some (.cells #[.slice Ao19 l1_0.length co19, .int .i64 a1_1] 31 (0, 0))) ∧ (w'.heap[s_.2]? = some (.cells #[.slice none 0 0, .int .i64 0] 31 (0, 0))) ∧ (w.heap.size ≤ s_.2) ∧ (w0.heap.size ≤ s_.2) ∧ (gb158 ≠ s_.2) ∧ (s_.2 ≠ gb158) ∧ (Kept w w' (fun k_ => P1_0_ k_)) ∧ (Below w0.heap.size w0 w')) ?_ ?_
              rotate_left
              ·intro hJ2_9
               refine join_ (σ := Value × Nat) 4 #[true, true, false, true, true, false, true, true, false, true, false] (fun s_ => [(61, s_.1), (9, .pointer (some ⟨s_.2, 0, none⟩))]) (fun s_ w' => (w'.cell? ⟨gb158, 0, none⟩ = some (.slice Ao19 l1_0.length co19) ∧ w'.cell? ⟨gb158, 1, none⟩ = some (.int .i64 a1_1)) ∧ (Kd.R (Kd.int .i64) 3 w' w0.heap.size (fun k_ => (P1_0_ k_ ∨ w.heap.size ≤ k_) ∧ some k_ ≠ (.slice Ao19 l1_0.length co19 : Value).ownBlock) s_.1 y173) ∧ (Kd.R (Kd.int .i64) 3 w' w0.heap.size (fun k_ => (P1_0_ k_ ∨ w.heap.size ≤ k_) ∧ some k_ ≠ (s_.1 : Value).ownBlock) (.slice Ao19 l1_0.length co19) l1_0) ∧ (w'.heap[gb158]? = some (.cells #[.slice Ao19 l1_0.length co19, .int .i64 a1_1] 31 (0, 0))) ∧ (w'.heap[s_.2]? = some (.cells #[.slice none 0 0, .int .i64 0] 31 (0, 0))) ∧ (w.heap.size ≤ s_.2) ∧ (w0.heap.size ≤ s_.2) ∧ (gb158 ≠ s_.2) ∧ (s_.2 ≠ gb158) ∧ (Kept w w' (fun k_ => P1_0_ k_)) ∧ (Below w0.heap.size w0 w')) ?_ ?_
               rotate_left
               ·intro hJ4_9
                refine join_ (σ := Value) 5 #[true, true, true, true, false, false, true, true, false, false, false] (fun s_ => [(59, s_)]) (fun s_ w' => (w'.cell? ⟨gb158, 0, none⟩ = some (.slice Ao19 l1_0.length co19) ∧ w'.cell? ⟨gb158, 1, none⟩ = some (.int .i64 a1_1)) ∧ (Kd.R (Kd.int .i64) 3 w' w0.heap.size (fun k_ => (P1_0_ k_ ∨ w.heap.size ≤ k_) ∧ some k_ ≠ (.slice Ao19 l1_0.length co19 : Value).ownBlock) s_ t170) ∧ (Kd.R (Kd.int .i64) 3 w' w0.heap.size (fun k_ => (P1_0_ k_ ∨ w.heap.size ≤ k_) ∧ some k_ ≠ (s_ : Value).ownBlock) (.slice Ao19 l1_0.length co19) l1_0) ∧ (w'.heap[gb158]? = some (.cells #[.slice Ao19 l1_0.length co19, .int .i64 a1_1] 31 (0, 0))) ∧ (Kept w w' (fun k_ => P1_0_ k_)) ∧ (Below w0.heap.size w0 w')) ?_ ?_
                rotate_left
                ·intro hJ2
                 refine join_ (σ := Value) 5 #[true, true, false, true, true, false, true, true, false, false, false] (fun s_ => [(61, s_)]) (fun s_ w' => (w'.cell? ⟨gb158, 0, none⟩ = some (.slice Ao19 l1_0.length co19) ∧ w'.cell? ⟨gb158, 1, none⟩ = some (.int .i64 a1_1)) ∧ (Kd.R (Kd.int .i64) 3 w' w0.heap.size (fun k_ => (P1_0_ k_ ∨ w.heap.size ≤ k_) ∧ some k_ ≠ (.slice Ao19 l1_0.length co19 : Value).ownBlock) s_ y173) ∧ (Kd.R (Kd.int .i64) 3 w' w0.heap.size (fun k_ => (P1_0_ k_ ∨ w.heap.size ≤ k_) ∧ some k_ ≠ (s_ : Value).ownBlock) (.slice Ao19 l1_0.length co19) l1_0) ∧ (w'.heap[gb158]? = some (.cells #[.slice Ao19 l1_0.length co19, .int .i64 a1_1] 31 (0, 0))) ∧ (Kept w w' (fun k_ => P1_0_ k_)) ∧ (Below w0.heap.size w0 w')) ?_ ?_
                 rotate_left
                 ·intro hJ4
                  refine join_ (σ := Nat) 5 #[true, true, false, true, false, false, true, true, false, true, false] (fun s_ => [(9, .pointer (some ⟨s_, 0, none⟩))]) (fun s_ w' => (w'.cell? ⟨gb158, 0, none⟩ = some (.slice Ao19 l1_0.length co19) ∧ w'.cell? ⟨gb158, 1, none⟩ = some (.int .i64 a1_1)) ∧ (Kd.R (Kd.int .i64) 3 w' w0.heap.size (fun k_ => (P1_0_ k_ ∨ w.heap.size ≤ k_)) (.slice Ao19 l1_0.length co19) l1_0) ∧ (w'.heap[gb158]? = some (.cells #[.slice Ao19 l1_0.length co19, .int .i64 a1_1] 31 (0, 0))) ∧ (w'.heap[s_]? = some (.cells #[.slice none 0 0, .int .i64 0] 31 (0, 0))) ∧ (w.heap.size ≤ s_) ∧ (w0.heap.size ≤ s_) ∧ (gb158 ≠ s_) ∧ (s_ ≠ gb158) ∧ (Kept w w' (fun k_ => P1_0_ k_)) ∧ (Below w0.heap.size w0 w')) ?_ ?_
                  rotate_left
                  ·intro hJ9
                   refine three_ (i := 2) (j := 4) (k := 9) (Ni := some 59) (Nj := some 61) (Nk := some 9) #[true, true, true, true, false, false, true, true, false, false, false] #[true, true, false, true, true, false, true, true, false, false, false] #[true, true, false, true, false, false, true, true, false, true, false] rfl rfl rfl rfl rfl rfl (three_of HT_.out (by kernel_rfl)) (by decide) (by decide) (by decide) (fun K hK => ?_) (fun K hK => ?_) (fun K hK => ?_)
                   ·skip
                    refine goes_ Try.func17 (by kernel_rfl) rfl #[.slice Ao19 l1_0.length co19] (by rfl) rfl rfl (by (try simp only [List.map_toArray, List.map_cons, List.map_nil]); first | done | rfl | (simp only [List.length_drop, List.length_take]; rfl)) ?_
                    with_reducible refine (spec_l1Own.calls _ _ l1_0 t170 _ ?side1 ?side2 A34.out).mono ?_
                    (case side1 => repeat (first | exact (Kd.R_reads' HO_159000.out).2.2 | (with_reducible refine Kd.C_alloc ?_ _) | (with_reducible refine Kd.C_drewN ?_ _) | (with_reducible refine Kd.C_drew ?_)))
                    (case side2 => exact (Kd.R_reads' HO_159000.out).2.1)
                    rintro e w55 ⟨v171, rfl, ho0, hb⟩
                    refine ⟨_, rfl, ?_⟩
                    have n0_ := Aside0.mk (Kd.R_elder' (by (with_reducible repeat first | apply ra_ | apply rn_ | apply rw_); exact HO_159000.out) (Kd.R_base ho0) hb)
                    have n1_ := Aside0.mk (Kd.R_lower (Kd.R_new' (Kd.R_newM (M := fun k_ => (P1_0_ k_ ∨ w.heap.size ≤ k_)) ho0 (by first | exact HK.out.1 | exact (show Kept w _ (fun k_ => P1_0_ k_) from by repeat (first | (with_reducible first | exact HK.out | apply Kept.alloc | apply Kept.drewN | apply Kept.drew | refine Kept.setCell ?_ (.inr GW158.out) _) | exact HK.out)).1) (fun k_ h_ => .inr h_)) (Kd.R_lt (by (with_reducible repeat first | apply ra_ | apply rn_ | apply rw_); exact HO_159000.out))) (below_size (by repeat (first | (with_reducible first | exact HB.out | apply below_alloc | apply pw_below_drewN | apply below_drew1 | refine below_set ?_ GE158.out) | exact HB.out))))
                    have n2_ := Aside0.mk (blk_below (g := gb158) (o := .cells #[.slice Ao19 l1_0.length co19, .int .i64 a1_1] 31 (0, 0)) (by (with_reducible repeat (first | refine blk_drewN ?_ _ | refine blk_drew ?_ | refine blk_alloc ?_ _)); exact BK158.out) hb)
                    have n3_ := Aside0.mk (Kept.below (S := (fun k_ => P1_0_ k_)) (by repeat (first | (with_reducible first | exact HK.out | apply Kept.alloc | apply Kept.drewN | apply Kept.drew | refine Kept.setCell ?_ (.inr GW158.out) _) | exact HK.out)) hb)
                    have n4_ := Aside0.mk (below_step (by repeat (first | (with_reducible first | exact HB.out | apply below_alloc | apply pw_below_drewN | apply below_drew1 | refine below_set ?_ GE158.out) | exact HB.out)) hb)
                    clear HO_159000
                    clear BK158
                    clear HK
                    clear HB
                    have HO_159000 := n0_
                    have HO172 := n1_
                    have BK158 := n2_
                    have HK := n3_
                    have HB := n4_
                    clear n0_ n1_ n2_ n3_ n4_
                    (try clear hb)
                    (try clear hb2)
                    (try clear hk)
                    (try clear hi)
                    (try clear ho0)
                    refine hK.out _ _ ⟨(blk_cell BK158.out 0).trans rfl, (blk_cell BK158.out 1).trans rfl⟩ (fun hHeld => ?_)
                    clear hK K
                    refine norm_ (a' := ?_) ?_ ?_
                    rotate_left
                    ·show Act.put _ (some 59) _ = _
                     simp only [Act.put, sa_, sz_, ss_, i64_w, i32_w]
                     rfl
                    exact norm_ (by simp only [putAll, Act.put, sa_, sz_, ss_] <;> rfl) (hJ2 (v171) _ ⟨hHeld, (by (with_reducible repeat first | apply ra_ | apply rn_ | apply rw_); exact Kd.R_mono HO172.out (fun _ hk => ⟨hk.1.1, hk.2⟩)), (by (with_reducible repeat first | apply ra_ | apply rn_ | apply rw_); exact HO_159000.out), (by (with_reducible repeat (first | refine blk_drewN ?_ _ | refine blk_drew ?_ | refine blk_alloc ?_ _)); exact BK158.out), (by repeat (first | (with_reducible first | exact HK.out | apply Kept.alloc | apply Kept.drewN | apply Kept.drew | refine Kept.setCell ?_ (.inr GW158.out) _) | exact HK.out)), (by repeat (first | (with_reducible first | exact HB.out | apply below_alloc | apply pw_below_drewN | apply below_drew1 | refine below_set ?_ GE158.out) | exact HB.out))⟩)
                   ·skip
                    refine Kd.R_lit_step (Kd.int .i64) _ 3 ?hg (N := 61) ?hd (xs := ([x6_1] : List Int)) (inner := [.int .i64 x6_1]) (ok := fun _ => True) (okp := fun _ => True) ?hr ?hp (fun _ hk => hk) trivial (Below.refl _ _) (Nat.le_refl _) (by simp) ?_; (case hd => rfl); (case hg => rfl); (case hr => first | (go_simp; done) | (go_simp; rfl)); (case hp => exact (Reps.one (show Kd.M (Kd.int .i64) _ _ _ x6_1 [.int .i64 x6_1] from rfl) (Reps.none _ _)))
                    intro v174 w55 ho56 hb hg_ hnew_
                    clear hg_ hnew_
                    (first | rw [← Ny173.out] at ho56 | (simp only [Int.reduceToNat] at ho56; rw [← Ny173.out] at ho56))
                    have n0_ := Aside0.mk (Kd.R_elder' (by (with_reducible repeat first | apply ra_ | apply rn_ | apply rw_); exact HO_159000.out) (Kd.R_base ho56) hb)
                    have n1_ := Aside0.mk (Kd.R_lower (Kd.R_new' (Kd.R_newM (M := fun k_ => (P1_0_ k_ ∨ w.heap.size ≤ k_)) ho56 (by first | exact HK.out.1 | exact (show Kept w _ (fun k_ => P1_0_ k_) from by repeat (first | (with_reducible first | exact HK.out | apply Kept.alloc | apply Kept.drewN | apply Kept.drew | refine Kept.setCell ?_ (.inr GW158.out) _) | exact HK.out)).1) (fun k_ h_ => .inr h_)) (Kd.R_lt (by (with_reducible repeat first | apply ra_ | apply rn_ | apply rw_); exact HO_159000.out))) (below_size (by repeat (first | (with_reducible first | exact HB.out | apply below_alloc | apply pw_below_drewN | apply below_drew1 | refine below_set ?_ GE158.out) | exact HB.out))))
                    have n2_ := Aside0.mk (blk_below (g := gb158) (o := .cells #[.slice Ao19 l1_0.length co19, .int .i64 a1_1] 31 (0, 0)) (by (with_reducible repeat (first | refine blk_drewN ?_ _ | refine blk_drew ?_ | refine blk_alloc ?_ _)); exact BK158.out) hb)
                    have n3_ := Aside0.mk (Kept.below (S := (fun k_ => P1_0_ k_)) (by repeat (first | (with_reducible first | exact HK.out | apply Kept.alloc | apply Kept.drewN | apply Kept.drew | refine Kept.setCell ?_ (.inr GW158.out) _) | exact HK.out)) hb)
                    have n4_ := Aside0.mk (below_step (by repeat (first | (with_reducible first | exact HB.out | apply below_alloc | apply pw_below_drewN | apply below_drew1 | refine below_set ?_ GE158.out) | exact HB.out)) hb)
                    clear HO_159000
                    clear BK158
                    clear HK
                    clear HB
                    have HO_159000 := n0_
                    have HO175 := n1_
                    have BK158 := n2_
                    have HK := n3_
                    have HB := n4_
                    clear n0_ n1_ n2_ n3_ n4_
                    clear hb ho56
                    refine hK.out _ _ ⟨(blk_cell BK158.out 0).trans rfl, (blk_cell BK158.out 1).trans rfl⟩ (fun hHeld => ?_)
                    clear hK K
                    refine norm_ (a' := ?_) ?_ ?_
                    rotate_left
                    ·show Act.put _ (some 61) _ = _
                     simp only [Act.put, sa_, sz_, ss_, i64_w, i32_w]
                     rfl
                    exact norm_ (by simp only [putAll, Act.put, sa_, sz_, ss_] <;> rfl) (hJ4 (v174) _ ⟨hHeld, (by (with_reducible repeat first | apply ra_ | apply rn_ | apply rw_); exact Kd.R_mono HO175.out (fun _ hk => ⟨hk.1.1, hk.2⟩)), (by (with_reducible repeat first | apply ra_ | apply rn_ | apply rw_); exact HO_159000.out), (by (with_reducible repeat (first | refine blk_drewN ?_ _ | refine blk_drew ?_ | refine blk_alloc ?_ _)); exact BK158.out), (by repeat (first | (with_reducible first | exact HK.out | apply Kept.alloc | apply Kept.drewN | apply Kept.drew | refine Kept.setCell ?_ (.inr GW158.out) _) | exact HK.out)), (by repeat (first | (with_reducible first | exact HB.out | apply below_alloc | apply pw_below_drewN | apply below_drew1 | refine below_set ?_ GE158.out) | exact HB.out))⟩)
                   ·skip
                    refine box_step ?hg (N := 9) ?hd (cs := #[.slice none 0 0, .int .i64 0]) (t := 31) ?hr ?_; (case hd => rfl); (case hg => rfl); (case hr => first | (go_simp; done) | (go_simp; rfl))
                    intro gb179 hg w55 hbox hb
                    have n0_ := Aside0.mk (Kd.R_below (by (with_reducible repeat first | apply ra_ | apply rn_ | apply rw_); exact HO_159000.out) hb)
                    have n1_ := Aside0.mk (blk_below (g := gb158) (o := .cells #[.slice Ao19 l1_0.length co19, .int .i64 a1_1] 31 (0, 0)) (by (with_reducible repeat (first | refine blk_drewN ?_ _ | refine blk_drew ?_ | refine blk_alloc ?_ _)); exact BK158.out) hb)
                    have n2_ := Aside0.mk (Kept.below (S := (fun k_ => P1_0_ k_)) (by repeat (first | (with_reducible first | exact HK.out | apply Kept.alloc | apply Kept.drewN | apply Kept.drew | refine Kept.setCell ?_ (.inr GW158.out) _) | exact HK.out)) hb)
                    have n3_ := Aside0.mk (below_step (by repeat (first | (with_reducible first | exact HB.out | apply below_alloc | apply pw_below_drewN | apply below_drew1 | refine below_set ?_ GE158.out) | exact HB.out)) hb)
                    have n4_ := Aside0.mk (hbox)
                    have n5_ := Aside0.mk ((by rw [hg]; exact (by first | exact HK.out.1 | exact (show Kept w _ (fun k_ => P1_0_ k_) from by repeat (first | (with_reducible first | exact HK.out | apply Kept.alloc | apply Kept.drewN | apply Kept.drew | refine Kept.setCell ?_ (.inr GW158.out) _) | exact HK.out)).1) : w.heap.size ≤ gb179))
                    have n6_ := Aside0.mk ((by rw [hg]; exact (below_size (by repeat (first | (with_reducible first | exact HB.out | apply below_alloc | apply pw_below_drewN | apply below_drew1 | refine below_set ?_ GE158.out) | exact HB.out))) : w0.heap.size ≤ gb179))
                    have n7_ := Aside0.mk ((by rw [hg]; exact Nat.ne_of_lt (blk_lt (g := gb158) (o := .cells #[.slice Ao19 l1_0.length co19, .int .i64 a1_1] 31 (0, 0)) (by (with_reducible repeat (first | refine blk_drewN ?_ _ | refine blk_drew ?_ | refine blk_alloc ?_ _)); exact BK158.out)) : gb158 ≠ gb179))
                    have n8_ := Aside0.mk ((by rw [hg]; exact Nat.ne_of_gt (blk_lt (g := gb158) (o := .cells #[.slice Ao19 l1_0.length co19, .int .i64 a1_1] 31 (0, 0)) (by (with_reducible repeat (first | refine blk_drewN ?_ _ | refine blk_drew ?_ | refine blk_alloc ?_ _)); exact BK158.out)) : gb179 ≠ gb158))
                    clear HO_159000
                    clear BK158
                    clear HK
                    clear HB
                    have HO_159000 := n0_
                    have BK158 := n1_
                    have HK := n2_
                    have HB := n3_
                    have BK179 := n4_
                    have GW179 := n5_
                    have GE179 := n6_
                    have NB158_179 := n7_
                    have NB179_158 := n8_
                    clear n0_ n1_ n2_ n3_ n4_ n5_ n6_ n7_ n8_
                    clear hb hbox hg
                    refine hK.out _ _ ⟨(blk_cell BK158.out 0).trans rfl, (blk_cell BK158.out 1).trans rfl⟩ (fun hHeld => ?_)
                    clear hK K
                    refine norm_ (a' := ?_) ?_ ?_
                    rotate_left
                    ·show Act.put _ (some 9) _ = _
                     simp only [Act.put, sa_, sz_, ss_, i64_w, i32_w]
                     rfl
                    exact norm_ (by simp only [putAll, Act.put, sa_, sz_, ss_] <;> rfl) (hJ9 (gb179) _ ⟨hHeld, (by (with_reducible repeat first | apply ra_ | apply rn_ | apply rw_); exact HO_159000.out), (by (with_reducible repeat (first | refine blk_drewN ?_ _ | refine blk_drew ?_ | refine blk_alloc ?_ _)); exact BK158.out), (by (with_reducible repeat (first | refine blk_drewN ?_ _ | refine blk_drew ?_ | refine blk_alloc ?_ _)); exact BK179.out), GW179.out, GE179.out, NB158_179.out, NB179_158.out, (by repeat (first | (with_reducible first | exact HK.out | apply Kept.alloc | apply Kept.drewN | apply Kept.drew | refine Kept.setCell ?_ (.inr GW158.out) _ | refine Kept.setCell ?_ (.inr GW179.out) _) | exact HK.out)), (by repeat (first | (with_reducible first | exact HB.out | apply below_alloc | apply pw_below_drewN | apply below_drew1 | refine below_set ?_ GE158.out | refine below_set ?_ GE179.out) | exact HB.out))⟩)
                  ·skip
                   rintro gb179 w56 ⟨hS_, h0_, h1_, h2_, h3_, h4_, h5_, h6_, h7_, h8_⟩
                   have n0_ : Aside0 (Kd.R (Kd.int .i64) 3 w56 w0.heap.size (fun k_ => (P1_0_ k_ ∨ w.heap.size ≤ k_)) (.slice Ao19 l1_0.length co19) l1_0) := ⟨h0_⟩
                   have n1_ : Aside0 (w56.heap[gb158]? = some (.cells #[.slice Ao19 l1_0.length co19, .int .i64 a1_1] 31 (0, 0))) := ⟨h1_⟩
                   have n2_ : Aside0 (w56.heap[gb179]? = some (.cells #[.slice none 0 0, .int .i64 0] 31 (0, 0))) := ⟨h2_⟩
                   have n3_ : Aside0 (w.heap.size ≤ gb179) := ⟨h3_⟩
                   have n4_ : Aside0 (w0.heap.size ≤ gb179) := ⟨h4_⟩
                   have n5_ : Aside0 (gb158 ≠ gb179) := ⟨h5_⟩
                   have n6_ : Aside0 (gb179 ≠ gb158) := ⟨h6_⟩
                   have n7_ : Aside0 (Kept w w56 (fun k_ => P1_0_ k_)) := ⟨h7_⟩
                   have n8_ : Aside0 (Below w0.heap.size w0 w56) := ⟨h8_⟩
                   clear HO_159000
                   clear BK158
                   clear HK
                   clear HB
                   clear h0_ h1_ h2_ h3_ h4_ h5_ h6_ h7_ h8_
                   have HO_159000 := n0_
                   have BK158 := n1_
                   have BK179 := n2_
                   have GW179 := n3_
                   have GE179 := n4_
                   have NB158_179 := n5_
                   have NB179_158 := n6_
                   have HK := n7_
                   have HB := n8_
                   clear n0_ n1_ n2_ n3_ n4_ n5_ n6_ n7_ n8_
                   have hHeld : w56.cell? ⟨gb158, 0, none⟩ = some (.slice Ao19 l1_0.length co19) ∧ w56.cell? ⟨gb158, 1, none⟩ = some (.int .i64 a1_1) := hS_
                   refine norm_ (a' := ?_) ?_ ?_
                   rotate_left
                   ·simp only [putAll, Act.put, sa_, sz_, ss_]
                    rfl
                   refine two_ (i := 2) (j := 4) (Ni := some 59) (Nj := some 61) #[true, true, true, true, false, false, true, true, false, true, false] #[true, true, false, true, true, false, true, true, false, true, false] rfl rfl rfl rfl (two_of HT_.out (by kernel_rfl)) (by decide) (by decide) (fun K hK => ?_) (fun K hK => ?_)
                   ·skip
                    refine goes_ Try.func17 (by kernel_rfl) rfl #[.slice Ao19 l1_0.length co19] (by rfl) rfl rfl (by (try simp only [List.map_toArray, List.map_cons, List.map_nil]); first | done | rfl | (simp only [List.length_drop, List.length_take]; rfl)) ?_
                    with_reducible refine (spec_l1Own.calls _ _ l1_0 t170 _ ?side1 ?side2 A34.out).mono ?_
                    (case side1 => repeat (first | exact (Kd.R_reads' HO_159000.out).2.2 | (with_reducible refine Kd.C_alloc ?_ _) | (with_reducible refine Kd.C_drewN ?_ _) | (with_reducible refine Kd.C_drew ?_)))
                    (case side2 => exact (Kd.R_reads' HO_159000.out).2.1)
                    rintro e w57 ⟨v171, rfl, ho0, hb⟩
                    refine ⟨_, rfl, ?_⟩
                    have n0_ := Aside0.mk (Kd.R_elder' (by (with_reducible repeat first | apply ra_ | apply rn_ | apply rw_); exact HO_159000.out) (Kd.R_base ho0) hb)
                    have n1_ := Aside0.mk (Kd.R_lower (Kd.R_new' (Kd.R_newM (M := fun k_ => (P1_0_ k_ ∨ w.heap.size ≤ k_)) ho0 (by first | exact HK.out.1 | exact (show Kept w _ (fun k_ => P1_0_ k_) from by repeat (first | (with_reducible first | exact HK.out | apply Kept.alloc | apply Kept.drewN | apply Kept.drew | refine Kept.setCell ?_ (.inr GW158.out) _ | refine Kept.setCell ?_ (.inr GW179.out) _) | exact HK.out)).1) (fun k_ h_ => .inr h_)) (Kd.R_lt (by (with_reducible repeat first | apply ra_ | apply rn_ | apply rw_); exact HO_159000.out))) (below_size (by repeat (first | (with_reducible first | exact HB.out | apply below_alloc | apply pw_below_drewN | apply below_drew1 | refine below_set ?_ GE158.out | refine below_set ?_ GE179.out) | exact HB.out))))
                    have n2_ := Aside0.mk (blk_below (g := gb158) (o := .cells #[.slice Ao19 l1_0.length co19, .int .i64 a1_1] 31 (0, 0)) (by (with_reducible repeat (first | refine blk_drewN ?_ _ | refine blk_drew ?_ | refine blk_alloc ?_ _)); exact BK158.out) hb)
                    have n3_ := Aside0.mk (blk_below (g := gb179) (o := .cells #[.slice none 0 0, .int .i64 0] 31 (0, 0)) (by (with_reducible repeat (first | refine blk_drewN ?_ _ | refine blk_drew ?_ | refine blk_alloc ?_ _)); exact BK179.out) hb)
                    have n4_ := Aside0.mk (Kept.below (S := (fun k_ => P1_0_ k_)) (by repeat (first | (with_reducible first | exact HK.out | apply Kept.alloc | apply Kept.drewN | apply Kept.drew | refine Kept.setCell ?_ (.inr GW158.out) _ | refine Kept.setCell ?_ (.inr GW179.out) _) | exact HK.out)) hb)
                    have n5_ := Aside0.mk (below_step (by repeat (first | (with_reducible first | exact HB.out | apply below_alloc | apply pw_below_drewN | apply below_drew1 | refine below_set ?_ GE158.out | refine below_set ?_ GE179.out) | exact HB.out)) hb)
                    clear HO_159000
                    clear BK158
                    clear BK179
                    clear HK
                    clear HB
                    have HO_159000 := n0_
                    have HO172 := n1_
                    have BK158 := n2_
                    have BK179 := n3_
                    have HK := n4_
                    have HB := n5_
                    clear n0_ n1_ n2_ n3_ n4_ n5_
                    (try clear hb)
                    (try clear hb2)
                    (try clear hk)
                    (try clear hi)
                    (try clear ho0)
                    refine hK.out _ _ ⟨(blk_cell BK158.out 0).trans rfl, (blk_cell BK158.out 1).trans rfl⟩ (fun hHeld => ?_)
                    clear hK K
                    refine norm_ (a' := ?_) ?_ ?_
                    rotate_left
                    ·show Act.put _ (some 59) _ = _
                     simp only [Act.put, sa_, sz_, ss_, i64_w, i32_w]
                     rfl
                    exact norm_ (by simp only [putAll, Act.put, sa_, sz_, ss_] <;> rfl) (hJ2_9 (v171, gb179) _ ⟨hHeld, (by (with_reducible repeat first | apply ra_ | apply rn_ | apply rw_); exact Kd.R_mono HO172.out (fun _ hk => ⟨hk.1.1, hk.2⟩)), (by (with_reducible repeat first | apply ra_ | apply rn_ | apply rw_); exact HO_159000.out), (by (with_reducible repeat (first | refine blk_drewN ?_ _ | refine blk_drew ?_ | refine blk_alloc ?_ _)); exact BK158.out), (by (with_reducible repeat (first | refine blk_drewN ?_ _ | refine blk_drew ?_ | refine blk_alloc ?_ _)); exact BK179.out), GW179.out, GE179.out, NB158_179.out, NB179_158.out, (by repeat (first | (with_reducible first | exact HK.out | apply Kept.alloc | apply Kept.drewN | apply Kept.drew | refine Kept.setCell ?_ (.inr GW158.out) _ | refine Kept.setCell ?_ (.inr GW179.out) _) | exact HK.out)), (by repeat (first | (with_reducible first | exact HB.out | apply below_alloc | apply pw_below_drewN | apply below_drew1 | refine below_set ?_ GE158.out | refine below_set ?_ GE179.out) | exact HB.out))⟩)
                   ·skip
                    refine Kd.R_lit_step (Kd.int .i64) _ 3 ?hg (N := 61) ?hd (xs := ([x6_1] : List Int)) (inner := [.int .i64 x6_1]) (ok := fun _ => True) (okp := fun _ => True) ?hr ?hp (fun _ hk => hk) trivial (Below.refl _ _) (Nat.le_refl _) (by simp) ?_; (case hd => rfl); (case hg => rfl); (case hr => first | (go_simp; done) | (go_simp; rfl)); (case hp => exact (Reps.one (show Kd.M (Kd.int .i64) _ _ _ x6_1 [.int .i64 x6_1] from rfl) (Reps.none _ _)))
                    intro v174 w57 ho58 hb hg_ hnew_
                    clear hg_ hnew_
                    (first | rw [← Ny173.out] at ho58 | (simp only [Int.reduceToNat] at ho58; rw [← Ny173.out] at ho58))
                    have n0_ := Aside0.mk (Kd.R_elder' (by (with_reducible repeat first | apply ra_ | apply rn_ | apply rw_); exact HO_159000.out) (Kd.R_base ho58) hb)
                    have n1_ := Aside0.mk (Kd.R_lower (Kd.R_new' (Kd.R_newM (M := fun k_ => (P1_0_ k_ ∨ w.heap.size ≤ k_)) ho58 (by first | exact HK.out.1 | exact (show Kept w _ (fun k_ => P1_0_ k_) from by repeat (first | (with_reducible first | exact HK.out | apply Kept.alloc | apply Kept.drewN | apply Kept.drew | refine Kept.setCell ?_ (.inr GW158.out) _ | refine Kept.setCell ?_ (.inr GW179.out) _) | exact HK.out)).1) (fun k_ h_ => .inr h_)) (Kd.R_lt (by (with_reducible repeat first | apply ra_ | apply rn_ | apply rw_); exact HO_159000.out))) (below_size (by repeat (first | (with_reducible first | exact HB.out | apply below_alloc | apply pw_below_drewN | apply below_drew1 | refine below_set ?_ GE158.out | refine below_set ?_ GE179.out) | exact HB.out))))
                    have n2_ := Aside0.mk (blk_below (g := gb158) (o := .cells #[.slice Ao19 l1_0.length co19, .int .i64 a1_1] 31 (0, 0)) (by (with_reducible repeat (first | refine blk_drewN ?_ _ | refine blk_drew ?_ | refine blk_alloc ?_ _)); exact BK158.out) hb)
                    have n3_ := Aside0.mk (blk_below (g := gb179) (o := .cells #[.slice none 0 0, .int .i64 0] 31 (0, 0)) (by (with_reducible repeat (first | refine blk_drewN ?_ _ | refine blk_drew ?_ | refine blk_alloc ?_ _)); exact BK179.out) hb)
                    have n4_ := Aside0.mk (Kept.below (S := (fun k_ => P1_0_ k_)) (by repeat (first | (with_reducible first | exact HK.out | apply Kept.alloc | apply Kept.drewN | apply Kept.drew | refine Kept.setCell ?_ (.inr GW158.out) _ | refine Kept.setCell ?_ (.inr GW179.out) _) | exact HK.out)) hb)
                    have n5_ := Aside0.mk (below_step (by repeat (first | (with_reducible first | exact HB.out | apply below_alloc | apply pw_below_drewN | apply below_drew1 | refine below_set ?_ GE158.out | refine below_set ?_ GE179.out) | exact HB.out)) hb)
                    clear HO_159000
                    clear BK158
                    clear BK179
                    clear HK
                    clear HB
                    have HO_159000 := n0_
                    have HO175 := n1_
                    have BK158 := n2_
                    have BK179 := n3_
                    have HK := n4_
                    have HB := n5_
                    clear n0_ n1_ n2_ n3_ n4_ n5_
                    clear hb ho58
                    refine hK.out _ _ ⟨(blk_cell BK158.out 0).trans rfl, (blk_cell BK158.out 1).trans rfl⟩ (fun hHeld => ?_)
                    clear hK K
                    refine norm_ (a' := ?_) ?_ ?_
                    rotate_left
                    ·show Act.put _ (some 61) _ = _
                     simp only [Act.put, sa_, sz_, ss_, i64_w, i32_w]
                     rfl
                    exact norm_ (by simp only [putAll, Act.put, sa_, sz_, ss_] <;> rfl) (hJ4_9 (v174, gb179) _ ⟨hHeld, (by (with_reducible repeat first | apply ra_ | apply rn_ | apply rw_); exact Kd.R_mono HO175.out (fun _ hk => ⟨hk.1.1, hk.2⟩)), (by (with_reducible repeat first | apply ra_ | apply rn_ | apply rw_); exact HO_159000.out), (by (with_reducible repeat (first | refine blk_drewN ?_ _ | refine blk_drew ?_ | refine blk_alloc ?_ _)); exact BK158.out), (by (with_reducible repeat (first | refine blk_drewN ?_ _ | refine blk_drew ?_ | refine blk_alloc ?_ _)); exact BK179.out), GW179.out, GE179.out, NB158_179.out, NB179_158.out, (by repeat (first | (with_reducible first | exact HK.out | apply Kept.alloc | apply Kept.drewN | apply Kept.drew | refine Kept.setCell ?_ (.inr GW158.out) _ | refine Kept.setCell ?_ (.inr GW179.out) _) | exact HK.out)), (by repeat (first | (with_reducible first | exact HB.out | apply below_alloc | apply pw_below_drewN | apply below_drew1 | refine below_set ?_ GE158.out | refine below_set ?_ GE179.out) | exact HB.out))⟩)
                 ·skip
                  rintro v174 w57 ⟨hS_, h0_, h1_, h2_, h3_, h4_⟩
                  have n0_ : Aside0 (Kd.R (Kd.int .i64) 3 w57 w0.heap.size (fun k_ => (P1_0_ k_ ∨ w.heap.size ≤ k_) ∧ some k_ ≠ (.slice Ao19 l1_0.length co19 : Value).ownBlock) v174 y173) := ⟨h0_⟩
                  have n1_ : Aside0 (Kd.R (Kd.int .i64) 3 w57 w0.heap.size (fun k_ => (P1_0_ k_ ∨ w.heap.size ≤ k_) ∧ some k_ ≠ (v174 : Value).ownBlock) (.slice Ao19 l1_0.length co19) l1_0) := ⟨h1_⟩
                  have n2_ : Aside0 (w57.heap[gb158]? = some (.cells #[.slice Ao19 l1_0.length co19, .int .i64 a1_1] 31 (0, 0))) := ⟨h2_⟩
                  have n3_ : Aside0 (Kept w w57 (fun k_ => P1_0_ k_)) := ⟨h3_⟩
                  have n4_ : Aside0 (Below w0.heap.size w0 w57) := ⟨h4_⟩
                  clear HO_159000
                  clear BK158
                  clear HK
                  clear HB
                  clear h0_ h1_ h2_ h3_ h4_
                  have HO175 := n0_
                  have HO_159000 := n1_
                  have BK158 := n2_
                  have HK := n3_
                  have HB := n4_
                  clear n0_ n1_ n2_ n3_ n4_
                  have hHeld : w57.cell? ⟨gb158, 0, none⟩ = some (.slice Ao19 l1_0.length co19) ∧ w57.cell? ⟨gb158, 1, none⟩ = some (.int .i64 a1_1) := hS_
                  refine norm_ (a' := ?_) ?_ ?_
                  rotate_left
                  ·simp only [putAll, Act.put, sa_, sz_, ss_]
                   rfl
                  refine two_ (i := 2) (j := 9) (Ni := some 59) (Nj := some 9) #[true, true, true, true, true, false, true, true, false, false, false] #[true, true, false, true, true, false, true, true, false, true, false] rfl rfl rfl rfl (two_of HT_.out (by kernel_rfl)) (by decide) (by decide) (fun K hK => ?_) (fun K hK => ?_)
                  ·skip
                   refine goes_ Try.func17 (by kernel_rfl) rfl #[.slice Ao19 l1_0.length co19] (by rfl) rfl rfl (by (try simp only [List.map_toArray, List.map_cons, List.map_nil]); first | done | rfl | (simp only [List.length_drop, List.length_take]; rfl)) ?_
                   with_reducible refine (spec_l1Own.calls _ _ l1_0 t170 _ ?side1 ?side2 A34.out).mono ?_
                   (case side1 => repeat (first | exact (Kd.R_reads' HO_159000.out).2.2 | (with_reducible refine Kd.C_alloc ?_ _) | (with_reducible refine Kd.C_drewN ?_ _) | (with_reducible refine Kd.C_drew ?_)))
                   (case side2 => exact (Kd.R_reads' HO_159000.out).2.1)
                   rintro e w58 ⟨v171, rfl, ho0, hb⟩
                   refine ⟨_, rfl, ?_⟩
                   have n0_ := Aside0.mk (Kd.R_elder' (by (with_reducible repeat first | apply ra_ | apply rn_ | apply rw_); exact HO_159000.out) (Kd.R_base ho0) hb)
                   have n1_ := Aside0.mk (Kd.R_elder' (by (with_reducible repeat first | apply ra_ | apply rn_ | apply rw_); exact HO175.out) (Kd.R_base ho0) hb)
                   have n2_ := Aside0.mk (Kd.R_lower (Kd.R_new' (Kd.R_new' (Kd.R_newM (M := fun k_ => (P1_0_ k_ ∨ w.heap.size ≤ k_)) ho0 (by first | exact HK.out.1 | exact (show Kept w _ (fun k_ => P1_0_ k_) from by repeat (first | (with_reducible first | exact HK.out | apply Kept.alloc | apply Kept.drewN | apply Kept.drew | refine Kept.setCell ?_ (.inr GW158.out) _) | exact HK.out)).1) (fun k_ h_ => .inr h_)) (Kd.R_lt (by (with_reducible repeat first | apply ra_ | apply rn_ | apply rw_); exact HO_159000.out))) (Kd.R_lt (by (with_reducible repeat first | apply ra_ | apply rn_ | apply rw_); exact HO175.out))) (below_size (by repeat (first | (with_reducible first | exact HB.out | apply below_alloc | apply pw_below_drewN | apply below_drew1 | refine below_set ?_ GE158.out) | exact HB.out))))
                   have n3_ := Aside0.mk (blk_below (g := gb158) (o := .cells #[.slice Ao19 l1_0.length co19, .int .i64 a1_1] 31 (0, 0)) (by (with_reducible repeat (first | refine blk_drewN ?_ _ | refine blk_drew ?_ | refine blk_alloc ?_ _)); exact BK158.out) hb)
                   have n4_ := Aside0.mk (Kept.below (S := (fun k_ => P1_0_ k_)) (by repeat (first | (with_reducible first | exact HK.out | apply Kept.alloc | apply Kept.drewN | apply Kept.drew | refine Kept.setCell ?_ (.inr GW158.out) _) | exact HK.out)) hb)
                   have n5_ := Aside0.mk (below_step (by repeat (first | (with_reducible first | exact HB.out | apply below_alloc | apply pw_below_drewN | apply below_drew1 | refine below_set ?_ GE158.out) | exact HB.out)) hb)
                   clear HO_159000
                   clear HO175
                   clear BK158
                   clear HK
                   clear HB
                   have HO_159000 := n0_
                   have HO175 := n1_
                   have HO172 := n2_
                   have BK158 := n3_
                   have HK := n4_
                   have HB := n5_
                   clear n0_ n1_ n2_ n3_ n4_ n5_
                   (try clear hb)
                   (try clear hb2)
                   (try clear hk)
                   (try clear hi)
                   (try clear ho0)
                   refine hK.out _ _ ⟨(blk_cell BK158.out 0).trans rfl, (blk_cell BK158.out 1).trans rfl⟩ (fun hHeld => ?_)
                   clear hK K
                   refine norm_ (a' := ?_) ?_ ?_
                   rotate_left
                   ·show Act.put _ (some 59) _ = _
                    simp only [Act.put, sa_, sz_, ss_, i64_w, i32_w]
                    rfl
                   exact norm_ (by simp only [putAll, Act.put, sa_, sz_, ss_] <;> rfl) (hJ2_4 (v171, v174) _ ⟨hHeld, (by (with_reducible repeat first | apply ra_ | apply rn_ | apply rw_); exact Kd.R_mono HO172.out (fun _ hk => ⟨hk.1.1.1, ⟨hk.2, hk.1.2⟩⟩)), (by (with_reducible repeat first | apply ra_ | apply rn_ | apply rw_); exact Kd.R_mono HO175.out (fun _ hk => ⟨hk.1.1, ⟨hk.2, hk.1.2⟩⟩)), (by (with_reducible repeat first | apply ra_ | apply rn_ | apply rw_); exact Kd.R_mono HO_159000.out (fun _ hk => ⟨hk.1.1, ⟨hk.2, hk.1.2⟩⟩)), (by (with_reducible repeat (first | refine blk_drewN ?_ _ | refine blk_drew ?_ | refine blk_alloc ?_ _)); exact BK158.out), (by repeat (first | (with_reducible first | exact HK.out | apply Kept.alloc | apply Kept.drewN | apply Kept.drew | refine Kept.setCell ?_ (.inr GW158.out) _) | exact HK.out)), (by repeat (first | (with_reducible first | exact HB.out | apply below_alloc | apply pw_below_drewN | apply below_drew1 | refine below_set ?_ GE158.out) | exact HB.out))⟩)
                  ·skip
                   refine box_step ?hg (N := 9) ?hd (cs := #[.slice none 0 0, .int .i64 0]) (t := 31) ?hr ?_; (case hd => rfl); (case hg => rfl); (case hr => first | (go_simp; done) | (go_simp; rfl))
                   intro gb179 hg w58 hbox hb
                   have n0_ := Aside0.mk (Kd.R_below (by (with_reducible repeat first | apply ra_ | apply rn_ | apply rw_); exact HO_159000.out) hb)
                   have n1_ := Aside0.mk (Kd.R_below (by (with_reducible repeat first | apply ra_ | apply rn_ | apply rw_); exact HO175.out) hb)
                   have n2_ := Aside0.mk (blk_below (g := gb158) (o := .cells #[.slice Ao19 l1_0.length co19, .int .i64 a1_1] 31 (0, 0)) (by (with_reducible repeat (first | refine blk_drewN ?_ _ | refine blk_drew ?_ | refine blk_alloc ?_ _)); exact BK158.out) hb)
                   have n3_ := Aside0.mk (Kept.below (S := (fun k_ => P1_0_ k_)) (by repeat (first | (with_reducible first | exact HK.out | apply Kept.alloc | apply Kept.drewN | apply Kept.drew | refine Kept.setCell ?_ (.inr GW158.out) _) | exact HK.out)) hb)
                   have n4_ := Aside0.mk (below_step (by repeat (first | (with_reducible first | exact HB.out | apply below_alloc | apply pw_below_drewN | apply below_drew1 | refine below_set ?_ GE158.out) | exact HB.out)) hb)
                   have n5_ := Aside0.mk (hbox)
                   have n6_ := Aside0.mk ((by rw [hg]; exact (by first | exact HK.out.1 | exact (show Kept w _ (fun k_ => P1_0_ k_) from by repeat (first | (with_reducible first | exact HK.out | apply Kept.alloc | apply Kept.drewN | apply Kept.drew | refine Kept.setCell ?_ (.inr GW158.out) _) | exact HK.out)).1) : w.heap.size ≤ gb179))
                   have n7_ := Aside0.mk ((by rw [hg]; exact (below_size (by repeat (first | (with_reducible first | exact HB.out | apply below_alloc | apply pw_below_drewN | apply below_drew1 | refine below_set ?_ GE158.out) | exact HB.out))) : w0.heap.size ≤ gb179))
                   have n8_ := Aside0.mk ((by rw [hg]; exact Nat.ne_of_lt (blk_lt (g := gb158) (o := .cells #[.slice Ao19 l1_0.length co19, .int .i64 a1_1] 31 (0, 0)) (by (with_reducible repeat (first | refine blk_drewN ?_ _ | refine blk_drew ?_ | refine blk_alloc ?_ _)); exact BK158.out)) : gb158 ≠ gb179))
                   have n9_ := Aside0.mk ((by rw [hg]; exact Nat.ne_of_gt (blk_lt (g := gb158) (o := .cells #[.slice Ao19 l1_0.length co19, .int .i64 a1_1] 31 (0, 0)) (by (with_reducible repeat (first | refine blk_drewN ?_ _ | refine blk_drew ?_ | refine blk_alloc ?_ _)); exact BK158.out)) : gb179 ≠ gb158))
                   clear HO_159000
                   clear HO175
                   clear BK158
                   clear HK
                   clear HB
                   have HO_159000 := n0_
                   have HO175 := n1_
                   have BK158 := n2_
                   have HK := n3_
                   have HB := n4_
                   have BK179 := n5_
                   have GW179 := n6_
                   have GE179 := n7_
                   have NB158_179 := n8_
                   have NB179_158 := n9_
                   clear n0_ n1_ n2_ n3_ n4_ n5_ n6_ n7_ n8_ n9_
                   clear hb hbox hg
                   refine hK.out _ _ ⟨(blk_cell BK158.out 0).trans rfl, (blk_cell BK158.out 1).trans rfl⟩ (fun hHeld => ?_)
                   clear hK K
                   refine norm_ (a' := ?_) ?_ ?_
                   rotate_left
                   ·show Act.put _ (some 9) _ = _
                    simp only [Act.put, sa_, sz_, ss_, i64_w, i32_w]
                    rfl
                   exact norm_ (by simp only [putAll, Act.put, sa_, sz_, ss_] <;> rfl) (hJ4_9 (v174, gb179) _ ⟨hHeld, (by (with_reducible repeat first | apply ra_ | apply rn_ | apply rw_); exact HO175.out), (by (with_reducible repeat first | apply ra_ | apply rn_ | apply rw_); exact HO_159000.out), (by (with_reducible repeat (first | refine blk_drewN ?_ _ | refine blk_drew ?_ | refine blk_alloc ?_ _)); exact BK158.out), (by (with_reducible repeat (first | refine blk_drewN ?_ _ | refine blk_drew ?_ | refine blk_alloc ?_ _)); exact BK179.out), GW179.out, GE179.out, NB158_179.out, NB179_158.out, (by repeat (first | (with_reducible first | exact HK.out | apply Kept.alloc | apply Kept.drewN | apply Kept.drew | refine Kept.setCell ?_ (.inr GW158.out) _ | refine Kept.setCell ?_ (.inr GW179.out) _) | exact HK.out)), (by repeat (first | (with_reducible first | exact HB.out | apply below_alloc | apply pw_below_drewN | apply below_drew1 | refine below_set ?_ GE158.out | refine below_set ?_ GE179.out) | exact HB.out))⟩)
                ·skip
                 rintro v171 w56 ⟨hS_, h0_, h1_, h2_, h3_, h4_⟩
                 have n0_ : Aside0 (Kd.R (Kd.int .i64) 3 w56 w0.heap.size (fun k_ => (P1_0_ k_ ∨ w.heap.size ≤ k_) ∧ some k_ ≠ (.slice Ao19 l1_0.length co19 : Value).ownBlock) v171 t170) := ⟨h0_⟩
                 have n1_ : Aside0 (Kd.R (Kd.int .i64) 3 w56 w0.heap.size (fun k_ => (P1_0_ k_ ∨ w.heap.size ≤ k_) ∧ some k_ ≠ (v171 : Value).ownBlock) (.slice Ao19 l1_0.length co19) l1_0) := ⟨h1_⟩
                 have n2_ : Aside0 (w56.heap[gb158]? = some (.cells #[.slice Ao19 l1_0.length co19, .int .i64 a1_1] 31 (0, 0))) := ⟨h2_⟩
                 have n3_ : Aside0 (Kept w w56 (fun k_ => P1_0_ k_)) := ⟨h3_⟩
                 have n4_ : Aside0 (Below w0.heap.size w0 w56) := ⟨h4_⟩
                 clear HO_159000
                 clear BK158
                 clear HK
                 clear HB
                 clear h0_ h1_ h2_ h3_ h4_
                 have HO172 := n0_
                 have HO_159000 := n1_
                 have BK158 := n2_
                 have HK := n3_
                 have HB := n4_
                 clear n0_ n1_ n2_ n3_ n4_
                 have hHeld : w56.cell? ⟨gb158, 0, none⟩ = some (.slice Ao19 l1_0.length co19) ∧ w56.cell? ⟨gb158, 1, none⟩ = some (.int .i64 a1_1) := hS_
                 refine norm_ (a' := ?_) ?_ ?_
                 rotate_left
                 ·simp only [putAll, Act.put, sa_, sz_, ss_]
                  rfl
                 refine two_ (i := 4) (j := 9) (Ni := some 61) (Nj := some 9) #[true, true, true, true, true, false, true, true, false, false, false] #[true, true, true, true, false, false, true, true, false, true, false] rfl rfl rfl rfl (two_of HT_.out (by kernel_rfl)) (by decide) (by decide) (fun K hK => ?_) (fun K hK => ?_)
                 ·skip
                  refine Kd.R_lit_step (Kd.int .i64) _ 3 ?hg (N := 61) ?hd (xs := ([x6_1] : List Int)) (inner := [.int .i64 x6_1]) (ok := fun _ => True) (okp := fun _ => True) ?hr ?hp (fun _ hk => hk) trivial (Below.refl _ _) (Nat.le_refl _) (by simp) ?_; (case hd => rfl); (case hg => rfl); (case hr => first | (go_simp; done) | (go_simp; rfl)); (case hp => exact (Reps.one (show Kd.M (Kd.int .i64) _ _ _ x6_1 [.int .i64 x6_1] from rfl) (Reps.none _ _)))
                  intro v174 w57 ho58 hb hg_ hnew_
                  clear hg_ hnew_
                  (first | rw [← Ny173.out] at ho58 | (simp only [Int.reduceToNat] at ho58; rw [← Ny173.out] at ho58))
                  have n0_ := Aside0.mk (Kd.R_elder' (by (with_reducible repeat first | apply ra_ | apply rn_ | apply rw_); exact HO_159000.out) (Kd.R_base ho58) hb)
                  have n1_ := Aside0.mk (Kd.R_elder' (by (with_reducible repeat first | apply ra_ | apply rn_ | apply rw_); exact HO172.out) (Kd.R_base ho58) hb)
                  have n2_ := Aside0.mk (Kd.R_lower (Kd.R_new' (Kd.R_new' (Kd.R_newM (M := fun k_ => (P1_0_ k_ ∨ w.heap.size ≤ k_)) ho58 (by first | exact HK.out.1 | exact (show Kept w _ (fun k_ => P1_0_ k_) from by repeat (first | (with_reducible first | exact HK.out | apply Kept.alloc | apply Kept.drewN | apply Kept.drew | refine Kept.setCell ?_ (.inr GW158.out) _) | exact HK.out)).1) (fun k_ h_ => .inr h_)) (Kd.R_lt (by (with_reducible repeat first | apply ra_ | apply rn_ | apply rw_); exact HO_159000.out))) (Kd.R_lt (by (with_reducible repeat first | apply ra_ | apply rn_ | apply rw_); exact HO172.out))) (below_size (by repeat (first | (with_reducible first | exact HB.out | apply below_alloc | apply pw_below_drewN | apply below_drew1 | refine below_set ?_ GE158.out) | exact HB.out))))
                  have n3_ := Aside0.mk (blk_below (g := gb158) (o := .cells #[.slice Ao19 l1_0.length co19, .int .i64 a1_1] 31 (0, 0)) (by (with_reducible repeat (first | refine blk_drewN ?_ _ | refine blk_drew ?_ | refine blk_alloc ?_ _)); exact BK158.out) hb)
                  have n4_ := Aside0.mk (Kept.below (S := (fun k_ => P1_0_ k_)) (by repeat (first | (with_reducible first | exact HK.out | apply Kept.alloc | apply Kept.drewN | apply Kept.drew | refine Kept.setCell ?_ (.inr GW158.out) _) | exact HK.out)) hb)
                  have n5_ := Aside0.mk (below_step (by repeat (first | (with_reducible first | exact HB.out | apply below_alloc | apply pw_below_drewN | apply below_drew1 | refine below_set ?_ GE158.out) | exact HB.out)) hb)
                  clear HO_159000
                  clear HO172
                  clear BK158
                  clear HK
                  clear HB
                  have HO_159000 := n0_
                  have HO172 := n1_
                  have HO175 := n2_
                  have BK158 := n3_
                  have HK := n4_
                  have HB := n5_
                  clear n0_ n1_ n2_ n3_ n4_ n5_
                  clear hb ho58
                  refine hK.out _ _ ⟨(blk_cell BK158.out 0).trans rfl, (blk_cell BK158.out 1).trans rfl⟩ (fun hHeld => ?_)
                  clear hK K
                  refine norm_ (a' := ?_) ?_ ?_
                  rotate_left
                  ·show Act.put _ (some 61) _ = _
                   simp only [Act.put, sa_, sz_, ss_, i64_w, i32_w]
                   rfl
                  exact norm_ (by simp only [putAll, Act.put, sa_, sz_, ss_] <;> rfl) (hJ2_4 (v171, v174) _ ⟨hHeld, (by (with_reducible repeat first | apply ra_ | apply rn_ | apply rw_); exact Kd.R_mono HO172.out (fun _ hk => ⟨hk.1.1, ⟨hk.2, hk.1.2⟩⟩)), (by (with_reducible repeat first | apply ra_ | apply rn_ | apply rw_); exact Kd.R_mono HO175.out (fun _ hk => ⟨hk.1.1.1, ⟨hk.2, hk.1.2⟩⟩)), (by (with_reducible repeat first | apply ra_ | apply rn_ | apply rw_); exact Kd.R_mono HO_159000.out (fun _ hk => ⟨hk.1.1, ⟨hk.1.2, hk.2⟩⟩)), (by (with_reducible repeat (first | refine blk_drewN ?_ _ | refine blk_drew ?_ | refine blk_alloc ?_ _)); exact BK158.out), (by repeat (first | (with_reducible first | exact HK.out | apply Kept.alloc | apply Kept.drewN | apply Kept.drew | refine Kept.setCell ?_ (.inr GW158.out) _) | exact HK.out)), (by repeat (first | (with_reducible first | exact HB.out | apply below_alloc | apply pw_below_drewN | apply below_drew1 | refine below_set ?_ GE158.out) | exact HB.out))⟩)
                 ·skip
                  refine box_step ?hg (N := 9) ?hd (cs := #[.slice none 0 0, .int .i64 0]) (t := 31) ?hr ?_; (case hd => rfl); (case hg => rfl); (case hr => first | (go_simp; done) | (go_simp; rfl))
                  intro gb179 hg w57 hbox hb
                  have n0_ := Aside0.mk (Kd.R_below (by (with_reducible repeat first | apply ra_ | apply rn_ | apply rw_); exact HO_159000.out) hb)
                  have n1_ := Aside0.mk (Kd.R_below (by (with_reducible repeat first | apply ra_ | apply rn_ | apply rw_); exact HO172.out) hb)
                  have n2_ := Aside0.mk (blk_below (g := gb158) (o := .cells #[.slice Ao19 l1_0.length co19, .int .i64 a1_1] 31 (0, 0)) (by (with_reducible repeat (first | refine blk_drewN ?_ _ | refine blk_drew ?_ | refine blk_alloc ?_ _)); exact BK158.out) hb)
                  have n3_ := Aside0.mk (Kept.below (S := (fun k_ => P1_0_ k_)) (by repeat (first | (with_reducible first | exact HK.out | apply Kept.alloc | apply Kept.drewN | apply Kept.drew | refine Kept.setCell ?_ (.inr GW158.out) _) | exact HK.out)) hb)
                  have n4_ := Aside0.mk (below_step (by repeat (first | (with_reducible first | exact HB.out | apply below_alloc | apply pw_below_drewN | apply below_drew1 | refine below_set ?_ GE158.out) | exact HB.out)) hb)
                  have n5_ := Aside0.mk (hbox)
                  have n6_ := Aside0.mk ((by rw [hg]; exact (by first | exact HK.out.1 | exact (show Kept w _ (fun k_ => P1_0_ k_) from by repeat (first | (with_reducible first | exact HK.out | apply Kept.alloc | apply Kept.drewN | apply Kept.drew | refine Kept.setCell ?_ (.inr GW158.out) _) | exact HK.out)).1) : w.heap.size ≤ gb179))
                  have n7_ := Aside0.mk ((by rw [hg]; exact (below_size (by repeat (first | (with_reducible first | exact HB.out | apply below_alloc | apply pw_below_drewN | apply below_drew1 | refine below_set ?_ GE158.out) | exact HB.out))) : w0.heap.size ≤ gb179))
                  have n8_ := Aside0.mk ((by rw [hg]; exact Nat.ne_of_lt (blk_lt (g := gb158) (o := .cells #[.slice Ao19 l1_0.length co19, .int .i64 a1_1] 31 (0, 0)) (by (with_reducible repeat (first | refine blk_drewN ?_ _ | refine blk_drew ?_ | refine blk_alloc ?_ _)); exact BK158.out)) : gb158 ≠ gb179))
                  have n9_ := Aside0.mk ((by rw [hg]; exact Nat.ne_of_gt (blk_lt (g := gb158) (o := .cells #[.slice Ao19 l1_0.length co19, .int .i64 a1_1] 31 (0, 0)) (by (with_reducible repeat (first | refine blk_drewN ?_ _ | refine blk_drew ?_ | refine blk_alloc ?_ _)); exact BK158.out)) : gb179 ≠ gb158))
                  clear HO_159000
                  clear HO172
                  clear BK158
                  clear HK
                  clear HB
                  have HO_159000 := n0_
                  have HO172 := n1_
                  have BK158 := n2_
                  have HK := n3_
                  have HB := n4_
                  have BK179 := n5_
                  have GW179 := n6_
                  have GE179 := n7_
                  have NB158_179 := n8_
                  have NB179_158 := n9_
                  clear n0_ n1_ n2_ n3_ n4_ n5_ n6_ n7_ n8_ n9_
                  clear hb hbox hg
                  refine hK.out _ _ ⟨(blk_cell BK158.out 0).trans rfl, (blk_cell BK158.out 1).trans rfl⟩ (fun hHeld => ?_)
                  clear hK K
                  refine norm_ (a' := ?_) ?_ ?_
                  rotate_left
                  ·show Act.put _ (some 9) _ = _
                   simp only [Act.put, sa_, sz_, ss_, i64_w, i32_w]
                   rfl
                  exact norm_ (by simp only [putAll, Act.put, sa_, sz_, ss_] <;> rfl) (hJ2_9 (v171, gb179) _ ⟨hHeld, (by (with_reducible repeat first | apply ra_ | apply rn_ | apply rw_); exact HO172.out), (by (with_reducible repeat first | apply ra_ | apply rn_ | apply rw_); exact HO_159000.out), (by (with_reducible repeat (first | refine blk_drewN ?_ _ | refine blk_drew ?_ | refine blk_alloc ?_ _)); exact BK158.out), (by (with_reducible repeat (first | refine blk_drewN ?_ _ | refine blk_drew ?_ | refine blk_alloc ?_ _)); exact BK179.out), GW179.out, GE179.out, NB158_179.out, NB179_158.out, (by repeat (first | (with_reducible first | exact HK.out | apply Kept.alloc | apply Kept.drewN | apply Kept.drew | refine Kept.setCell ?_ (.inr GW158.out) _ | refine Kept.setCell ?_ (.inr GW179.out) _) | exact HK.out)), (by repeat (first | (with_reducible first | exact HB.out | apply below_alloc | apply pw_below_drewN | apply below_drew1 | refine below_set ?_ GE158.out | refine below_set ?_ GE179.out) | exact HB.out))⟩)
               ·skip
                rintro ⟨v174, gb179⟩ w58 ⟨hS_, h0_, h1_, h2_, h3_, h4_, h5_, h6_, h7_, h8_, h9_⟩
                have n0_ : Aside0 (Kd.R (Kd.int .i64) 3 w58 w0.heap.size (fun k_ => (P1_0_ k_ ∨ w.heap.size ≤ k_) ∧ some k_ ≠ (.slice Ao19 l1_0.length co19 : Value).ownBlock) v174 y173) := ⟨h0_⟩
                have n1_ : Aside0 (Kd.R (Kd.int .i64) 3 w58 w0.heap.size (fun k_ => (P1_0_ k_ ∨ w.heap.size ≤ k_) ∧ some k_ ≠ (v174 : Value).ownBlock) (.slice Ao19 l1_0.length co19) l1_0) := ⟨h1_⟩
                have n2_ : Aside0 (w58.heap[gb158]? = some (.cells #[.slice Ao19 l1_0.length co19, .int .i64 a1_1] 31 (0, 0))) := ⟨h2_⟩
                have n3_ : Aside0 (w58.heap[gb179]? = some (.cells #[.slice none 0 0, .int .i64 0] 31 (0, 0))) := ⟨h3_⟩
                have n4_ : Aside0 (w.heap.size ≤ gb179) := ⟨h4_⟩
                have n5_ : Aside0 (w0.heap.size ≤ gb179) := ⟨h5_⟩
                have n6_ : Aside0 (gb158 ≠ gb179) := ⟨h6_⟩
                have n7_ : Aside0 (gb179 ≠ gb158) := ⟨h7_⟩
                have n8_ : Aside0 (Kept w w58 (fun k_ => P1_0_ k_)) := ⟨h8_⟩
                have n9_ : Aside0 (Below w0.heap.size w0 w58) := ⟨h9_⟩
                clear HO_159000
                clear BK158
                clear HK
                clear HB
                clear h0_ h1_ h2_ h3_ h4_ h5_ h6_ h7_ h8_ h9_
                have HO175 := n0_
                have HO_159000 := n1_
                have BK158 := n2_
                have BK179 := n3_
                have GW179 := n4_
                have GE179 := n5_
                have NB158_179 := n6_
                have NB179_158 := n7_
                have HK := n8_
                have HB := n9_
                clear n0_ n1_ n2_ n3_ n4_ n5_ n6_ n7_ n8_ n9_
                have hHeld : w58.cell? ⟨gb158, 0, none⟩ = some (.slice Ao19 l1_0.length co19) ∧ w58.cell? ⟨gb158, 1, none⟩ = some (.int .i64 a1_1) := hS_
                refine norm_ (a' := ?_) ?_ ?_
                rotate_left
                ·simp only [putAll, Act.put, sa_, sz_, ss_]
                 rfl
                refine one_ (i := 2) (N := some 59) #[true, true, true, true, true, false, true, true, false, true, false] rfl rfl (one_of HT_.out (by kernel_rfl)) (by decide) (fun K hK => ?_)
                refine goes_ Try.func17 (by kernel_rfl) rfl #[.slice Ao19 l1_0.length co19] (by rfl) rfl rfl (by (try simp only [List.map_toArray, List.map_cons, List.map_nil]); first | done | rfl | (simp only [List.length_drop, List.length_take]; rfl)) ?_
                with_reducible refine (spec_l1Own.calls _ _ l1_0 t170 _ ?side1 ?side2 A34.out).mono ?_
                (case side1 => repeat (first | exact (Kd.R_reads' HO_159000.out).2.2 | (with_reducible refine Kd.C_alloc ?_ _) | (with_reducible refine Kd.C_drewN ?_ _) | (with_reducible refine Kd.C_drew ?_)))
                (case side2 => exact (Kd.R_reads' HO_159000.out).2.1)
                rintro e w59 ⟨v171, rfl, ho0, hb⟩
                refine ⟨_, rfl, ?_⟩
                have n0_ := Aside0.mk (Kd.R_elder' (by (with_reducible repeat first | apply ra_ | apply rn_ | apply rw_); exact HO_159000.out) (Kd.R_base ho0) hb)
                have n1_ := Aside0.mk (Kd.R_elder' (by (with_reducible repeat first | apply ra_ | apply rn_ | apply rw_); exact HO175.out) (Kd.R_base ho0) hb)
                have n2_ := Aside0.mk (Kd.R_lower (Kd.R_new' (Kd.R_new' (Kd.R_newM (M := fun k_ => (P1_0_ k_ ∨ w.heap.size ≤ k_)) ho0 (by first | exact HK.out.1 | exact (show Kept w _ (fun k_ => P1_0_ k_) from by repeat (first | (with_reducible first | exact HK.out | apply Kept.alloc | apply Kept.drewN | apply Kept.drew | refine Kept.setCell ?_ (.inr GW158.out) _ | refine Kept.setCell ?_ (.inr GW179.out) _) | exact HK.out)).1) (fun k_ h_ => .inr h_)) (Kd.R_lt (by (with_reducible repeat first | apply ra_ | apply rn_ | apply rw_); exact HO_159000.out))) (Kd.R_lt (by (with_reducible repeat first | apply ra_ | apply rn_ | apply rw_); exact HO175.out))) (below_size (by repeat (first | (with_reducible first | exact HB.out | apply below_alloc | apply pw_below_drewN | apply below_drew1 | refine below_set ?_ GE158.out | refine below_set ?_ GE179.out) | exact HB.out))))
                have n3_ := Aside0.mk (blk_below (g := gb158) (o := .cells #[.slice Ao19 l1_0.length co19, .int .i64 a1_1] 31 (0, 0)) (by (with_reducible repeat (first | refine blk_drewN ?_ _ | refine blk_drew ?_ | refine blk_alloc ?_ _)); exact BK158.out) hb)
                have n4_ := Aside0.mk (blk_below (g := gb179) (o := .cells #[.slice none 0 0, .int .i64 0] 31 (0, 0)) (by (with_reducible repeat (first | refine blk_drewN ?_ _ | refine blk_drew ?_ | refine blk_alloc ?_ _)); exact BK179.out) hb)
                have n5_ := Aside0.mk (Kept.below (S := (fun k_ => P1_0_ k_)) (by repeat (first | (with_reducible first | exact HK.out | apply Kept.alloc | apply Kept.drewN | apply Kept.drew | refine Kept.setCell ?_ (.inr GW158.out) _ | refine Kept.setCell ?_ (.inr GW179.out) _) | exact HK.out)) hb)
                have n6_ := Aside0.mk (below_step (by repeat (first | (with_reducible first | exact HB.out | apply below_alloc | apply pw_below_drewN | apply below_drew1 | refine below_set ?_ GE158.out | refine below_set ?_ GE179.out) | exact HB.out)) hb)
                clear HO_159000
                clear HO175
                clear BK158
                clear BK179
                clear HK
                clear HB
                have HO_159000 := n0_
                have HO175 := n1_
                have HO172 := n2_
                have BK158 := n3_
                have BK179 := n4_
                have HK := n5_
                have HB := n6_
                clear n0_ n1_ n2_ n3_ n4_ n5_ n6_
                (try clear hb)
                (try clear hb2)
                (try clear hk)
                (try clear hi)
                (try clear ho0)
                refine hK.out _ _ ⟨(blk_cell BK158.out 0).trans rfl, (blk_cell BK158.out 1).trans rfl⟩ (fun hHeld => ?_)
                clear hK K
                refine norm_ (a' := ?_) ?_ ?_
                rotate_left
                ·show Act.put _ (some 59) _ = _
                 simp only [Act.put, sa_, sz_, ss_, i64_w, i32_w]
                 rfl
                exact norm_ (by simp only [putAll, Act.put, sa_, sz_, ss_] <;> rfl) (hJ2_4_9 (v171, v174, gb179) _ ⟨hHeld, (by (with_reducible repeat first | apply ra_ | apply rn_ | apply rw_); exact Kd.R_mono HO172.out (fun _ hk => ⟨hk.1.1.1, ⟨hk.2, hk.1.2⟩⟩)), (by (with_reducible repeat first | apply ra_ | apply rn_ | apply rw_); exact Kd.R_mono HO175.out (fun _ hk => ⟨hk.1.1, ⟨hk.2, hk.1.2⟩⟩)), (by (with_reducible repeat first | apply ra_ | apply rn_ | apply rw_); exact Kd.R_mono HO_159000.out (fun _ hk => ⟨hk.1.1, ⟨hk.2, hk.1.2⟩⟩)), (by (with_reducible repeat (first | refine blk_drewN ?_ _ | refine blk_drew ?_ | refine blk_alloc ?_ _)); exact BK158.out), (by (with_reducible repeat (first | refine blk_drewN ?_ _ | refine blk_drew ?_ | refine blk_alloc ?_ _)); exact BK179.out), GW179.out, GE179.out, NB158_179.out, NB179_158.out, (by repeat (first | (with_reducible first | exact HK.out | apply Kept.alloc | apply Kept.drewN | apply Kept.drew | refine Kept.setCell ?_ (.inr GW158.out) _ | refine Kept.setCell ?_ (.inr GW179.out) _) | exact HK.out)), (by repeat (first | (with_reducible first | exact HB.out | apply below_alloc | apply pw_below_drewN | apply below_drew1 | refine below_set ?_ GE158.out | refine below_set ?_ GE179.out) | exact HB.out))⟩)
              ·skip
               rintro ⟨v171, gb179⟩ w57 ⟨hS_, h0_, h1_, h2_, h3_, h4_, h5_, h6_, h7_, h8_, h9_⟩
               have n0_ : Aside0 (Kd.R (Kd.int .i64) 3 w57 w0.heap.size (fun k_ => (P1_0_ k_ ∨ w.heap.size ≤ k_) ∧ some k_ ≠ (.slice Ao19 l1_0.length co19 : Value).ownBlock) v171 t170) := ⟨h0_⟩
               have n1_ : Aside0 (Kd.R (Kd.int .i64) 3 w57 w0.heap.size (fun k_ => (P1_0_ k_ ∨ w.heap.size ≤ k_) ∧ some k_ ≠ (v171 : Value).ownBlock) (.slice Ao19 l1_0.length co19) l1_0) := ⟨h1_⟩
               have n2_ : Aside0 (w57.heap[gb158]? = some (.cells #[.slice Ao19 l1_0.length co19, .int .i64 a1_1] 31 (0, 0))) := ⟨h2_⟩
               have n3_ : Aside0 (w57.heap[gb179]? = some (.cells #[.slice none 0 0, .int .i64 0] 31 (0, 0))) := ⟨h3_⟩
               have n4_ : Aside0 (w.heap.size ≤ gb179) := ⟨h4_⟩
               have n5_ : Aside0 (w0.heap.size ≤ gb179) := ⟨h5_⟩
               have n6_ : Aside0 (gb158 ≠ gb179) := ⟨h6_⟩
               have n7_ : Aside0 (gb179 ≠ gb158) := ⟨h7_⟩
               have n8_ : Aside0 (Kept w w57 (fun k_ => P1_0_ k_)) := ⟨h8_⟩
               have n9_ : Aside0 (Below w0.heap.size w0 w57) := ⟨h9_⟩
               clear HO_159000
               clear BK158
               clear HK
               clear HB
               clear h0_ h1_ h2_ h3_ h4_ h5_ h6_ h7_ h8_ h9_
               have HO172 := n0_
               have HO_159000 := n1_
               have BK158 := n2_
               have BK179 := n3_
               have GW179 := n4_
               have GE179 := n5_
               have NB158_179 := n6_
               have NB179_158 := n7_
               have HK := n8_
               have HB := n9_
               clear n0_ n1_ n2_ n3_ n4_ n5_ n6_ n7_ n8_ n9_
               have hHeld : w57.cell? ⟨gb158, 0, none⟩ = some (.slice Ao19 l1_0.length co19) ∧ w57.cell? ⟨gb158, 1, none⟩ = some (.int .i64 a1_1) := hS_
               refine norm_ (a' := ?_) ?_ ?_
               rotate_left
               ·simp only [putAll, Act.put, sa_, sz_, ss_]
                rfl
               refine one_ (i := 4) (N := some 61) #[true, true, true, true, true, false, true, true, false, true, false] rfl rfl (one_of HT_.out (by kernel_rfl)) (by decide) (fun K hK => ?_)
               refine Kd.R_lit_step (Kd.int .i64) _ 3 ?hg (N := 61) ?hd (xs := ([x6_1] : List Int)) (inner := [.int .i64 x6_1]) (ok := fun _ => True) (okp := fun _ => True) ?hr ?hp (fun _ hk => hk) trivial (Below.refl _ _) (Nat.le_refl _) (by simp) ?_; (case hd => rfl); (case hg => rfl); (case hr => first | (go_simp; done) | (go_simp; rfl)); (case hp => exact (Reps.one (show Kd.M (Kd.int .i64) _ _ _ x6_1 [.int .i64 x6_1] from rfl) (Reps.none _ _)))
               intro v174 w58 ho59 hb hg_ hnew_
               clear hg_ hnew_
               (first | rw [← Ny173.out] at ho59 | (simp only [Int.reduceToNat] at ho59; rw [← Ny173.out] at ho59))
               have n0_ := Aside0.mk (Kd.R_elder' (by (with_reducible repeat first | apply ra_ | apply rn_ | apply rw_); exact HO_159000.out) (Kd.R_base ho59) hb)
               have n1_ := Aside0.mk (Kd.R_elder' (by (with_reducible repeat first | apply ra_ | apply rn_ | apply rw_); exact HO172.out) (Kd.R_base ho59) hb)
               have n2_ := Aside0.mk (Kd.R_lower (Kd.R_new' (Kd.R_new' (Kd.R_newM (M := fun k_ => (P1_0_ k_ ∨ w.heap.size ≤ k_)) ho59 (by first | exact HK.out.1 | exact (show Kept w _ (fun k_ => P1_0_ k_) from by repeat (first | (with_reducible first | exact HK.out | apply Kept.alloc | apply Kept.drewN | apply Kept.drew | refine Kept.setCell ?_ (.inr GW158.out) _ | refine Kept.setCell ?_ (.inr GW179.out) _) | exact HK.out)).1) (fun k_ h_ => .inr h_)) (Kd.R_lt (by (with_reducible repeat first | apply ra_ | apply rn_ | apply rw_); exact HO_159000.out))) (Kd.R_lt (by (with_reducible repeat first | apply ra_ | apply rn_ | apply rw_); exact HO172.out))) (below_size (by repeat (first | (with_reducible first | exact HB.out | apply below_alloc | apply pw_below_drewN | apply below_drew1 | refine below_set ?_ GE158.out | refine below_set ?_ GE179.out) | exact HB.out))))
               have n3_ := Aside0.mk (blk_below (g := gb158) (o := .cells #[.slice Ao19 l1_0.length co19, .int .i64 a1_1] 31 (0, 0)) (by (with_reducible repeat (first | refine blk_drewN ?_ _ | refine blk_drew ?_ | refine blk_alloc ?_ _)); exact BK158.out) hb)
               have n4_ := Aside0.mk (blk_below (g := gb179) (o := .cells #[.slice none 0 0, .int .i64 0] 31 (0, 0)) (by (with_reducible repeat (first | refine blk_drewN ?_ _ | refine blk_drew ?_ | refine blk_alloc ?_ _)); exact BK179.out) hb)
               have n5_ := Aside0.mk (Kept.below (S := (fun k_ => P1_0_ k_)) (by repeat (first | (with_reducible first | exact HK.out | apply Kept.alloc | apply Kept.drewN | apply Kept.drew | refine Kept.setCell ?_ (.inr GW158.out) _ | refine Kept.setCell ?_ (.inr GW179.out) _) | exact HK.out)) hb)
               have n6_ := Aside0.mk (below_step (by repeat (first | (with_reducible first | exact HB.out | apply below_alloc | apply pw_below_drewN | apply below_drew1 | refine below_set ?_ GE158.out | refine below_set ?_ GE179.out) | exact HB.out)) hb)
               clear HO_159000
               clear HO172
               clear BK158
               clear BK179
               clear HK
               clear HB
               have HO_159000 := n0_
               have HO172 := n1_
               have HO175 := n2_
               have BK158 := n3_
               have BK179 := n4_
               have HK := n5_
               have HB := n6_
               clear n0_ n1_ n2_ n3_ n4_ n5_ n6_
               clear hb ho59
               refine hK.out _ _ ⟨(blk_cell BK158.out 0).trans rfl, (blk_cell BK158.out 1).trans rfl⟩ (fun hHeld => ?_)
               clear hK K
               refine norm_ (a' := ?_) ?_ ?_
               rotate_left
               ·show Act.put _ (some 61) _ = _
                simp only [Act.put, sa_, sz_, ss_, i64_w, i32_w]
                rfl
               exact norm_ (by simp only [putAll, Act.put, sa_, sz_, ss_] <;> rfl) (hJ2_4_9 (v171, v174, gb179) _ ⟨hHeld, (by (with_reducible repeat first | apply ra_ | apply rn_ | apply rw_); exact Kd.R_mono HO172.out (fun _ hk => ⟨hk.1.1, ⟨hk.2, hk.1.2⟩⟩)), (by (with_reducible repeat first | apply ra_ | apply rn_ | apply rw_); exact Kd.R_mono HO175.out (fun _ hk => ⟨hk.1.1.1, ⟨hk.2, hk.1.2⟩⟩)), (by (with_reducible repeat first | apply ra_ | apply rn_ | apply rw_); exact Kd.R_mono HO_159000.out (fun _ hk => ⟨hk.1.1, ⟨hk.1.2, hk.2⟩⟩)), (by (with_reducible repeat (first | refine blk_drewN ?_ _ | refine blk_drew ?_ | refine blk_alloc ?_ _)); exact BK158.out), (by (with_reducible repeat (first | refine blk_drewN ?_ _ | refine blk_drew ?_ | refine blk_alloc ?_ _)); exact BK179.out), GW179.out, GE179.out, NB158_179.out, NB179_158.out, (by repeat (first | (with_reducible first | exact HK.out | apply Kept.alloc | apply Kept.drewN | apply Kept.drew | refine Kept.setCell ?_ (.inr GW158.out) _ | refine Kept.setCell ?_ (.inr GW179.out) _) | exact HK.out)), (by repeat (first | (with_reducible first | exact HB.out | apply below_alloc | apply pw_below_drewN | apply below_drew1 | refine below_set ?_ GE158.out | refine below_set ?_ GE179.out) | exact HB.out))⟩)
             ·skip
              rintro ⟨v171, v174⟩ w58 ⟨hS_, h0_, h1_, h2_, h3_, h4_, h5_⟩
              have n0_ : Aside0 (Kd.R (Kd.int .i64) 3 w58 w0.heap.size (fun k_ => (P1_0_ k_ ∨ w.heap.size ≤ k_) ∧ some k_ ≠ (v174 : Value).ownBlock ∧ some k_ ≠ (.slice Ao19 l1_0.length co19 : Value).ownBlock) v171 t170) := ⟨h0_⟩
              have n1_ : Aside0 (Kd.R (Kd.int .i64) 3 w58 w0.heap.size (fun k_ => (P1_0_ k_ ∨ w.heap.size ≤ k_) ∧ some k_ ≠ (v171 : Value).ownBlock ∧ some k_ ≠ (.slice Ao19 l1_0.length co19 : Value).ownBlock) v174 y173) := ⟨h1_⟩
              have n2_ : Aside0 (Kd.R (Kd.int .i64) 3 w58 w0.heap.size (fun k_ => (P1_0_ k_ ∨ w.heap.size ≤ k_) ∧ some k_ ≠ (v171 : Value).ownBlock ∧ some k_ ≠ (v174 : Value).ownBlock) (.slice Ao19 l1_0.length co19) l1_0) := ⟨h2_⟩
              have n3_ : Aside0 (w58.heap[gb158]? = some (.cells #[.slice Ao19 l1_0.length co19, .int .i64 a1_1] 31 (0, 0))) := ⟨h3_⟩
              have n4_ : Aside0 (Kept w w58 (fun k_ => P1_0_ k_)) := ⟨h4_⟩
              have n5_ : Aside0 (Below w0.heap.size w0 w58) := ⟨h5_⟩
              clear HO_159000
              clear BK158
              clear HK
              clear HB
              clear h0_ h1_ h2_ h3_ h4_ h5_
              have HO172 := n0_
              have HO175 := n1_
              have HO_159000 := n2_
              have BK158 := n3_
              have HK := n4_
              have HB := n5_
              clear n0_ n1_ n2_ n3_ n4_ n5_
              have hHeld : w58.cell? ⟨gb158, 0, none⟩ = some (.slice Ao19 l1_0.length co19) ∧ w58.cell? ⟨gb158, 1, none⟩ = some (.int .i64 a1_1) := hS_
              obtain ⟨Ao60, co60, eo60⟩ := Kd.R_slice HO175.out
              (first | subst eo60 | (injection eo60 with f1_ f2_ f3_; have f4_ := f1_.symm; have f5_ := f3_.symm; clear f1_ f2_ f3_; subst f4_; subst f5_))
              refine norm_ (a' := ?_) ?_ ?_
              rotate_left
              ·simp only [putAll, Act.put, sa_, sz_, ss_]
               rfl
              refine two_ (i := 5) (j := 9) (Ni := some 62) (Nj := some 9) #[true, true, true, true, true, true, true, true, false, false, false] #[true, true, true, true, true, false, true, true, false, true, false] rfl rfl rfl rfl (two_of HT_.out (by kernel_rfl)) (by decide) (by decide) (fun K hK => ?_) (fun K hK => ?_)
              ·skip
               refine Kd.R_append_rows_step (Kd.int .i64) (w0 := w0) w0.heap.size (by rfl) (.tmp 59) (.tmp 61) 22 3 (.int .i64 0) 8 rfl Try.underlying22 info3 rfl (by decide) (by omega) v171 t170 y173 _ _ _ (fun k_ => (P1_0_ k_ ∨ w.heap.size ≤ k_) ∧ some k_ ≠ (.slice Ao19 l1_0.length co19 : Value).ownBlock ∧ some k_ ≠ (.slice Ao60 y173.length co60 : Value).ownBlock) (fun _ => False) rfl rfl ?aO ?aR (fun _ _ h => h) (fun _ h => h.elim) ?aF ?aB ?aS ?aL ?_
               (case aR => repeat (first | exact (Kd.R_reads' HO175.out).2.2 | (with_reducible refine Kd.C_alloc ?_ _) | (with_reducible refine Kd.C_drewN ?_ _) | (with_reducible refine Kd.C_drew ?_)))
               (case aB => exact (by repeat (first | (with_reducible first | exact HB.out | apply below_alloc | apply pw_below_drewN | apply below_drew1 | refine below_set ?_ GE158.out) | exact HB.out)))
               (case aF => exact (fun k_ hk => ⟨(.inr (Nat.le_trans (by first | exact HK.out.1 | exact (show Kept w _ (fun k_ => P1_0_ k_) from by repeat (first | (with_reducible first | exact HK.out | apply Kept.alloc | apply Kept.drewN | apply Kept.drew | refine Kept.setCell ?_ (.inr GW158.out) _) | exact HK.out)).1) hk)), Kd.fresh' (Kd.R_lt (by (with_reducible repeat first | apply ra_ | apply rn_ | apply rw_); exact HO_159000.out)) k_ hk, Kd.fresh' (Kd.R_lt (by (with_reducible repeat first | apply ra_ | apply rn_ | apply rw_); exact HO175.out)) k_ hk⟩))
               (case aO => exact (by (with_reducible repeat first | apply ra_ | apply rn_ | apply rw_); exact Kd.R_mono HO172.out (fun _ hk => ⟨hk.1, ⟨hk.2.2, hk.2.1⟩⟩)))
               (case aS => exact (below_size (by repeat (first | (with_reducible first | exact HB.out | apply below_alloc | apply pw_below_drewN | apply below_drew1 | refine below_set ?_ GE158.out) | exact HB.out))))
               (case aL => have := LMc35.out; omega)
               intro v177 w59 ho hb hg hat
               rw [← Ny176.out] at ho
               have n0_ := Aside0.mk (Kd.R_after (ok := (fun k_ => (P1_0_ k_ ∨ w.heap.size ≤ k_) ∧ some k_ ≠ (.slice Ao60 y173.length co60 : Value).ownBlock)) (by (with_reducible repeat first | apply ra_ | apply rn_ | apply rw_); exact Kd.R_mono HO_159000.out (fun _ hk => ⟨⟨hk.1, hk.2.2⟩, hk.2.1⟩)) hg hat)
               have n1_ := Aside0.mk (blk_grown (g := gb158) (o := .cells #[.slice Ao19 l1_0.length co19, .int .i64 a1_1] 31 (0, 0)) (by (with_reducible repeat (first | refine blk_drewN ?_ _ | refine blk_drew ?_ | refine blk_alloc ?_ _)); exact BK158.out) hg (Kd.R_ne HO172.out BK158.out (by decide)))
               have n2_ := Aside0.mk (Kd.R_after (ok := (fun k_ => (P1_0_ k_ ∨ w.heap.size ≤ k_) ∧ some k_ ≠ (.slice Ao19 l1_0.length co19 : Value).ownBlock)) (by (with_reducible repeat first | apply ra_ | apply rn_ | apply rw_); exact Kd.R_mono HO175.out (fun _ hk => ⟨⟨hk.1, hk.2.2⟩, hk.2.1⟩)) hg hat)
               have n3_ := Aside0.mk (hb)
               have n4_ := Aside0.mk (Kept.of_grown (S := (fun k_ => P1_0_ k_)) hg (by repeat (first | (with_reducible first | exact HK.out | apply Kept.alloc | apply Kept.drewN | apply Kept.drew | refine Kept.setCell ?_ (.inr GW158.out) _) | exact HK.out)) (fun k_ e_ => (HO172.out.1 k_ e_).1))
               have n5_ := Aside0.mk (ho)
               clear HO_159000
               clear BK158
               clear HO175
               clear HB
               clear HK
               clear HO172
               have HO_159000 := n0_
               have BK158 := n1_
               have HO175 := n2_
               have HB := n3_
               have HK := n4_
               have HO178 := n5_
               clear n0_ n1_ n2_ n3_ n4_ n5_
               clear ho hb hg hat
               obtain ⟨Ao61, co61, eo61⟩ := Kd.R_slice HO178.out
               (first | subst eo61 | (injection eo61 with f1_ f2_ f3_; have f4_ := f1_.symm; have f5_ := f3_.symm; clear f1_ f2_ f3_; subst f4_; subst f5_))
               refine hK.out _ _ ⟨(blk_cell BK158.out 0).trans rfl, (blk_cell BK158.out 1).trans rfl⟩ (fun hHeld => ?_)
               clear hK K
               refine norm_ (a' := ?_) ?_ ?_
               rotate_left
               ·show Act.put _ (some 62) _ = _
                simp only [Act.put, sa_, sz_, ss_, i64_w, i32_w]
                rfl
               refine pure_ (i := 8) (N := some 65) (v := ?_) (a' := ?_) #[true, true, true, true, true, true, true, true, true, false, false] rfl rfl (any_of HT_.out (by kernel_rfl)) (fun _ _ _ h => h) (Or.inl ⟨by rfl, ?_⟩) ?_ ?_
               rotate_left
               ·intro w'
                go_simp
                with_reducible rfl
               rotate_left
               ·simp only [Act.put, sa_, sz_, ss_, i64_w, i32_w]
                rfl
               exact norm_ (by simp only [putAll, Act.put, sa_, sz_, ss_] <;> rfl) (hJ2_4_5 (v171, .slice Ao60 y173.length co60, .slice Ao61 y176.length co61) _ ⟨hHeld, (by (with_reducible repeat first | apply ra_ | apply rn_ | apply rw_); exact Kd.R_mono HO175.out (fun _ hk => ⟨hk.1.1, ⟨hk.2, hk.1.2⟩⟩)), (by (with_reducible repeat first | apply ra_ | apply rn_ | apply rw_); exact Kd.R_mono HO178.out (fun _ hk => ⟨hk.1, ⟨hk.2.2, hk.2.1⟩⟩)), (by (with_reducible repeat first | apply ra_ | apply rn_ | apply rw_); exact Kd.R_mono HO_159000.out (fun _ hk => ⟨hk.1.1, ⟨hk.1.2, hk.2⟩⟩)), (by (with_reducible repeat (first | refine blk_drewN ?_ _ | refine blk_drew ?_ | refine blk_alloc ?_ _)); exact BK158.out), (by repeat (first | (with_reducible first | exact HK.out | apply Kept.alloc | apply Kept.drewN | apply Kept.drew | refine Kept.setCell ?_ (.inr GW158.out) _) | exact HK.out)), (by repeat (first | (with_reducible first | exact HB.out | apply below_alloc | apply pw_below_drewN | apply below_drew1 | refine below_set ?_ GE158.out) | exact HB.out))⟩)
              ·skip
               refine box_step ?hg (N := 9) ?hd (cs := #[.slice none 0 0, .int .i64 0]) (t := 31) ?hr ?_; (case hd => rfl); (case hg => rfl); (case hr => first | (go_simp; done) | (go_simp; rfl))
               intro gb179 hg w59 hbox hb
               have n0_ := Aside0.mk (Kd.R_below (by (with_reducible repeat first | apply ra_ | apply rn_ | apply rw_); exact HO_159000.out) hb)
               have n1_ := Aside0.mk (Kd.R_below (by (with_reducible repeat first | apply ra_ | apply rn_ | apply rw_); exact HO172.out) hb)
               have n2_ := Aside0.mk (Kd.R_below (by (with_reducible repeat first | apply ra_ | apply rn_ | apply rw_); exact HO175.out) hb)
               have n3_ := Aside0.mk (blk_below (g := gb158) (o := .cells #[.slice Ao19 l1_0.length co19, .int .i64 a1_1] 31 (0, 0)) (by (with_reducible repeat (first | refine blk_drewN ?_ _ | refine blk_drew ?_ | refine blk_alloc ?_ _)); exact BK158.out) hb)
               have n4_ := Aside0.mk (Kept.below (S := (fun k_ => P1_0_ k_)) (by repeat (first | (with_reducible first | exact HK.out | apply Kept.alloc | apply Kept.drewN | apply Kept.drew | refine Kept.setCell ?_ (.inr GW158.out) _) | exact HK.out)) hb)
               have n5_ := Aside0.mk (below_step (by repeat (first | (with_reducible first | exact HB.out | apply below_alloc | apply pw_below_drewN | apply below_drew1 | refine below_set ?_ GE158.out) | exact HB.out)) hb)
               have n6_ := Aside0.mk (hbox)
               have n7_ := Aside0.mk ((by rw [hg]; exact (by first | exact HK.out.1 | exact (show Kept w _ (fun k_ => P1_0_ k_) from by repeat (first | (with_reducible first | exact HK.out | apply Kept.alloc | apply Kept.drewN | apply Kept.drew | refine Kept.setCell ?_ (.inr GW158.out) _) | exact HK.out)).1) : w.heap.size ≤ gb179))
               have n8_ := Aside0.mk ((by rw [hg]; exact (below_size (by repeat (first | (with_reducible first | exact HB.out | apply below_alloc | apply pw_below_drewN | apply below_drew1 | refine below_set ?_ GE158.out) | exact HB.out))) : w0.heap.size ≤ gb179))
               have n9_ := Aside0.mk ((by rw [hg]; exact Nat.ne_of_lt (blk_lt (g := gb158) (o := .cells #[.slice Ao19 l1_0.length co19, .int .i64 a1_1] 31 (0, 0)) (by (with_reducible repeat (first | refine blk_drewN ?_ _ | refine blk_drew ?_ | refine blk_alloc ?_ _)); exact BK158.out)) : gb158 ≠ gb179))
               have n10_ := Aside0.mk ((by rw [hg]; exact Nat.ne_of_gt (blk_lt (g := gb158) (o := .cells #[.slice Ao19 l1_0.length co19, .int .i64 a1_1] 31 (0, 0)) (by (with_reducible repeat (first | refine blk_drewN ?_ _ | refine blk_drew ?_ | refine blk_alloc ?_ _)); exact BK158.out)) : gb179 ≠ gb158))
               clear HO_159000
               clear HO172
               clear HO175
               clear BK158
               clear HK
               clear HB
               have HO_159000 := n0_
               have HO172 := n1_
               have HO175 := n2_
               have BK158 := n3_
               have HK := n4_
               have HB := n5_
               have BK179 := n6_
               have GW179 := n7_
               have GE179 := n8_
               have NB158_179 := n9_
               have NB179_158 := n10_
               clear n0_ n1_ n2_ n3_ n4_ n5_ n6_ n7_ n8_ n9_ n10_
               clear hb hbox hg
               refine hK.out _ _ ⟨(blk_cell BK158.out 0).trans rfl, (blk_cell BK158.out 1).trans rfl⟩ (fun hHeld => ?_)
               clear hK K
               refine norm_ (a' := ?_) ?_ ?_
               rotate_left
               ·show Act.put _ (some 9) _ = _
                simp only [Act.put, sa_, sz_, ss_, i64_w, i32_w]
                rfl
               exact norm_ (by simp only [putAll, Act.put, sa_, sz_, ss_] <;> rfl) (hJ2_4_9 (v171, (.slice Ao60 y173.length co60), gb179) _ ⟨hHeld, (by (with_reducible repeat first | apply ra_ | apply rn_ | apply rw_); exact HO172.out), (by (with_reducible repeat first | apply ra_ | apply rn_ | apply rw_); exact HO175.out), (by (with_reducible repeat first | apply ra_ | apply rn_ | apply rw_); exact HO_159000.out), (by (with_reducible repeat (first | refine blk_drewN ?_ _ | refine blk_drew ?_ | refine blk_alloc ?_ _)); exact BK158.out), (by (with_reducible repeat (first | refine blk_drewN ?_ _ | refine blk_drew ?_ | refine blk_alloc ?_ _)); exact BK179.out), GW179.out, GE179.out, NB158_179.out, NB179_158.out, (by repeat (first | (with_reducible first | exact HK.out | apply Kept.alloc | apply Kept.drewN | apply Kept.drew | refine Kept.setCell ?_ (.inr GW158.out) _ | refine Kept.setCell ?_ (.inr GW179.out) _) | exact HK.out)), (by repeat (first | (with_reducible first | exact HB.out | apply below_alloc | apply pw_below_drewN | apply below_drew1 | refine below_set ?_ GE158.out | refine below_set ?_ GE179.out) | exact HB.out))⟩)
            ·skip
             rintro ⟨v171, v174, gb179⟩ w59 ⟨hS_, h0_, h1_, h2_, h3_, h4_, h5_, h6_, h7_, h8_, h9_, h10_⟩
             have n0_ : Aside0 (Kd.R (Kd.int .i64) 3 w59 w0.heap.size (fun k_ => (P1_0_ k_ ∨ w.heap.size ≤ k_) ∧ some k_ ≠ (v174 : Value).ownBlock ∧ some k_ ≠ (.slice Ao19 l1_0.length co19 : Value).ownBlock) v171 t170) := ⟨h0_⟩
             have n1_ : Aside0 (Kd.R (Kd.int .i64) 3 w59 w0.heap.size (fun k_ => (P1_0_ k_ ∨ w.heap.size ≤ k_) ∧ some k_ ≠ (v171 : Value).ownBlock ∧ some k_ ≠ (.slice Ao19 l1_0.length co19 : Value).ownBlock) v174 y173) := ⟨h1_⟩
             have n2_ : Aside0 (Kd.R (Kd.int .i64) 3 w59 w0.heap.size (fun k_ => (P1_0_ k_ ∨ w.heap.size ≤ k_) ∧ some k_ ≠ (v171 : Value).ownBlock ∧ some k_ ≠ (v174 : Value).ownBlock) (.slice Ao19 l1_0.length co19) l1_0) := ⟨h2_⟩
             have n3_ : Aside0 (w59.heap[gb158]? = some (.cells #[.slice Ao19 l1_0.length co19, .int .i64 a1_1] 31 (0, 0))) := ⟨h3_⟩
             have n4_ : Aside0 (w59.heap[gb179]? = some (.cells #[.slice none 0 0, .int .i64 0] 31 (0, 0))) := ⟨h4_⟩
             have n5_ : Aside0 (w.heap.size ≤ gb179) := ⟨h5_⟩
             have n6_ : Aside0 (w0.heap.size ≤ gb179) := ⟨h6_⟩
             have n7_ : Aside0 (gb158 ≠ gb179) := ⟨h7_⟩
             have n8_ : Aside0 (gb179 ≠ gb158) := ⟨h8_⟩
             have n9_ : Aside0 (Kept w w59 (fun k_ => P1_0_ k_)) := ⟨h9_⟩
             have n10_ : Aside0 (Below w0.heap.size w0 w59) := ⟨h10_⟩
             clear HO_159000
             clear BK158
             clear HK
             clear HB
             clear h0_ h1_ h2_ h3_ h4_ h5_ h6_ h7_ h8_ h9_ h10_
             have HO172 := n0_
             have HO175 := n1_
             have HO_159000 := n2_
             have BK158 := n3_
             have BK179 := n4_
             have GW179 := n5_
             have GE179 := n6_
             have NB158_179 := n7_
             have NB179_158 := n8_
             have HK := n9_
             have HB := n10_
             clear n0_ n1_ n2_ n3_ n4_ n5_ n6_ n7_ n8_ n9_ n10_
             have hHeld : w59.cell? ⟨gb158, 0, none⟩ = some (.slice Ao19 l1_0.length co19) ∧ w59.cell? ⟨gb158, 1, none⟩ = some (.int .i64 a1_1) := hS_
             obtain ⟨Ao61, co61, eo61⟩ := Kd.R_slice HO175.out
             (first | subst eo61 | (injection eo61 with f1_ f2_ f3_; have f4_ := f1_.symm; have f5_ := f3_.symm; clear f1_ f2_ f3_; subst f4_; subst f5_))
             refine norm_ (a' := ?_) ?_ ?_
             rotate_left
             ·simp only [putAll, Act.put, sa_, sz_, ss_]
              rfl
             refine one_ (i := 5) (N := some 62) #[true, true, true, true, true, true, true, true, false, true, false] rfl rfl (one_of HT_.out (by kernel_rfl)) (by decide) (fun K hK => ?_)
             refine Kd.R_append_rows_step (Kd.int .i64) (w0 := w0) w0.heap.size (by rfl) (.tmp 59) (.tmp 61) 22 3 (.int .i64 0) 8 rfl Try.underlying22 info3 rfl (by decide) (by omega) v171 t170 y173 _ _ _ (fun k_ => (P1_0_ k_ ∨ w.heap.size ≤ k_) ∧ some k_ ≠ (.slice Ao19 l1_0.length co19 : Value).ownBlock ∧ some k_ ≠ (.slice Ao61 y173.length co61 : Value).ownBlock) (fun _ => False) rfl rfl ?aO ?aR (fun _ _ h => h) (fun _ h => h.elim) ?aF ?aB ?aS ?aL ?_
             (case aR => repeat (first | exact (Kd.R_reads' HO175.out).2.2 | (with_reducible refine Kd.C_alloc ?_ _) | (with_reducible refine Kd.C_drewN ?_ _) | (with_reducible refine Kd.C_drew ?_)))
             (case aB => exact (by repeat (first | (with_reducible first | exact HB.out | apply below_alloc | apply pw_below_drewN | apply below_drew1 | refine below_set ?_ GE158.out | refine below_set ?_ GE179.out) | exact HB.out)))
             (case aF => exact (fun k_ hk => ⟨(.inr (Nat.le_trans (by first | exact HK.out.1 | exact (show Kept w _ (fun k_ => P1_0_ k_) from by repeat (first | (with_reducible first | exact HK.out | apply Kept.alloc | apply Kept.drewN | apply Kept.drew | refine Kept.setCell ?_ (.inr GW158.out) _ | refine Kept.setCell ?_ (.inr GW179.out) _) | exact HK.out)).1) hk)), Kd.fresh' (Kd.R_lt (by (with_reducible repeat first | apply ra_ | apply rn_ | apply rw_); exact HO_159000.out)) k_ hk, Kd.fresh' (Kd.R_lt (by (with_reducible repeat first | apply ra_ | apply rn_ | apply rw_); exact HO175.out)) k_ hk⟩))
             (case aO => exact (by (with_reducible repeat first | apply ra_ | apply rn_ | apply rw_); exact Kd.R_mono HO172.out (fun _ hk => ⟨hk.1, ⟨hk.2.2, hk.2.1⟩⟩)))
             (case aS => exact (below_size (by repeat (first | (with_reducible first | exact HB.out | apply below_alloc | apply pw_below_drewN | apply below_drew1 | refine below_set ?_ GE158.out | refine below_set ?_ GE179.out) | exact HB.out))))
             (case aL => have := LMc35.out; omega)
             intro v177 w60 ho hb hg hat
             rw [← Ny176.out] at ho
             have n0_ := Aside0.mk (Kd.R_after (ok := (fun k_ => (P1_0_ k_ ∨ w.heap.size ≤ k_) ∧ some k_ ≠ (.slice Ao61 y173.length co61 : Value).ownBlock)) (by (with_reducible repeat first | apply ra_ | apply rn_ | apply rw_); exact Kd.R_mono HO_159000.out (fun _ hk => ⟨⟨hk.1, hk.2.2⟩, hk.2.1⟩)) hg hat)
             have n1_ := Aside0.mk (blk_grown (g := gb158) (o := .cells #[.slice Ao19 l1_0.length co19, .int .i64 a1_1] 31 (0, 0)) (by (with_reducible repeat (first | refine blk_drewN ?_ _ | refine blk_drew ?_ | refine blk_alloc ?_ _)); exact BK158.out) hg (Kd.R_ne HO172.out BK158.out (by decide)))
             have n2_ := Aside0.mk (Kd.R_after (ok := (fun k_ => (P1_0_ k_ ∨ w.heap.size ≤ k_) ∧ some k_ ≠ (.slice Ao19 l1_0.length co19 : Value).ownBlock)) (by (with_reducible repeat first | apply ra_ | apply rn_ | apply rw_); exact Kd.R_mono HO175.out (fun _ hk => ⟨⟨hk.1, hk.2.2⟩, hk.2.1⟩)) hg hat)
             have n3_ := Aside0.mk (blk_grown (g := gb179) (o := .cells #[.slice none 0 0, .int .i64 0] 31 (0, 0)) (by (with_reducible repeat (first | refine blk_drewN ?_ _ | refine blk_drew ?_ | refine blk_alloc ?_ _)); exact BK179.out) hg (Kd.R_ne HO172.out BK179.out (by decide)))
             have n4_ := Aside0.mk (hb)
             have n5_ := Aside0.mk (Kept.of_grown (S := (fun k_ => P1_0_ k_)) hg (by repeat (first | (with_reducible first | exact HK.out | apply Kept.alloc | apply Kept.drewN | apply Kept.drew | refine Kept.setCell ?_ (.inr GW158.out) _ | refine Kept.setCell ?_ (.inr GW179.out) _) | exact HK.out)) (fun k_ e_ => (HO172.out.1 k_ e_).1))
             have n6_ := Aside0.mk (ho)
             clear HO_159000
             clear BK158
             clear HO175
             clear BK179
             clear HB
             clear HK
             clear HO172
             have HO_159000 := n0_
             have BK158 := n1_
             have HO175 := n2_
             have BK179 := n3_
             have HB := n4_
             have HK := n5_
             have HO178 := n6_
             clear n0_ n1_ n2_ n3_ n4_ n5_ n6_
             clear ho hb hg hat
             obtain ⟨Ao62, co62, eo62⟩ := Kd.R_slice HO178.out
             (first | subst eo62 | (injection eo62 with f1_ f2_ f3_; have f4_ := f1_.symm; have f5_ := f3_.symm; clear f1_ f2_ f3_; subst f4_; subst f5_))
             refine hK.out _ _ ⟨(blk_cell BK158.out 0).trans rfl, (blk_cell BK158.out 1).trans rfl⟩ (fun hHeld => ?_)
             clear hK K
             refine norm_ (a' := ?_) ?_ ?_
             rotate_left
             ·show Act.put _ (some 62) _ = _
              simp only [Act.put, sa_, sz_, ss_, i64_w, i32_w]
              rfl
             refine pure_ (i := 8) (N := some 65) (v := ?_) (a' := ?_) #[true, true, true, true, true, true, true, true, true, true, false] rfl rfl (any_of HT_.out (by kernel_rfl)) (fun _ _ _ h => h) (Or.inl ⟨by rfl, ?_⟩) ?_ ?_
             rotate_left
             ·intro w'
              go_simp
              with_reducible rfl
             rotate_left
             ·simp only [Act.put, sa_, sz_, ss_, i64_w, i32_w]
              rfl
             exact norm_ (by simp only [putAll, Act.put, sa_, sz_, ss_] <;> rfl) (hJ2_4_5_9 (v171, .slice Ao61 y173.length co61, .slice Ao62 y176.length co62, gb179) _ ⟨hHeld, (by (with_reducible repeat first | apply ra_ | apply rn_ | apply rw_); exact Kd.R_mono HO175.out (fun _ hk => ⟨hk.1.1, ⟨hk.2, hk.1.2⟩⟩)), (by (with_reducible repeat first | apply ra_ | apply rn_ | apply rw_); exact Kd.R_mono HO178.out (fun _ hk => ⟨hk.1, ⟨hk.2.2, hk.2.1⟩⟩)), (by (with_reducible repeat first | apply ra_ | apply rn_ | apply rw_); exact Kd.R_mono HO_159000.out (fun _ hk => ⟨hk.1.1, ⟨hk.1.2, hk.2⟩⟩)), (by (with_reducible repeat (first | refine blk_drewN ?_ _ | refine blk_drew ?_ | refine blk_alloc ?_ _)); exact BK158.out), (by (with_reducible repeat (first | refine blk_drewN ?_ _ | refine blk_drew ?_ | refine blk_alloc ?_ _)); exact BK179.out), GW179.out, GE179.out, NB158_179.out, NB179_158.out, (by repeat (first | (with_reducible first | exact HK.out | apply Kept.alloc | apply Kept.drewN | apply Kept.drew | refine Kept.setCell ?_ (.inr GW158.out) _ | refine Kept.setCell ?_ (.inr GW179.out) _) | exact HK.out)), (by repeat (first | (with_reducible first | exact HB.out | apply below_alloc | apply pw_below_drewN | apply below_drew1 | refine below_set ?_ GE158.out | refine below_set ?_ GE179.out) | exact HB.out))⟩)
           ·skip
            rintro ⟨v171, v174, v177⟩ w61 ⟨hS_, h0_, h1_, h2_, h3_, h4_, h5_⟩
            have n0_ : Aside0 (Kd.R (Kd.int .i64) 3 w61 w0.heap.size (fun k_ => (P1_0_ k_ ∨ w.heap.size ≤ k_) ∧ some k_ ≠ (v177 : Value).ownBlock ∧ some k_ ≠ (.slice Ao19 l1_0.length co19 : Value).ownBlock) v174 y173) := ⟨h0_⟩
            have n1_ : Aside0 (Kd.R (Kd.int .i64) 3 w61 w0.heap.size (fun k_ => (P1_0_ k_ ∨ w.heap.size ≤ k_) ∧ some k_ ≠ (v174 : Value).ownBlock ∧ some k_ ≠ (.slice Ao19 l1_0.length co19 : Value).ownBlock) v177 y176) := ⟨h1_⟩
            have n2_ : Aside0 (Kd.R (Kd.int .i64) 3 w61 w0.heap.size (fun k_ => (P1_0_ k_ ∨ w.heap.size ≤ k_) ∧ some k_ ≠ (v174 : Value).ownBlock ∧ some k_ ≠ (v177 : Value).ownBlock) (.slice Ao19 l1_0.length co19) l1_0) := ⟨h2_⟩
            have n3_ : Aside0 (w61.heap[gb158]? = some (.cells #[.slice Ao19 l1_0.length co19, .int .i64 a1_1] 31 (0, 0))) := ⟨h3_⟩
            have n4_ : Aside0 (Kept w w61 (fun k_ => P1_0_ k_)) := ⟨h4_⟩
            have n5_ : Aside0 (Below w0.heap.size w0 w61) := ⟨h5_⟩
            clear HO_159000
            clear BK158
            clear HK
            clear HB
            clear h0_ h1_ h2_ h3_ h4_ h5_
            have HO175 := n0_
            have HO178 := n1_
            have HO_159000 := n2_
            have BK158 := n3_
            have HK := n4_
            have HB := n5_
            clear n0_ n1_ n2_ n3_ n4_ n5_
            have hHeld : w61.cell? ⟨gb158, 0, none⟩ = some (.slice Ao19 l1_0.length co19) ∧ w61.cell? ⟨gb158, 1, none⟩ = some (.int .i64 a1_1) := hS_
            obtain ⟨Ao62, co62, eo62⟩ := Kd.R_slice HO178.out
            (first | subst eo62 | (injection eo62 with f1_ f2_ f3_; have f4_ := f1_.symm; have f5_ := f3_.symm; clear f1_ f2_ f3_; subst f4_; subst f5_))
            refine norm_ (a' := ?_) ?_ ?_
            rotate_left
            ·simp only [putAll, Act.put, sa_, sz_, ss_]
             rfl
            refine one_ (i := 9) (N := some 9) #[true, true, true, true, true, true, true, true, true, true, false] rfl rfl (one_of HT_.out (by kernel_rfl)) (by decide) (fun K hK => ?_)
            refine box_step ?hg (N := 9) ?hd (cs := #[.slice none 0 0, .int .i64 0]) (t := 31) ?hr ?_; (case hd => rfl); (case hg => rfl); (case hr => first | (go_simp; done) | (go_simp; rfl))
            intro gb179 hg w63 hbox hb
            have n0_ := Aside0.mk (Kd.R_below (by (with_reducible repeat first | apply ra_ | apply rn_ | apply rw_); exact HO_159000.out) hb)
            have n1_ := Aside0.mk (Kd.R_below (by (with_reducible repeat first | apply ra_ | apply rn_ | apply rw_); exact HO175.out) hb)
            have n2_ := Aside0.mk (Kd.R_below (by (with_reducible repeat first | apply ra_ | apply rn_ | apply rw_); exact HO178.out) hb)
            have n3_ := Aside0.mk (blk_below (g := gb158) (o := .cells #[.slice Ao19 l1_0.length co19, .int .i64 a1_1] 31 (0, 0)) (by (with_reducible repeat (first | refine blk_drewN ?_ _ | refine blk_drew ?_ | refine blk_alloc ?_ _)); exact BK158.out) hb)
            have n4_ := Aside0.mk (Kept.below (S := (fun k_ => P1_0_ k_)) (by repeat (first | (with_reducible first | exact HK.out | apply Kept.alloc | apply Kept.drewN | apply Kept.drew | refine Kept.setCell ?_ (.inr GW158.out) _) | exact HK.out)) hb)
            have n5_ := Aside0.mk (below_step (by repeat (first | (with_reducible first | exact HB.out | apply below_alloc | apply pw_below_drewN | apply below_drew1 | refine below_set ?_ GE158.out) | exact HB.out)) hb)
            have n6_ := Aside0.mk (hbox)
            have n7_ := Aside0.mk ((by rw [hg]; exact (by first | exact HK.out.1 | exact (show Kept w _ (fun k_ => P1_0_ k_) from by repeat (first | (with_reducible first | exact HK.out | apply Kept.alloc | apply Kept.drewN | apply Kept.drew | refine Kept.setCell ?_ (.inr GW158.out) _) | exact HK.out)).1) : w.heap.size ≤ gb179))
            have n8_ := Aside0.mk ((by rw [hg]; exact (below_size (by repeat (first | (with_reducible first | exact HB.out | apply below_alloc | apply pw_below_drewN | apply below_drew1 | refine below_set ?_ GE158.out) | exact HB.out))) : w0.heap.size ≤ gb179))
            have n9_ := Aside0.mk ((by rw [hg]; exact Nat.ne_of_lt (blk_lt (g := gb158) (o := .cells #[.slice Ao19 l1_0.length co19, .int .i64 a1_1] 31 (0, 0)) (by (with_reducible repeat (first | refine blk_drewN ?_ _ | refine blk_drew ?_ | refine blk_alloc ?_ _)); exact BK158.out)) : gb158 ≠ gb179))
            have n10_ := Aside0.mk ((by rw [hg]; exact Nat.ne_of_gt (blk_lt (g := gb158) (o := .cells #[.slice Ao19 l1_0.length co19, .int .i64 a1_1] 31 (0, 0)) (by (with_reducible repeat (first | refine blk_drewN ?_ _ | refine blk_drew ?_ | refine blk_alloc ?_ _)); exact BK158.out)) : gb179 ≠ gb158))
            clear HO_159000
            clear HO175
            clear HO178
            clear BK158
            clear HK
            clear HB
            have HO_159000 := n0_
            have HO175 := n1_
            have HO178 := n2_
            have BK158 := n3_
            have HK := n4_
            have HB := n5_
            have BK179 := n6_
            have GW179 := n7_
            have GE179 := n8_
            have NB158_179 := n9_
            have NB179_158 := n10_
            clear n0_ n1_ n2_ n3_ n4_ n5_ n6_ n7_ n8_ n9_ n10_
            clear hb hbox hg
            refine hK.out _ _ ⟨(blk_cell BK158.out 0).trans rfl, (blk_cell BK158.out 1).trans rfl⟩ (fun hHeld => ?_)
            clear hK K
            refine norm_ (a' := ?_) ?_ ?_
            rotate_left
            ·show Act.put _ (some 9) _ = _
             simp only [Act.put, sa_, sz_, ss_, i64_w, i32_w]
             rfl
            exact norm_ (by simp only [putAll, Act.put, sa_, sz_, ss_] <;> rfl) (hJ2_4_5_9 (v171, v174, .slice Ao62 y176.length co62, gb179) _ ⟨hHeld, (by (with_reducible repeat first | apply ra_ | apply rn_ | apply rw_); exact HO175.out), (by (with_reducible repeat first | apply ra_ | apply rn_ | apply rw_); exact HO178.out), (by (with_reducible repeat first | apply ra_ | apply rn_ | apply rw_); exact HO_159000.out), (by (with_reducible repeat (first | refine blk_drewN ?_ _ | refine blk_drew ?_ | refine blk_alloc ?_ _)); exact BK158.out), (by (with_reducible repeat (first | refine blk_drewN ?_ _ | refine blk_drew ?_ | refine blk_alloc ?_ _)); exact BK179.out), GW179.out, GE179.out, NB158_179.out, NB179_158.out, (by repeat (first | (with_reducible first | exact HK.out | apply Kept.alloc | apply Kept.drewN | apply Kept.drew | refine Kept.setCell ?_ (.inr GW158.out) _ | refine Kept.setCell ?_ (.inr GW179.out) _) | exact HK.out)), (by repeat (first | (with_reducible first | exact HB.out | apply below_alloc | apply pw_below_drewN | apply below_drew1 | refine below_set ?_ GE158.out | refine below_set ?_ GE179.out) | exact HB.out))⟩)
          rintro ⟨v171, v174, v177, gb179⟩ w62 ⟨hS_, h0_, h1_, h2_, h3_, h4_, h5_, h6_, h7_, h8_, h9_, h10_⟩
          have n0_ : Aside0 (Kd.R (Kd.int .i64) 3 w62 w0.heap.size (fun k_ => (P1_0_ k_ ∨ w.heap.size ≤ k_) ∧ some k_ ≠ (v177 : Value).ownBlock ∧ some k_ ≠ (.slice Ao19 l1_0.length co19 : Value).ownBlock) v174 y173) := ⟨h0_⟩
          have n1_ : Aside0 (Kd.R (Kd.int .i64) 3 w62 w0.heap.size (fun k_ => (P1_0_ k_ ∨ w.heap.size ≤ k_) ∧ some k_ ≠ (v174 : Value).ownBlock ∧ some k_ ≠ (.slice Ao19 l1_0.length co19 : Value).ownBlock) v177 y176) := ⟨h1_⟩
          have n2_ : Aside0 (Kd.R (Kd.int .i64) 3 w62 w0.heap.size (fun k_ => (P1_0_ k_ ∨ w.heap.size ≤ k_) ∧ some k_ ≠ (v174 : Value).ownBlock ∧ some k_ ≠ (v177 : Value).ownBlock) (.slice Ao19 l1_0.length co19) l1_0) := ⟨h2_⟩
          have n3_ : Aside0 (w62.heap[gb158]? = some (.cells #[.slice Ao19 l1_0.length co19, .int .i64 a1_1] 31 (0, 0))) := ⟨h3_⟩
          have n4_ : Aside0 (w62.heap[gb179]? = some (.cells #[.slice none 0 0, .int .i64 0] 31 (0, 0))) := ⟨h4_⟩
          have n5_ : Aside0 (w.heap.size ≤ gb179) := ⟨h5_⟩
          have n6_ : Aside0 (w0.heap.size ≤ gb179) := ⟨h6_⟩
          have n7_ : Aside0 (gb158 ≠ gb179) := ⟨h7_⟩
          have n8_ : Aside0 (gb179 ≠ gb158) := ⟨h8_⟩
          have n9_ : Aside0 (Kept w w62 (fun k_ => P1_0_ k_)) := ⟨h9_⟩
          have n10_ : Aside0 (Below w0.heap.size w0 w62) := ⟨h10_⟩
          clear HO_159000
          clear BK158
          clear HK
          clear HB
          clear h0_ h1_ h2_ h3_ h4_ h5_ h6_ h7_ h8_ h9_ h10_
          have HO175 := n0_
          have HO178 := n1_
          have HO_159000 := n2_
          have BK158 := n3_
          have BK179 := n4_
          have GW179 := n5_
          have GE179 := n6_
          have NB158_179 := n7_
          have NB179_158 := n8_
          have HK := n9_
          have HB := n10_
          clear n0_ n1_ n2_ n3_ n4_ n5_ n6_ n7_ n8_ n9_ n10_
          have hHeld : w62.cell? ⟨gb158, 0, none⟩ = some (.slice Ao19 l1_0.length co19) ∧ w62.cell? ⟨gb158, 1, none⟩ = some (.int .i64 a1_1) := hS_
          obtain ⟨Ao63, co63, eo63⟩ := Kd.R_slice HO178.out
          (first | subst eo63 | (injection eo63 with f1_ f2_ f3_; have f4_ := f1_.symm; have f5_ := f3_.symm; clear f1_ f2_ f3_; subst f4_; subst f5_))
          refine norm_ (a' := ?_) ?_ ?_
          rotate_left
          ·simp only [putAll, Act.put, sa_, sz_, ss_]
           rfl
          refine one_ (i := 10) (N := none) #[true, true, true, true, true, true, true, true, true, true, true] rfl rfl (one_of HT_.out (by kernel_rfl)) (by decide) (fun K hK => ?_)
          have hs64 : w62.cell? ⟨gb179, 0, none⟩ = some (.slice none 0 0) := (blk_cell BK179.out 0).trans rfl
          have hfs64 := blk_frozen BK179.out 0
          have hns64_0 := NB158_179.out
          have hms64_0 := NB179_158.out
          have hs65 : w62.cell? ⟨gb179, 1, none⟩ = some (.int .i64 0) := (blk_cell BK179.out 1).trans rfl
          have hfs65 := blk_frozen BK179.out 1
          have hns65_0 := NB158_179.out
          have hms65_0 := NB179_158.out
          refine skip_ (w1 := ?_) (by rfl) rfl ?_ ?_
          rotate_left
          ·go_simp
           rfl
          refine hK.out _ _ ⟨((cell_far (p := ⟨gb179, _, none⟩) NB158_179.out _).trans (((cell_far (p := ⟨gb179, _, none⟩) NB158_179.out _).trans (hHeld.1)))), ((cell_far (p := ⟨gb179, _, none⟩) NB158_179.out _).trans (((cell_far (p := ⟨gb179, _, none⟩) NB158_179.out _).trans (hHeld.2))))⟩ (fun hHeld => ?_)
          clear hK K
          refine done_ (done_of HT_.out (by kernel_rfl)) ?_
          have n0_ : Aside0 (Kd.R (Kd.int .i64) 3 ((w62.setCell ⟨gb179, 0, none⟩ (.slice Ao63 y176.length co63)).setCell ⟨gb179, 1, none⟩ (.int .i64 a1_1)) w0.heap.size (fun k_ => (P1_0_ k_ ∨ w.heap.size ≤ k_) ∧ some k_ ≠ (v174 : Value).ownBlock ∧ some k_ ≠ (.slice Ao63 y176.length co63 : Value).ownBlock) (.slice Ao19 l1_0.length co19) l1_0) := ⟨by (with_reducible repeat first | apply ra_ | apply rn_ | apply rw_); exact Kd.R_mono (Kd.R_far (p := ⟨gb179, 1, none⟩) (Kd.R_far (p := ⟨gb179, 0, none⟩) (Kd.R_types HO_159000.out BK179.out (by decide)) (fun _ hk => hk.2) (.slice Ao63 y176.length co63)) (fun _ hk => hk.2) (.int .i64 a1_1)) (fun _ hk => ⟨hk.1.1, ⟨hk.1.2.1, hk.1.2.2⟩⟩)⟩
          have n1_ : Aside0 (Kd.R (Kd.int .i64) 3 ((w62.setCell ⟨gb179, 0, none⟩ (.slice Ao63 y176.length co63)).setCell ⟨gb179, 1, none⟩ (.int .i64 a1_1)) w0.heap.size (fun k_ => (P1_0_ k_ ∨ w.heap.size ≤ k_) ∧ some k_ ≠ (.slice Ao19 l1_0.length co19 : Value).ownBlock ∧ some k_ ≠ (.slice Ao63 y176.length co63 : Value).ownBlock) v174 y173) := ⟨by (with_reducible repeat first | apply ra_ | apply rn_ | apply rw_); exact Kd.R_mono (Kd.R_far (p := ⟨gb179, 1, none⟩) (Kd.R_far (p := ⟨gb179, 0, none⟩) (Kd.R_types HO175.out BK179.out (by decide)) (fun _ hk => hk.2) (.slice Ao63 y176.length co63)) (fun _ hk => hk.2) (.int .i64 a1_1)) (fun _ hk => ⟨hk.1.1, ⟨hk.1.2.2, hk.1.2.1⟩⟩)⟩
          have n2_ : Aside0 (Kd.R (Kd.int .i64) 3 ((w62.setCell ⟨gb179, 0, none⟩ (.slice Ao63 y176.length co63)).setCell ⟨gb179, 1, none⟩ (.int .i64 a1_1)) w0.heap.size (fun k_ => (P1_0_ k_ ∨ w.heap.size ≤ k_) ∧ some k_ ≠ (.slice Ao19 l1_0.length co19 : Value).ownBlock ∧ some k_ ≠ (v174 : Value).ownBlock) (.slice Ao63 y176.length co63) y176) := ⟨by (with_reducible repeat first | apply ra_ | apply rn_ | apply rw_); exact Kd.R_mono (Kd.R_far (p := ⟨gb179, 1, none⟩) (Kd.R_far (p := ⟨gb179, 0, none⟩) (Kd.R_types HO178.out BK179.out (by decide)) (fun _ hk => hk.2) (.slice Ao63 y176.length co63)) (fun _ hk => hk.2) (.int .i64 a1_1)) (fun _ hk => ⟨hk.1.1, ⟨hk.1.2.2, hk.1.2.1⟩⟩)⟩
          have n3_ : Aside0 (((w62.setCell ⟨gb179, 0, none⟩ (.slice Ao63 y176.length co63)).setCell ⟨gb179, 1, none⟩ (.int .i64 a1_1)).heap[gb158]? = some (.cells #[.slice Ao19 l1_0.length co19, .int .i64 a1_1] 31 (0, 0))) := ⟨by (with_reducible repeat (first | refine blk_drewN ?_ _ | refine blk_drew ?_ | refine blk_alloc ?_ _)); refine blk_far ?_ NB158_179.out _; (with_reducible repeat (first | refine blk_drewN ?_ _ | refine blk_drew ?_ | refine blk_alloc ?_ _)); refine blk_far ?_ NB158_179.out _; (with_reducible repeat (first | refine blk_drewN ?_ _ | refine blk_drew ?_ | refine blk_alloc ?_ _)); exact BK158.out⟩
          have n4_ : Aside0 (((w62.setCell ⟨gb179, 0, none⟩ (.slice Ao63 y176.length co63)).setCell ⟨gb179, 1, none⟩ (.int .i64 a1_1)).heap[gb179]? = some (.cells #[.slice Ao63 y176.length co63, .int .i64 a1_1] 31 (0, 0))) := ⟨by (with_reducible repeat (first | refine blk_drewN ?_ _ | refine blk_drew ?_ | refine blk_alloc ?_ _)); refine blk_put (cs := #[.slice Ao63 y176.length co63, .int .i64 0]) ?_ 1 _ rfl; (with_reducible repeat (first | refine blk_drewN ?_ _ | refine blk_drew ?_ | refine blk_alloc ?_ _)); refine blk_put (cs := #[.slice none 0 0, .int .i64 0]) ?_ 0 _ rfl; (with_reducible repeat (first | refine blk_drewN ?_ _ | refine blk_drew ?_ | refine blk_alloc ?_ _)); exact BK179.out⟩
          have n5_ : Aside0 (Kept w ((w62.setCell ⟨gb179, 0, none⟩ (.slice Ao63 y176.length co63)).setCell ⟨gb179, 1, none⟩ (.int .i64 a1_1)) (fun k_ => P1_0_ k_)) := ⟨by repeat (first | (with_reducible first | exact HK.out | apply Kept.alloc | apply Kept.drewN | apply Kept.drew | refine Kept.setCell ?_ (.inr GW158.out) _ | refine Kept.setCell ?_ (.inr GW179.out) _) | exact HK.out)⟩
          have n6_ : Aside0 (Below w0.heap.size w0 ((w62.setCell ⟨gb179, 0, none⟩ (.slice Ao63 y176.length co63)).setCell ⟨gb179, 1, none⟩ (.int .i64 a1_1))) := ⟨by repeat (first | (with_reducible first | exact HB.out | apply below_alloc | apply pw_below_drewN | apply below_drew1 | refine below_set ?_ GE158.out | refine below_set ?_ GE179.out) | exact HB.out)⟩
          (try clear HO_159000)
          (try clear HO175)
          (try clear HO178)
          (try clear BK158)
          (try clear BK179)
          (try clear HK)
          (try clear HB)
          generalize ((w62.setCell ⟨gb179, 0, none⟩ (.slice Ao63 y176.length co63)).setCell ⟨gb179, 1, none⟩ (.int .i64 a1_1)) = w66 at n0_ n1_ n2_ n3_ n4_ n5_ n6_ ⊢
          have HO_159000 := n0_
          have HO175 := n1_
          have HO178 := n2_
          have BK158 := n3_
          have BK179 := n4_
          have HK := n5_
          have HB := n6_
          clear n0_ n1_ n2_ n3_ n4_ n5_ n6_
          have hnb67 := NB179_158.out
          have hnc67 := NB158_179.out
          have hcz68_0 : w66.cell? ⟨gb179, 0, none⟩ = some (.slice Ao63 y176.length co63) := (blk_cell BK179.out 0).trans rfl
          have hcz68_1 : w66.cell? ⟨gb179, 1, none⟩ = some (.int .i64 a1_1) := (blk_cell BK179.out 1).trans rfl
          have hfz68_0 := blk_frozen BK179.out 0
          have hfz68_1 := blk_frozen BK179.out 1
          try go_wp2_with (first | ((with_reducible refine gate_callee (f := 10) rfl ?_); refine goesL_ (some 70) rfl rfl Try.func10 (by kernel_rfl) rfl #[.int .i64 (wrap64 (a0 - 1)), .agg #[.slice Ao63 y176.length co63, .int .i64 a1_1]] rfl (by (try simp only [List.map_toArray, List.map_cons, List.map_nil]); first | done | rfl | (simp only [List.length_drop, List.length_take]; rfl)) ?_; (with_reducible refine (ih kj22 (by have := HK1.out; have := HJ22.out; omega) (wrap64 (a0 - 1)) (fun k_ => some k_ = (.slice Ao63 y176.length co63 : Value).ownBlock) (.slice Ao63 y176.length co63) y176 a1_1 t180 false w0 _ ?side1 ?side2 A36.out).mono ?_); (case side1 => repeat (first | (with_reducible first | exact HB.out | apply below_alloc | apply pw_below_drewN | apply below_drew1 | refine below_set ?_ GE158.out | refine below_set ?_ GE179.out) | exact HB.out)); (case side2 => exact Kd.R_tight rfl HO178.out); rintro e w69 ⟨v181, rfl, ho0, hb, hkp⟩; refine ⟨_, rfl, ?_⟩; have n0_ := Aside0.mk (Kd.R_mono (ok' := fun k_ => (P1_0_ k_ ∨ w.heap.size ≤ k_) ∧ some k_ ≠ (v174 : Value).ownBlock ∧ some k_ ≠ (v181 : Value).ownBlock) (Kd.R_keptB (HO_159000.out) hkp (fun k_ hk_ hs_ => (hk_.2.2) hs_)) (fun k_ hk_ => ⟨hk_.1.1, hk_.1.2.1, fun e_ => Or.elim (ho0.1 k_ e_.symm) (fun hs_ => hk_.2.1 hs_) (fun hn_ => Nat.not_le.2 hk_.2.2 hn_)⟩)); have n1_ := Aside0.mk (blk_kept (by (with_reducible repeat (first | refine blk_drewN ?_ _ | refine blk_drew ?_ | refine blk_alloc ?_ _)); exact BK158.out) hkp (fun hs_ => (fun e_ => (Kd.R_ne HO178.out BK158.out (by decide)) e_) hs_)); have n2_ := Aside0.mk (Kd.R_mono (ok' := fun k_ => (P1_0_ k_ ∨ w.heap.size ≤ k_) ∧ some k_ ≠ (.slice Ao19 l1_0.length co19 : Value).ownBlock ∧ some k_ ≠ (v181 : Value).ownBlock) (Kd.R_keptB (HO175.out) hkp (fun k_ hk_ hs_ => (hk_.2.2) hs_)) (fun k_ hk_ => ⟨hk_.1.1, hk_.1.2.1, fun e_ => Or.elim (ho0.1 k_ e_.symm) (fun hs_ => hk_.2.1 hs_) (fun hn_ => Nat.not_le.2 hk_.2.2 hn_)⟩)); have n3_ := Aside0.mk (blk_kept (by (with_reducible repeat (first | refine blk_drewN ?_ _ | refine blk_drew ?_ | refine blk_alloc ?_ _)); exact BK179.out) hkp (fun hs_ => (fun e_ => (Kd.R_ne HO178.out BK179.out (by decide)) e_) hs_)); have n4_ := Aside0.mk (Kd.R_mono (ok' := fun k_ => (P1_0_ k_ ∨ w.heap.size ≤ k_) ∧ some k_ ≠ (.slice Ao19 l1_0.length co19 : Value).ownBlock ∧ some k_ ≠ (v174 : Value).ownBlock) ho0 (fun k_ hk_ => ⟨Or.elim hk_ (fun hs_ => (HO178.out.1 k_ (hs_).symm).1) (fun hn_ => (.inr (Nat.le_trans (by first | exact HK.out.1 | exact (show Kept w _ (fun k_ => P1_0_ k_) from by repeat (first | (with_reducible first | exact HK.out | apply Kept.alloc | apply Kept.drewN | apply Kept.drew | refine Kept.setCell ?_ (.inr GW158.out) _ | refine Kept.setCell ?_ (.inr GW179.out) _) | exact HK.out)).1) hn_))), Or.elim hk_ (fun hs_ => fun e_ => (((HO_159000.out).1 k_ e_.symm).2.2) hs_) (fun hn_ => (Kd.fresh' (Kd.R_lt (by (with_reducible repeat first | apply ra_ | apply rn_ | apply rw_); exact HO_159000.out)) k_ hn_)), Or.elim hk_ (fun hs_ => fun e_ => (((HO175.out).1 k_ e_.symm).2.2) hs_) (fun hn_ => (Kd.fresh' (Kd.R_lt (by (with_reducible repeat first | apply ra_ | apply rn_ | apply rw_); exact HO175.out)) k_ hn_))⟩)); have n5_ := Aside0.mk (Kept.then_ (S := (fun k_ => P1_0_ k_)) (by repeat (first | (with_reducible first | exact HK.out | apply Kept.alloc | apply Kept.drewN | apply Kept.drew | refine Kept.setCell ?_ (.inr GW158.out) _ | refine Kept.setCell ?_ (.inr GW179.out) _) | exact HK.out)) hkp (fun k_ hs_ => (fun e_ => (HO178.out.1 k_ e_.symm).1) hs_)); have n6_ := Aside0.mk (hb); clear HO_159000; clear BK158; clear HO175; clear BK179; clear HK; clear HB; clear HO178; have HO_159000 := n0_; have BK158 := n1_; have HO175 := n2_; have BK179 := n3_; have HO182 := n4_; have HK := n5_; have HB := n6_; clear n0_ n1_ n2_ n3_ n4_ n5_ n6_; (try clear hb); (try clear hkp); (try clear ho0)))
          go_roundg kj22
          case measure => have := HK1.out; have := HJ22.out; omega
          case rel => exact ⟨(wrap64 (x6_1 + 1)), (by first | rfl | (simp; done) | (simp [*]; done)), H', ⟨by have := HK1.out; have := HJ22.out; omega⟩, ⟨by (with_reducible repeat first | apply ra_ | apply rn_ | apply rw_); exact Kd.R_mono HO_159000.out (fun _ hk => hk.1)⟩, ⟨by (with_reducible repeat (first | refine blk_drewN ?_ _ | refine blk_drew ?_ | refine blk_alloc ?_ _)); exact BK158.out⟩, ⟨by repeat (first | (with_reducible first | exact HK.out | apply Kept.alloc | apply Kept.drewN | apply Kept.drew | refine Kept.setCell ?_ (.inr GW158.out) _ | refine Kept.setCell ?_ (.inr GW179.out) _) | exact HK.out)⟩, ⟨by repeat (first | (with_reducible first | exact HB.out | apply below_alloc | apply pw_below_drewN | apply below_drew1 | refine below_set ?_ GE158.out | refine below_set ?_ GE179.out) | exact HB.out)⟩⟩
        ·rw [if_neg c35] at H
         exact absurd H (by simp)
    ·rw [if_neg c21] at H
     have c21b0 : decide (x6_1 < a1_1) = false := decide_eq_false c21
     clear c21
     simp only [Option.some.injEq, Prod.mk.injEq] at H
     obtain ⟨rfl, rfl⟩ := H
     have hcz70_0 : wr.cell? ⟨gb158, 0, none⟩ = some (.slice Ao19 l1_0.length co19) := (blk_cell BK158.out 0).trans rfl
     have hcz70_1 : wr.cell? ⟨gb158, 1, none⟩ = some (.int .i64 a1_1) := (blk_cell BK158.out 1).trans rfl
     have hfz70_0 := blk_frozen BK158.out 0
     have hfz70_1 := blk_frozen BK158.out 1
     go_wp2
     go_ret2
     exact ⟨_, by first | rfl | (simp [errW_none, errW_some] <;> rfl) | (simp [*, errW_none, errW_some] <;> rfl), by first | exact Kd.R_nil _ _ _ _ _ | exact Kd.N_nil _ _ _ _ _ | exact Kd.V_nil _ _ _ _ _ | exact Kd.Q_nil _ _ _ _ _ | exact Kd.S_nil _ _ _ _ _, by repeat (first | (with_reducible first | exact HB.out | apply below_alloc | apply pw_below_drewN | apply below_drew1 | refine below_set ?_ GE158.out) | exact HB.out), by repeat (first | (with_reducible first | exact HK.out | apply Kept.alloc | apply Kept.drewN | apply Kept.drew | refine Kept.setCell ?_ (.inr GW158.out) _) | exact HK.out)⟩

end Go.Proofs.Ytkbbmkbkpkmdkac.QFnExactBestWeights
