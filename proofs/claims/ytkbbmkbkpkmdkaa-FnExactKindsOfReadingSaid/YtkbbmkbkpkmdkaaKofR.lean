/- The contract of impl.KindsOfReading: the letters of the kinds, of which it asks impl.isOf one by one. No condition beyond the told function's own answer. -/
import Derived.Test.YtkbbmkbkpkmdkaaQA1x1
import Derived.Test.YtkbbmkbkpkmdkaaQA2x1
import Derived.Lib.SlBytesConst
namespace Go.Proofs.Ytkbbmkbkpkmdkaa.Ext
set_option linter.unusedVariables false
set_option linter.unusedSimpArgs false
open Go.RowKit Go.Shelf Go.Lib Go.Proofs.YtkbbmkbkpkmdkaaW.PrintWords Go.Proofs.YtkbbmkbkpkmdkaaW.PrintLast
/-- A row of bytes that stands in one block. -/
def CRow (w : World) (g : Nat) (xs : List Int) : Prop := g < w.heap.size ∧ ∀ j x, xs[j]? = some x → w.cell? ⟨g, j, none⟩ = some (.int .u8 x)
theorem CRow.drewN {w : World} {g : Nat} {xs : List Int} (h : CRow w g xs) (n : Nat) : CRow (w.drewN n) g xs := h
theorem CRow.keep {w w' : World} {g : Nat} {xs : List Int} (h : CRow w g xs) (hs : w.heap.size ≤ w'.heap.size) (hb : w'.heap[g]? = w.heap[g]?) : CRow w' g xs := by
  refine ⟨Nat.lt_of_lt_of_le h.1 hs, fun j x hx => ?_⟩
  have := h.2 j x hx
  simp only [World.cell?, hb] at this ⊢
  exact this
def kindsL (kofF : Int → Option Bool) : List Int → List Int → Option (ByteArray × Bool)
  | [], acc => some (strOfNums acc, true)
  | c :: rest, acc => (kofF c).bind fun t => if t = true then kindsL kofF rest (acc ++ [c]) else kindsL kofF rest acc
theorem kindsL.mono_l {f g : Int → Option Bool} (h : ∀ c, LeO (f c) (g c)) : ∀ l acc, LeO (kindsL f l acc) (kindsL g l acc)
  | [], _ => LeO.refl _
  | c :: rest, acc => by
    unfold kindsL
    exact LeO.bind (h c) (fun _ => LeO.ite (kindsL.mono_l h rest _) (kindsL.mono_l h rest _))
def kinds6 : List Int := [97, 109, 117, 114, 102, 100]
def impl_KindsOfReading.f (k : Nat) (a0 : ByteArray) : Option (ByteArray × Bool) := (Go.Proofs.Ytkbbmkbkpkmdkaa.QA2.impl_IsReading.f k a0).bind fun t => if t = true then kindsL (fun c => Go.Proofs.Ytkbbmkbkpkmdkaa.QA1.impl_isOf.f k c a0) kinds6 [] else some ((⟨#[]⟩ : ByteArray), false)
theorem impl_KindsOfReading.mono : ∀ a0 k, LeO (impl_KindsOfReading.f k a0) (impl_KindsOfReading.f (k + 1) a0) := by
  intro a0 k
  unfold impl_KindsOfReading.f
  exact LeO.bind (Go.Proofs.Ytkbbmkbkpkmdkaa.QA2.impl_IsReading.mono _ _) (fun _ => LeO.ite (kindsL.mono_l (fun c => Go.Proofs.Ytkbbmkbkpkmdkaa.QA1.impl_isOf.mono _ _ _) _ _) (LeO.refl _))
theorem crow_new (w : World) (t : TypeId) (f : Nat × Nat) : CRow (w.alloc (.cells #[.int .u8 97, .int .u8 109, .int .u8 117, .int .u8 114, .int .u8 102, .int .u8 100] t f)) w.heap.size kinds6 := by
  refine ⟨by simp, fun j x hx => ?_⟩
  have h1 : (w.alloc (.cells #[.int .u8 97, .int .u8 109, .int .u8 117, .int .u8 114, .int .u8 102, .int .u8 100] t f)).cell? ⟨w.heap.size, j, none⟩ = (#[.int .u8 97, .int .u8 109, .int .u8 117, .int .u8 114, .int .u8 102, .int .u8 100] : Array Value)[j]? := by
    simp only [World.cell?, World.alloc, Array.getElem?_push, if_true]
    rfl
  rw [h1]
  match j, hx with
  | 0, h | 1, h | 2, h | 3, h | 4, h | 5, h => obtain rfl := Option.some.inj h; rfl
theorem infoB_ : (Try.prog.info? 5).map (fun i => (i.zero, i.size, i.bytes)) = some (some (.int .u8 0), 1, 1) := by kernel_rfl
theorem kinds_drop {j : Nat} (h : j < 6) : ∃ c, kinds6[j]? = some c ∧ kinds6.drop j = c :: kinds6.drop (j + 1) := by
  have hl : j < kinds6.length := h
  exact ⟨kinds6[j], List.getElem?_eq_getElem hl, List.drop_eq_getElem_cons hl⟩
set_option maxHeartbeats 4000000 in
set_option maxRecDepth 100000 in
theorem impl_KindsOfReading.calls (k : Nat) (a0 : ByteArray) (r1 : ByteArray) (r2 : Bool) (w : World) (h : impl_KindsOfReading.f k a0 = some (r1, r2)) :
    Calls Try.prog 8 #[.string a0] w fun e w' => e = .returned (.tuple #[.string r1, .bool r2]) ∧ Below w.heap.size w w' := by
  have HB := Aside0.mk (Below.refl w.heap.size w)
  unfold impl_KindsOfReading.f at h
  replace h := Option.bind_eq_some_iff.mp h
  obtain ⟨t, A, H⟩ := h
  have A2 := Aside0.mk A
  clear A
  by_cases c3 : t = true
  · subst c3
    rw [if_pos rfl] at H
    have H' := Aside0.mk H
    clear H
    have kc := fun (W : World) (C : Array Value) (n c : Nat) => Go.Lib.run_convert_bytes_const (P := Try.prog) W 44 5 C n c Try.underlying44 Try.underlying5
    go_enter Try.func8, Try.ntmps8
    go_wp2_with (first | ((with_reducible refine gate_callee (f := 24) rfl ?_); refine goesL_ (some 8) rfl rfl Try.func24 (by kernel_rfl) rfl #[.string a0] rfl (by (try simp only [List.map_toArray, List.map_cons, List.map_nil]); first | done | rfl) ?_; (with_reducible refine (Go.Proofs.Ytkbbmkbkpkmdkaa.QA2.impl_IsReading.calls k a0 true _ A2.out).mono ?_); rintro e w' ⟨rfl, ⟨nd, rfl⟩⟩; refine ⟨_, rfl, ?_⟩) | ((with_reducible refine gate_dst (N := 10) rfl ?_); refine Kd.R_lit (Kd.int .u8) _ 5 ?hg (N := 10) ?hd (xs := ([] : List Int)) (inner := []) (ok := fun _ => True) (okp := fun _ => True) ?hr ?hp (fun _ hk => hk) trivial (Below.refl _ _) (Nat.le_refl _) (by simp) ?_; (case hd => rfl); (case hg => rfl); (case hr => first | (go_simp; done) | (go_simp; rfl)); (case hp => exact (Reps.none _ _)); intro v121 w4 ho5 hb hg_ hnew_; clear hg_ hnew_; have HO := Aside0.mk (Kd.R_lower ho5 (below_size (pw_below_drewN HB.out nd))); have n1_ := Aside0.mk (below_step (pw_below_drewN HB.out nd) hb); clear HB; have HB := n1_; clear n1_ hb ho5; have CR0 := Aside0.mk (crow_new w4 5 (6, 7))))
    clear kc
    obtain ⟨g, hg⟩ : ∃ g : Nat, g = w4.heap.size := ⟨_, rfl⟩
    have HG := Aside0.mk (show w4.heap.size = g from hg.symm)
    clear hg
    have HOg : Aside0 (Kd.R (Kd.int .u8) 5 w4 w.heap.size (fun k_ => k_ ≠ g) v121 []) := ⟨Kd.R_mono (Kd.R_bound HO.out) (fun k hk => by have := hk.2.2.1; have := HG.out; omega)⟩
    have CR := Aside0.mk (show CRow (w4.alloc (.cells #[.int .u8 97, .int .u8 109, .int .u8 117, .int .u8 114, .int .u8 102, .int .u8 100] 5 (6, 7))) g kinds6 by rw [← HG.out]; exact CR0.out)
    clear CR0 HO
    try rw [HG.out]
    go_loopg [4, 14] 6 (fun kq v4 v14 w' => ∃ (acc : List Int) (j : Nat), v14 = .int .i64 (j : Int) ∧ Aside0 (j + kq = 6) ∧ Aside0 (acc.length ≤ j) ∧ Aside0 (kindsL (fun c => Go.Proofs.Ytkbbmkbkpkmdkaa.QA1.impl_isOf.f k c a0) (kinds6.drop j) acc = some (r1, r2)) ∧ Aside0 (Kd.R (Kd.int .u8) 5 w' w.heap.size (fun k_ => k_ ≠ g) v4 acc) ∧ Aside0 (CRow w' g kinds6) ∧ Aside0 (Below w.heap.size w w'))
    case atStart => exact ⟨[], 0, rfl, ⟨rfl⟩, ⟨Nat.le_refl _⟩, H', ⟨Kd.R_alloc HOg.out _⟩, CR, ⟨below_alloc HB.out _⟩⟩
    case round =>
      clear H' CR HOg HB HG
      obtain ⟨acc, j, rfl, hj, HL, HA, HO, CR, HB⟩ := hrel
      have H := HA.out
      clear HA
      cases gk with
      | zero =>
        have hjn : j = 6 := by have := hj.out; omega
        subst hjn
        rw [show kinds6.drop 6 = [] from rfl, kindsL] at H
        simp only [Option.some.injEq, Prod.mk.injEq] at H
        obtain ⟨rfl, rfl⟩ := H
        have hcv16 := own_string (P := Try.prog) Try.underlying44 Try.underlying5 Try.underlying9 (Kd.own_of_R HO.out)
        go_wp2
        go_ret2
        exact ⟨by first | rfl | (simp [errW_none, errW_some] <;> rfl) | (simp [*, errW_none, errW_some] <;> rfl), HB.out⟩
      | succ k1 =>
        have hj6 : j < 6 := by have := hj.out; omega
        obtain ⟨c, hc, hd⟩ := kinds_drop hj6
        rw [hd, kindsL] at H
        have cb : decide ((j : Int) < 6) = true := decide_eq_true (by omega)
        have hx := CR.out.2 j c hc
        have p0 : (0 ≤ (j : Int)) = True := eq_true (by omega)
        have q0 : ((j : Int) < 6) = True := eq_true (by omega)
        have hw1 : wrap64 ((j : Int) + 1) = ((j + 1 : Nat) : Int) := by unfold wrap64; omega
        clear hd hc
        replace H := Option.bind_eq_some_iff.mp H
        obtain ⟨t127, A120, H⟩ := H
        have A12 := Aside0.mk A120
        clear A120
        cases t127 with
        | true =>
          rw [if_pos rfl] at H
          have H' := Aside0.mk H
          clear H
          go_wp2_with (first | ((with_reducible refine gate_callee (f := 25) rfl ?_); refine goesL_ (some 20) rfl rfl Try.func25 (by kernel_rfl) rfl #[.int .u8 c, .string a0] rfl (by (try simp only [List.map_toArray, List.map_cons, List.map_nil]); first | done | rfl) ?_; (with_reducible refine (Go.Proofs.Ytkbbmkbkpkmdkaa.QA1.impl_isOf.calls k c a0 true _ A12.out).mono ?_); rintro e w' ⟨rfl, ⟨nd, rfl⟩⟩; refine ⟨_, rfl, ?_⟩) | ((with_reducible refine gate_builtin (b := .append) (xs := #[.tmp 21, .tmp 23]) rfl ?_); at_builtin; refine Kd.R_append (Kd.int .u8) (w0 := w) w.heap.size rfl (.tmp 21) (.tmp 23) 44 5 (.int .u8 0) 1 rfl Try.underlying44 infoB_ rfl (by decide) (by omega) u4 acc c [.int .u8 c] (fun k_ => k_ ≠ g) (fun _ => False) rfl rfl ?aP (fun _ hk => hk.elim) ?aF ?aO ?aB ?aS ?aL ?_; (case aP => exact rfl); (case aB => exact (pw_below_drewN HB.out nd)); (case aF => exact (fun k_ hk => Nat.ne_of_gt (Nat.lt_of_lt_of_le CR.out.1 hk))); (case aO => exact Kd.R_drewN HO.out nd); (case aS => exact (below_size (pw_below_drewN HB.out nd))); (case aL => have := HL.out; have := hj.out; omega); intro v129 w15 ho hb hg hat; have n0_ := Aside0.mk (CRow.keep (CR.out.drewN nd) hg.size (hg.block g CR.out.1 (Kd.R_away HO.out (fun _ hk => hk)))); clear CR HO HB; have CR := n0_; have HO := Aside0.mk ho; have HB := Aside0.mk hb; clear n0_ ho hb hg hat))
          go_roundg k1
          case measure => have := hj.out; omega
          case rel => exact ⟨acc ++ [c], j + 1, (by first | rfl | (rw [hw1]) | (simp [hw1])), ⟨by have := hj.out; omega⟩, ⟨by have := HL.out; rw [List.length_append, List.length_singleton]; omega⟩, H', HO, CR, HB⟩
        | false =>
          rw [if_neg (by decide)] at H
          have H' := Aside0.mk H
          clear H
          go_wp2_with (first | ((with_reducible refine gate_callee (f := 25) rfl ?_); refine goesL_ (some 20) rfl rfl Try.func25 (by kernel_rfl) rfl #[.int .u8 c, .string a0] rfl (by (try simp only [List.map_toArray, List.map_cons, List.map_nil]); first | done | rfl) ?_; (with_reducible refine (Go.Proofs.Ytkbbmkbkpkmdkaa.QA1.impl_isOf.calls k c a0 false _ A12.out).mono ?_); rintro e w' ⟨rfl, ⟨nd, rfl⟩⟩; refine ⟨_, rfl, ?_⟩))
          go_roundg k1
          case measure => have := hj.out; omega
          case rel => exact ⟨acc, j + 1, (by first | rfl | (rw [hw1]) | (simp [hw1])), ⟨by have := hj.out; omega⟩, ⟨by have := HL.out; omega⟩, H', ⟨Kd.R_drewN HO.out nd⟩, ⟨CR.out.drewN nd⟩, ⟨pw_below_drewN HB.out nd⟩⟩
  · replace c3 := Bool.eq_false_iff.mpr c3
    subst c3
    rw [if_neg (by decide)] at H
    simp only [Option.some.injEq, Prod.mk.injEq] at H
    obtain ⟨rfl, rfl⟩ := H
    go_enter Try.func8, Try.ntmps8
    go_wp2_with (first | ((with_reducible refine gate_callee (f := 24) rfl ?_); refine goesL_ (some 8) rfl rfl Try.func24 (by kernel_rfl) rfl #[.string a0] rfl (by (try simp only [List.map_toArray, List.map_cons, List.map_nil]); first | done | rfl) ?_; (with_reducible refine (Go.Proofs.Ytkbbmkbkpkmdkaa.QA2.impl_IsReading.calls k a0 false _ A2.out).mono ?_); rintro e w' ⟨rfl, ⟨nd, rfl⟩⟩; refine ⟨_, rfl, ?_⟩))
    go_ret2
    exact ⟨by first | rfl | (simp [errW_none, errW_some] <;> rfl), pw_below_drewN HB.out nd⟩
end Go.Proofs.Ytkbbmkbkpkmdkaa.Ext
