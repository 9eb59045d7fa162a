/- The contracts of slices.Clone over whole numbers and of the closure of impl.BestWeights that goes on with weights. Conditions: those that each theorem bears. (Types and functions by their numbers at this seat.) -/
import Derived.Test.YtkbbmkbkpkmdkacQA1x4
namespace Go.Proofs.Ytkbbmkbkpkmdkac.Ext
set_option linter.unusedVariables false
set_option linter.unusedSimpArgs false
open Go.RowKit Go.Lib Go.Proofs.YtkbbmkbkpkmdkacW.PrintWords Go.Proofs.YtkbbmkbkpkmdkacW.PrintLast Go.Proofs.YtkbbmkbkpkmdkacW.PrintMore Go.Proofs.Ytkbbmkbkpkmdkac.QA1
open List (setIfInBounds_toArray set_cons_zero set_cons_succ)
open Kd (R_alloc R_drewN R_drew)
theorem info3_ : (Try.prog.info? 3).map (fun i => (i.zero, i.size, i.bytes)) = some (some (.int .i64 0), 1, 8) := by kernel_rfl
theorem eq_nil (w : World) (n c n' c' : Nat) : (binOp .eql 22 (.slice none n c) (.slice none n' c')).run Try.prog w = .ok (.bool true) w := rfl
theorem eq_some (w : World) (a : Addr) (n c n' c' : Nat) : (binOp .eql 22 (.slice (some a) n c) (.slice none n' c')).run Try.prog w = .ok (.bool false) w := rfl
theorem ne_nil (w : World) (n c n' c' : Nat) : (binOp .neq 22 (.slice none n c) (.slice none n' c')).run Try.prog w = .ok (.bool false) w := rfl
theorem ne_some (w : World) (a : Addr) (n c n' c' : Nat) : (binOp .neq 22 (.slice (some a) n c) (.slice none n' c')).run Try.prog w = .ok (.bool true) w := rfl
set_option maxHeartbeats 4000000 in
set_option maxRecDepth 100000 in
theorem clone_calls (A0 : Option Addr) (c0 : Nat) (l0 : List Int) (w : World) (hr0 : Kd.C (Kd.int .i64) w A0 l0.length l0) (hc0 : l0.length ≤ c0) (hs : l0.length < 1000) (hn : l0 = [] → A0 = none ∧ c0 = 0) :
  Calls Try.prog 14 #[.slice A0 l0.length c0] w fun e w' => ∃ v0_ : Value, e = .returned (v0_) ∧ Kd.R (Kd.int .i64) 3 w' w.heap.size (fun _ => True) v0_ l0 ∧ Below w.heap.size w w' := by
 have HR0 := Aside0.mk hr0
 have HC0 := Aside0.mk hc0
 have HB := Aside0.mk (Below.refl w.heap.size w)
 have q1 := eq_nil
 have q2 := eq_some
 by_cases he : l0 = []
 ·obtain ⟨rfl, rfl⟩ := hn he
  subst he
  clear hr0 hc0 hn
  go_enter Try.func14, Try.ntmps14
  go_wp2
  go_ret
  exact ⟨_, rfl, Kd.R_nil _ _ _ _ _, Below.refl _ _⟩
 ·obtain ⟨a0, rfl⟩ : ∃ a, A0 = some a := by
   obtain ⟨ad, e, _⟩ := Kd.at_int hr0 0 (Int.le_refl _) (by have := List.length_pos_iff.2 he; omega)
   exact ⟨ad, e⟩
  clear hr0 hc0 hn
  go_enter Try.func14, Try.ntmps14
  go_wp2_with (first | ((with_reducible refine gate_dst (N := 5) rfl ?_); refine Kd.R_lit (Kd.int .i64) _ 3 ?hg (N := 5) ?hd (xs := ([] : List Int)) (inner := []) (ok := fun _ => True) (okp := fun _ => True) ?hr ?hp (fun _ hk => hk) trivial (Below.refl _ _) (Nat.le_refl _) (by simp) ?_; (case hd => rfl); (case hg => rfl); (case hr => first | (go_simp; done) | (go_simp; rfl)); (case hp => exact (Reps.none _ _)); intro v153 w3 ho4 hb hg_ hnew_; clear hg_ hnew_; have n0_ := Aside0.mk (Kd.R_lower ho4 (below_size HB.out)); have n1_ := Aside0.mk (below_step HB.out hb); clear HB; have HO154 := n0_; have HB := n1_; clear n0_ n1_; clear hb ho4) | ((with_reducible refine gate_builtin (b := .append) (xs := #[.tmp 5, .tmp 6]) rfl ?_); at_builtin; refine Kd.R_append_rows (Kd.int .i64) (w0 := w) w.heap.size rfl (.tmp 5) (.tmp 6) 22 3 (.int .i64 0) 8 rfl Try.underlying22 info3_ rfl (by decide) (by omega) v153 [] l0 _ _ _ (fun _ => True) (fun _ => False) rfl rfl ?aO ?aR (fun _ _ h => h) (fun _ h => h.elim) ?aF ?aB ?aS ?aL ?_; (case aR => exact (Kd.C_below HR0.out HB.out)); (case aB => exact HB.out); (case aF => exact (fun _ _ => trivial)); (case aO => exact HO154.out); (case aS => exact (below_size HB.out)); (case aL => simp only [List.length_nil]; omega); intro v156 w5 ho hb hg hat; have n0_ := Aside0.mk (hb); have n1_ := Aside0.mk (ho); clear HB; clear HO154; have HB := n0_; have HO157 := n1_; clear n0_ n1_; clear ho hb hg hat))
  go_ret
  exact ⟨_, rfl, HO157.out, HB.out⟩
def leafF (k : Nat) (M : Int) (l : List Int) : Option (Option (List Int)) :=
 (impl_Check_allUntold.f k l M false).bind fun t => if t.length = 0 then (impl_Check_allUntold.f k l M true).bind fun t2 => if t2.length = 0 then some (some l) else some none else some none
mutual
def findF : Nat → Int → Int → List Int → List Int → Option (Option (List Int))
 | 0, _, _, _, _ => none
 | k + 1, P, M, good, l => if l.length < 100 then (if (l.length : Int) = P then leafF k M l else loopF k P M good l 0) else none
def loopF : Nat → Int → Int → List Int → List Int → Nat → Option (Option (List Int))
 | 0, _, _, _, _, _ => none
 | k + 1, P, M, good, l, j => if j < good.length then ((findF k P M good (l ++ [rd good (j : Int)])).bind fun r => match r with | some l' => some (some l') | none => loopF k P M good l (j + 1)) else some none
end
/-- The captured variables. -/
structure CapS (W : World) (bP bM bG bF : Nat) (P M : Int) (A : Option Addr) (c : Nat) (good : List Int) : Prop where
 hP : W.heap[bP]? = some (.cells #[.int .i64 P] 3 (0, 0))
 hM : W.heap[bM]? = some (.cells #[.int .i64 M] 3 (0, 0))
 hG : W.heap[bG]? = some (.cells #[.slice A good.length c] 22 (0, 0))
 hF : W.heap[bF]? = some (.cells #[.func (.func 12) #[] #[.pointer (some ⟨bP, 0, none⟩), .pointer (some ⟨bM, 0, none⟩), .pointer (some ⟨bG, 0, none⟩), .pointer (some ⟨bF, 0, none⟩)]] 32 (0, 0))
 hC : Kd.C (Kd.int .i64) W A good.length good
theorem CapS.below {W W2 : World} {bP bM bG bF c : Nat} {P M : Int} {A : Option Addr} {good : List Int} (h : CapS W bP bM bG bF P M A c good) (hb : Below W.heap.size W W2) : CapS W2 bP bM bG bF P M A c good :=
 ⟨blk_below h.hP hb, blk_below h.hM hb, blk_below h.hG hb, blk_below h.hF hb, Kd.C_below h.hC hb⟩
theorem wnext (j : Nat) (h : j ≤ 1000) : wrap64 ((j : Int) + 1) = ((j + 1 : Nat) : Int) := by unfold wrap64; omega
def resR (base : Nat) (w' : World) (v : Value) : Option (List Int) → Prop
 | none => v = .slice none 0 0
 | some l => l ≠ [] ∧ Kd.R (Kd.int .i64) 3 w' base (fun _ => True) v l
set_option maxHeartbeats 8000000 in
set_option maxRecDepth 100000 in
theorem find_calls : ∀ (k : Nat) (P M : Int) (good l : List Int) (r : Option (List Int)) (base : Nat) (u : Value) (bP bM bG bF c : Nat) (A : Option Addr) (w : World), good.length ≤ 1000 → 1 ≤ P → base ≤ w.heap.size → CapS w bP bM bG bF P M A c good →
  Kd.R (Kd.int .i64) 3 w base (fun _ => True) u l → (l = [] → u = .slice none 0 0) → findF k P M good l = some r →
  Calls Try.prog 12 #[u, .pointer (some ⟨bP, 0, none⟩), .pointer (some ⟨bM, 0, none⟩), .pointer (some ⟨bG, 0, none⟩), .pointer (some ⟨bF, 0, none⟩)] w fun e w' => ∃ v0, e = .returned v0 ∧ Below w.heap.size w w' ∧ resR base w' v0 r := by
 intro k
 induction k using Nat.strongRecOn with
 | ind k ih =>
  intro P M good l r base u bP bM bG bF c A w hg1000 hP1 hbase hC ho hu h
  cases k with
  | zero => cases h
  | succ k =>
   rw [findF] at h
   split at h
   case isFalse => cases h
   rename_i hl100
   obtain ⟨A0, c0, rfl⟩ := Kd.R_slice ho
   have hr := (Kd.R_reads' ho).2.2
   have hc0 := (Kd.R_reads' ho).2.1
   have h1 : w.cell? ⟨bP, 0, none⟩ = some (.int .i64 P) := by rw [blk_cell hC.hP]; rfl
   have h2 : w.cell? ⟨bM, 0, none⟩ = some (.int .i64 M) := by rw [blk_cell hC.hM]; rfl
   have h3 : w.cell? ⟨bG, 0, none⟩ = some (.slice A good.length c) := by rw [blk_cell hC.hG]; rfl
   have HCP := Lib.hid hC
   have HO := Lib.hid ho
   have HR := Lib.hid hr
   have HC0 := Lib.hid hc0
   have HU := Lib.hid hu
   have IH := Lib.hid ih
   clear hC ho hr hc0 hu ih
   by_cases hP : (l.length : Int) = P
   ·rw [if_pos hP] at h
    have hP' : ((l.length : Int) == P) = true := by rw [beq_iff_eq]; exact hP
    have HP := Lib.hid hP
    clear hP
    have HB0 := Lib.hid (show Below w.heap.size w (w.alloc (Obj.cells #[Value.slice A0 l.length c0, Value.int IntKind.i64 M] 31)) from below_alloc (Below.refl _ w) _)
    have HK0 := Lib.hid (blk_new w (Obj.cells #[Value.slice A0 l.length c0, Value.int IntKind.i64 M] 31))
    rw [leafF] at h
    obtain ⟨t, ht, h⟩ := Option.bind_eq_some_iff.1 h
    have HT := Lib.hid ht
    clear ht
    by_cases hz : t.length = 0
    ·rw [if_pos hz] at h
     have z1 : ((t.length : Int) == 0) = true := by rw [beq_iff_eq]; omega
     obtain ⟨t2, ht2, h⟩ := Option.bind_eq_some_iff.1 h
     have HT2 := Lib.hid ht2
     clear ht2 hz
     by_cases hz2 : t2.length = 0
     ·rw [if_pos hz2] at h
      obtain rfl := Option.some.inj h
      have z2 : ((t2.length : Int) == 0) = true := by rw [beq_iff_eq]; omega
      clear h hz2
      go_enter Try.func12, Try.ntmps12
      go_wp2_with (first | (go_at_call 13; refine (impl_Check_allUntold.calls k A0 c0 l M false t _ (Kd.C_below HR.out HB0.out) HC0.out HT.out).mono ?_; rintro e w2 ⟨v2, rfl, hS, hb⟩; obtain ⟨A2, c2, rfl⟩ := Kd.S_slice hS; have HB2 := Lib.hid (below_step HB0.out hb); have hk0 := blk_below HK0.out hb; have hk1 : w2.cell? ⟨w.heap.size, 0, none⟩ = some (.slice A0 l.length c0) := (by rw [blk_cell hk0]; rfl); have hk2 : w2.cell? ⟨w.heap.size, 1, none⟩ = some (.int .i64 M) := (by rw [blk_cell hk0]; rfl); clear hS hb hk0 HT) | (go_at_call 13; refine (impl_Check_allUntold.calls k A0 c0 l M true t2 _ (Kd.C_below HR.out HB2.out) HC0.out HT2.out).mono ?_; rintro e w3 ⟨v3, rfl, hS, hb⟩; obtain ⟨A3, c3, rfl⟩ := Kd.S_slice hS; have HB3 := Lib.hid (below_step HB2.out hb); clear hS hb HT2))
      go_ret
      exact ⟨_, rfl, HB3.out, fun e => by have := HP.out; rw [e] at this; simp at this; omega, Kd.R_below HO.out HB3.out⟩
     ·rw [if_neg hz2] at h
      obtain rfl := Option.some.inj h
      have z2 : ((t2.length : Int) == 0) = false := by rw [beq_eq_false_iff_ne]; omega
      clear h hz2
      go_enter Try.func12, Try.ntmps12
      go_wp2_with (first | (go_at_call 13; refine (impl_Check_allUntold.calls k A0 c0 l M false t _ (Kd.C_below HR.out HB0.out) HC0.out HT.out).mono ?_; rintro e w2 ⟨v2, rfl, hS, hb⟩; obtain ⟨A2, c2, rfl⟩ := Kd.S_slice hS; have HB2 := Lib.hid (below_step HB0.out hb); have hk0 := blk_below HK0.out hb; have hk1 : w2.cell? ⟨w.heap.size, 0, none⟩ = some (.slice A0 l.length c0) := (by rw [blk_cell hk0]; rfl); have hk2 : w2.cell? ⟨w.heap.size, 1, none⟩ = some (.int .i64 M) := (by rw [blk_cell hk0]; rfl); clear hS hb hk0 HT) | (go_at_call 13; refine (impl_Check_allUntold.calls k A0 c0 l M true t2 _ (Kd.C_below HR.out HB2.out) HC0.out HT2.out).mono ?_; rintro e w3 ⟨v3, rfl, hS, hb⟩; obtain ⟨A3, c3, rfl⟩ := Kd.S_slice hS; have HB3 := Lib.hid (below_step HB2.out hb); clear hS hb HT2))
      go_ret
      exact ⟨_, rfl, HB3.out, rfl⟩
    ·rw [if_neg hz] at h
     obtain rfl := Option.some.inj h
     have z1 : ((t.length : Int) == 0) = false := by rw [beq_eq_false_iff_ne]; omega
     clear h hz
     go_enter Try.func12, Try.ntmps12
     go_wp2_with (first | (go_at_call 13; refine (impl_Check_allUntold.calls k A0 c0 l M false t _ (Kd.C_below HR.out HB0.out) HC0.out HT.out).mono ?_; rintro e w2 ⟨v2, rfl, hS, hb⟩; obtain ⟨A2, c2, rfl⟩ := Kd.S_slice hS; have HB2 := Lib.hid (below_step HB0.out hb); have hk0 := blk_below HK0.out hb; have hk1 : w2.cell? ⟨w.heap.size, 0, none⟩ = some (.slice A0 l.length c0) := (by rw [blk_cell hk0]; rfl); have hk2 : w2.cell? ⟨w.heap.size, 1, none⟩ = some (.int .i64 M) := (by rw [blk_cell hk0]; rfl); clear hS hb hk0 HT))
     go_ret
     exact ⟨_, rfl, HB2.out, rfl⟩
   ·rw [if_neg hP] at h
    have hP' : ((l.length : Int) == P) = false := by rw [beq_eq_false_iff_ne]; exact hP
    clear hP
    have H := Lib.hid h
    clear h
    have q3 := ne_nil
    have q4 := ne_some
    have HU2 := Lib.hid (show l = [] → A0 = none ∧ c0 = 0 from fun e => by have := HU.out e; injection this with a b c; exact ⟨a, c⟩)
    go_enter Try.func12, Try.ntmps12
    go_wp2
    go_loopw [31] (fun v31 wr => ∃ (j kk : Nat), v31 = .int .i64 j ∧ j ≤ good.length ∧ kk ≤ k ∧ loopF kk P M good l j = some r ∧ Below w.heap.size w wr) (fun v31 _ => good.length - (intOf v31).toNat)
    case atStart => exact ⟨0, k, rfl, Nat.zero_le _, Nat.le_refl _, H.out, Below.refl _ _⟩
    case round =>
     obtain ⟨j, kk, rfl, hj, hkk, hloop, hb⟩ := hrel
     have HB := Lib.hid hb
     clear hb h1 h2 h3
     cases kk with
     | zero => cases hloop
     | succ kk =>
      rw [loopF] at hloop
      by_cases hlt : j < good.length
      ·rw [if_pos hlt] at hloop
       obtain ⟨r1, hf, hloop⟩ := Option.bind_eq_some_iff.1 hloop
       have HF := Lib.hid hf
       have HLOOP := Lib.hid hloop
       clear hf hloop
       have r_ : ((j : Int) < (good.length : Int)) = True := eq_true (by omega)
       have r0_ : (0 ≤ (j : Int)) = True := eq_true (by omega)
       obtain ⟨ad, rfl, hx⟩ := Kd.at_int (HCP.out.below HB.out).hC (j : Int) (by omega) (by omega)
       rw [Int.toNat_natCast] at hx
       go_wp2
       refine start_ (n := 8) (S := fun w' => w'.cell? ⟨bF, 0, none⟩ = some (.func (.func 12) #[] #[.pointer (some ⟨bP, 0, none⟩), .pointer (some ⟨bM, 0, none⟩), .pointer (some ⟨bG, 0, none⟩), .pointer (some ⟨bF, 0, none⟩)])) (ds := []) #[false, false, false, false, false, false, false, false] (by kernel_rfl) rfl rfl (by show World.cell? _ _ = _; rw [blk_cell (blk_drew (HCP.out.below HB.out).hF)]; rfl) (fun hHeld => ?_)
       have n0_ := Lib.hid (below_drew1 HB.out)
       clear HB hx
       have HB := n0_
       clear n0_
       generalize World.drew _ = wd at HB hHeld ⊢
       refine pure_ (i := 1) (N := some 36) (v := ?_) (a' := ?_) #[false, true, false, false, false, false, false, false] rfl rfl (by kernel_rfl) (fun _ _ _ h => h) (Or.inl ⟨by rfl, ?_⟩) ?_ ?_
       rotate_left
       ·intro w8
        go_simp
        try with_reducible rfl
       rotate_left
       ·simp only [Act.put, setIfInBounds_toArray, set_cons_zero, set_cons_succ, i64_w, i32_w]
        rfl
       refine pure_ (i := 3) (N := some 38) (v := ?_) (a' := ?_) #[false, true, false, true, false, false, false, false] rfl rfl (by kernel_rfl) (fun _ _ _ h => h) (Or.inl ⟨by rfl, ?_⟩) ?_ ?_
       rotate_left
       ·intro w8
        go_simp
        try with_reducible rfl
       rotate_left
       ·simp only [Act.put, setIfInBounds_toArray, set_cons_zero, set_cons_succ, i64_w, i32_w]
        rfl
       refine take_ (i := 0) (N := some 35) (v := ?_) (a' := ?_) #[true, true, false, true, false, false, false, false] rfl rfl (by kernel_rfl) (fun _ _ _ h => h) (Or.inl ⟨by rfl, ?_⟩) hHeld ?_ ?_
       rotate_left
       ·intro w8 s0
        go_simp
        try with_reducible rfl
       rotate_left
       ·simp only [Act.put, setIfInBounds_toArray, set_cons_zero, set_cons_succ, i64_w, i32_w]
        rfl
       refine two_ (i := 2) (j := 4) (Ni := some 37) (Nj := some 39) #[true, true, true, true, false, false, false, false] #[true, true, false, true, true, false, false, false] rfl rfl rfl rfl (by kernel_rfl) (by decide) (by decide) (fun K hK => ?_) (fun K hK => ?_)
       ·skip
        refine goes_ Try.func14 (by kernel_rfl) rfl #[.slice A0 l.length c0] (by rfl) rfl rfl (by (try simp only [List.map_toArray, List.map_cons, List.map_nil]); first | done | rfl) ?_
        refine (clone_calls A0 c0 l _ (Kd.C_below HR.out HB.out) HC0.out (by omega) HU2.out).mono ?_
        rintro e w5 ⟨v1, rfl, ho1, hb⟩
        refine ⟨_, rfl, ?_⟩
        skip
        have n0_ := Lib.hid (below_step HB.out hb)
        have HO1 := Lib.hid (Kd.R_lower ho1 (below_size HB.out))
        clear HB
        have HB := n0_
        clear n0_ hb ho1
        refine hK.out _ _ (by rw [blk_cell (HCP.out.below HB.out).hF]; rfl) (fun hHeld => ?_)
        clear hK K
        refine norm_ (a' := ?_) ?_ ?_
        rotate_left
        ·simp only [Act.put, setIfInBounds_toArray, set_cons_zero, set_cons_succ, i64_w, i32_w]
         rfl
        refine one_ (i := 4) (N := some 39) #[true, true, true, true, true, false, false, false] rfl rfl (by kernel_rfl) (by decide) (fun K hK => ?_)
        refine Kd.R_lit_step (Kd.int .i64) _ 3 ?hg (N := 39) ?hd (xs := ([rd good (j : Int)] : List Int)) (inner := [.int .i64 (rd good (j : Int))]) (ok := fun _ => True) (okp := fun _ => True) ?hr ?hp (fun _ hk => hk) trivial (Below.refl _ _) (Nat.le_refl _) (by simp) ?_; (case hd => rfl); (case hg => rfl); (case hr => first | (go_simp; done) | (go_simp; rfl)); (case hp => exact (Reps.one (show Kd.M (Kd.int .i64) _ _ _ (rd good (j : Int)) [.int .i64 (rd good (j : Int))] from rfl) (Reps.none _ _)))
        intro v2 w6 ho2 hb hg_ hnew_
        clear hg_ hnew_
        have n1_ := Lib.hid (Kd.R_elder' HO1.out (Kd.R_base ho2) hb)
        clear HO1
        have HO1 := n1_
        clear n1_
        have n0_ := Lib.hid (below_step HB.out hb)
        have HO2 := Lib.hid (Kd.R_lower ho2 (below_size HB.out))
        clear HB
        have HB := n0_
        clear n0_ hb ho2
        refine hK.out _ _ (by rw [blk_cell (HCP.out.below HB.out).hF]; rfl) (fun hHeld => ?_)
        clear hK K
        refine norm_ (a' := ?_) ?_ ?_
        rotate_left
        ·simp only [Act.put, setIfInBounds_toArray, set_cons_zero, set_cons_succ, i64_w, i32_w]
         rfl
        obtain ⟨A2, c2, eo2⟩ := Kd.R_slice HO2.out
        (first | subst eo2 | (injection eo2 with f1_ f2_ f3_; have f4_ := f1_.symm; have f5_ := f3_.symm; clear f1_ f2_ f3_; subst f4_; subst f5_))
        refine one_ (i := 5) (N := some 40) #[true, true, true, true, true, true, false, false] rfl rfl (by kernel_rfl) (by decide) (fun K hK => ?_)
        refine Kd.R_append_rows_step (Kd.int .i64) (w0 := w) w.heap.size (by rfl) (.tmp 37) (.tmp 39) 22 3 (.int .i64 0) 8 rfl Try.underlying22 info3_ rfl (by decide) (by omega) v1 l [rd good (j : Int)] _ _ _ (fun _ => True) (fun _ => False) rfl rfl ?aO ?aR (fun _ _ h => h) (fun _ h => h.elim) ?aF ?aB ?aS ?aL ?_
        (case aR => exact (Kd.R_reads' HO2.out).2.2)
        (case aB => exact HB.out)
        (case aF => exact (fun _ _ => trivial))
        (case aO => exact Kd.R_mono HO1.out (fun _ _ => trivial))
        (case aS => exact (below_size HB.out))
        (case aL => simp only [List.length_cons, List.length_nil]; omega)
        intro v3 w7 ho hb hg hat
        clear HB
        have HB := Lib.hid hb
        have HO3 := Lib.hid ho
        clear ho hb hg hat HO1 HO2
        refine hK.out _ _ (by rw [blk_cell (HCP.out.below HB.out).hF]; rfl) (fun hHeld => ?_)
        clear hK K
        refine norm_ (a' := ?_) ?_ ?_
        rotate_left
        ·simp only [Act.put, setIfInBounds_toArray, set_cons_zero, set_cons_succ, i64_w, i32_w]
         rfl
        refine one_ (i := 6) (N := some 41) #[true, true, true, true, true, true, true, false] rfl rfl (by kernel_rfl) (by decide) (fun K hK => ?_)
        refine call_ 12 #[v3, .pointer (some ⟨bP, 0, none⟩), .pointer (some ⟨bM, 0, none⟩), .pointer (some ⟨bG, 0, none⟩), .pointer (some ⟨bF, 0, none⟩)] (by rfl) rfl ?hrun ?_
        case hrun =>
         go_simp
         try rfl
        refine (IH.out kk (by omega) P M good (l ++ [rd good (j : Int)]) r1 w.heap.size v3 bP bM bG bF c (some ad) _ hg1000 hP1 (below_size HB.out) (HCP.out.below HB.out) HO3.out (fun e => by simp at e) HF.out).mono ?_
        rintro e w9 ⟨v4, rfl, hb, hres⟩
        refine ⟨_, rfl, ?_⟩
        have n0_ := Lib.hid (below_step HB.out hb)
        clear HB
        have HB := n0_
        have HRES := Lib.hid hres
        clear n0_ hb hres HO3 HF
        refine hK.out _ _ (by rw [blk_cell (HCP.out.below HB.out).hF]; rfl) (fun hHeld => ?_)
        clear hK K
        refine norm_ (a' := ?_) ?_ ?_
        rotate_left
        ·simp only [Act.put, setIfInBounds_toArray, set_cons_zero, set_cons_succ, i64_w, i32_w]
         rfl
        refine pure_ (i := 7) (N := some 10) (v := ?_) (a' := ?_) #[true, true, true, true, true, true, true, true] rfl rfl (by kernel_rfl) (fun _ _ _ h => h) (Or.inl ⟨by rfl, ?_⟩) ?_ ?_
        rotate_left
        ·intro w8
         go_simp
         try with_reducible rfl
        rotate_left
        ·simp only [Act.put, setIfInBounds_toArray, set_cons_zero, set_cons_succ, i64_w, i32_w]
         rfl
        refine done_ (by kernel_rfl) ?_
        cases r1 with
        | some l2 =>
         obtain ⟨hne, hR4⟩ := HRES.out
         obtain ⟨g4, c4, rfl, _⟩ := Kd.R_form hR4 (List.length_pos_iff.2 hne)
         have H1 := HLOOP.out
         simp only [Option.some.injEq] at H1
         subst H1
         have HR4 := Lib.hid hR4
         clear hR4 HRES HLOOP
         go_wp2
         go_ret
         exact ⟨_, rfl, HB.out, hne, Kd.R_lower HR4.out hbase⟩
        | none =>
         obtain rfl : v4 = .slice none 0 0 := HRES.out
         clear HRES
         go_wp2
         go_roundw
         case rel => exact ⟨j + 1, kk, by first | rfl | (congr 1), by omega, by omega, HLOOP.out, HB.out⟩
         case measure => simp only [intOf]; omega
       ·skip
        refine Kd.R_lit_step (Kd.int .i64) _ 3 ?hg (N := 39) ?hd (xs := ([rd good (j : Int)] : List Int)) (inner := [.int .i64 (rd good (j : Int))]) (ok := fun _ => True) (okp := fun _ => True) ?hr ?hp (fun _ hk => hk) trivial (Below.refl _ _) (Nat.le_refl _) (by simp) ?_; (case hd => rfl); (case hg => rfl); (case hr => first | (go_simp; done) | (go_simp; rfl)); (case hp => exact (Reps.one (show Kd.M (Kd.int .i64) _ _ _ (rd good (j : Int)) [.int .i64 (rd good (j : Int))] from rfl) (Reps.none _ _)))
        intro v2 w6 ho2 hb hg_ hnew_
        clear hg_ hnew_
        skip
        have n0_ := Lib.hid (below_step HB.out hb)
        have HO2 := Lib.hid (Kd.R_lower ho2 (below_size HB.out))
        clear HB
        have HB := n0_
        clear n0_ hb ho2
        refine hK.out _ _ (by rw [blk_cell (HCP.out.below HB.out).hF]; rfl) (fun hHeld => ?_)
        clear hK K
        refine norm_ (a' := ?_) ?_ ?_
        rotate_left
        ·simp only [Act.put, setIfInBounds_toArray, set_cons_zero, set_cons_succ, i64_w, i32_w]
         rfl
        refine one_ (i := 2) (N := some 37) #[true, true, true, true, true, false, false, false] rfl rfl (by kernel_rfl) (by decide) (fun K hK => ?_)
        refine goes_ Try.func14 (by kernel_rfl) rfl #[.slice A0 l.length c0] (by rfl) rfl rfl (by (try simp only [List.map_toArray, List.map_cons, List.map_nil]); first | done | rfl) ?_
        refine (clone_calls A0 c0 l _ (Kd.C_below HR.out HB.out) HC0.out (by omega) HU2.out).mono ?_
        rintro e w5 ⟨v1, rfl, ho1, hb⟩
        refine ⟨_, rfl, ?_⟩
        have n1_ := Lib.hid (Kd.R_elder' HO2.out (Kd.R_base ho1) hb)
        clear HO2
        have HO2 := n1_
        clear n1_
        have n0_ := Lib.hid (below_step HB.out hb)
        have HO1 := Lib.hid (Kd.R_lower ho1 (below_size HB.out))
        clear HB
        have HB := n0_
        clear n0_ hb ho1
        refine hK.out _ _ (by rw [blk_cell (HCP.out.below HB.out).hF]; rfl) (fun hHeld => ?_)
        clear hK K
        refine norm_ (a' := ?_) ?_ ?_
        rotate_left
        ·simp only [Act.put, setIfInBounds_toArray, set_cons_zero, set_cons_succ, i64_w, i32_w]
         rfl
        obtain ⟨A2, c2, eo2⟩ := Kd.R_slice HO2.out
        (first | subst eo2 | (injection eo2 with f1_ f2_ f3_; have f4_ := f1_.symm; have f5_ := f3_.symm; clear f1_ f2_ f3_; subst f4_; subst f5_))
        refine one_ (i := 5) (N := some 40) #[true, true, true, true, true, true, false, false] rfl rfl (by kernel_rfl) (by decide) (fun K hK => ?_)
        refine Kd.R_append_rows_step (Kd.int .i64) (w0 := w) w.heap.size (by rfl) (.tmp 37) (.tmp 39) 22 3 (.int .i64 0) 8 rfl Try.underlying22 info3_ rfl (by decide) (by omega) v1 l [rd good (j : Int)] _ _ _ (fun _ => True) (fun _ => False) rfl rfl ?aO ?aR (fun _ _ h => h) (fun _ h => h.elim) ?aF ?aB ?aS ?aL ?_
        (case aR => exact (Kd.R_reads' HO2.out).2.2)
        (case aB => exact HB.out)
        (case aF => exact (fun _ _ => trivial))
        (case aO => exact Kd.R_mono HO1.out (fun _ _ => trivial))
        (case aS => exact (below_size HB.out))
        (case aL => simp only [List.length_cons, List.length_nil]; omega)
        intro v3 w7 ho hb hg hat
        clear HB
        have HB := Lib.hid hb
        have HO3 := Lib.hid ho
        clear ho hb hg hat HO1 HO2
        refine hK.out _ _ (by rw [blk_cell (HCP.out.below HB.out).hF]; rfl) (fun hHeld => ?_)
        clear hK K
        refine norm_ (a' := ?_) ?_ ?_
        rotate_left
        ·simp only [Act.put, setIfInBounds_toArray, set_cons_zero, set_cons_succ, i64_w, i32_w]
         rfl
        refine one_ (i := 6) (N := some 41) #[true, true, true, true, true, true, true, false] rfl rfl (by kernel_rfl) (by decide) (fun K hK => ?_)
        refine call_ 12 #[v3, .pointer (some ⟨bP, 0, none⟩), .pointer (some ⟨bM, 0, none⟩), .pointer (some ⟨bG, 0, none⟩), .pointer (some ⟨bF, 0, none⟩)] (by rfl) rfl ?hrun ?_
        case hrun =>
         go_simp
         try rfl
        refine (IH.out kk (by omega) P M good (l ++ [rd good (j : Int)]) r1 w.heap.size v3 bP bM bG bF c (some ad) _ hg1000 hP1 (below_size HB.out) (HCP.out.below HB.out) HO3.out (fun e => by simp at e) HF.out).mono ?_
        rintro e w9 ⟨v4, rfl, hb, hres⟩
        refine ⟨_, rfl, ?_⟩
        have n0_ := Lib.hid (below_step HB.out hb)
        clear HB
        have HB := n0_
        have HRES := Lib.hid hres
        clear n0_ hb hres HO3 HF
        refine hK.out _ _ (by rw [blk_cell (HCP.out.below HB.out).hF]; rfl) (fun hHeld => ?_)
        clear hK K
        refine norm_ (a' := ?_) ?_ ?_
        rotate_left
        ·simp only [Act.put, setIfInBounds_toArray, set_cons_zero, set_cons_succ, i64_w, i32_w]
         rfl
        refine pure_ (i := 7) (N := some 10) (v := ?_) (a' := ?_) #[true, true, true, true, true, true, true, true] rfl rfl (by kernel_rfl) (fun _ _ _ h => h) (Or.inl ⟨by rfl, ?_⟩) ?_ ?_
        rotate_left
        ·intro w8
         go_simp
         try with_reducible rfl
        rotate_left
        ·simp only [Act.put, setIfInBounds_toArray, set_cons_zero, set_cons_succ, i64_w, i32_w]
         rfl
        refine done_ (by kernel_rfl) ?_
        cases r1 with
        | some l2 =>
         obtain ⟨hne, hR4⟩ := HRES.out
         obtain ⟨g4, c4, rfl, _⟩ := Kd.R_form hR4 (List.length_pos_iff.2 hne)
         have H1 := HLOOP.out
         simp only [Option.some.injEq] at H1
         subst H1
         have HR4 := Lib.hid hR4
         clear hR4 HRES HLOOP
         go_wp2
         go_ret
         exact ⟨_, rfl, HB.out, hne, Kd.R_lower HR4.out hbase⟩
        | none =>
         obtain rfl : v4 = .slice none 0 0 := HRES.out
         clear HRES
         go_wp2
         go_roundw
         case rel => exact ⟨j + 1, kk, by first | rfl | (congr 1), by omega, by omega, HLOOP.out, HB.out⟩
         case measure => simp only [intOf]; omega
      ·rw [if_neg hlt] at hloop
       obtain rfl := Option.some.inj hloop
       have r_ : ((j : Int) < (good.length : Int)) = False := eq_false (by omega)
       go_wp2
       go_ret
       exact ⟨_, rfl, HB.out, rfl⟩
end Go.Proofs.Ytkbbmkbkpkmdkac.Ext
