/- The contract of impl.search's closure, and of impl.search: the first (or last) text of so many digits, found digit by digit. Condition: the bound is at most 1000 bytes; what is asked of the closure that says what may begin a text is a premise. -/
import Derived.Test.YtkbbmkbkpkmdkabQA1x1
import Derived.Test.YtkbbmkbkpkmdkabRepeat
import Derived.Deep.RegionHeld3
import Derived.Deep.RegionWith
namespace Go.Proofs.Ytkbbmkbkpkmdkab.Ext
set_option linter.unusedVariables false
set_option linter.unusedSimpArgs false
open Go.RowKit Go.Shelf Go.Lib Go.Proofs.YtkbbmkbkpkmdkabW.PrintWords Go.Proofs.YtkbbmkbkpkmdkabW.PrintLast Go.Proofs.YtkbbmkbkpkmdkabW.PrintMore
def dig (down : Bool) (k : Int) : Int := if down = true then (wrap64 (57 - k)) % 256 else (wrap64 (48 + k)) % 256
def cutF (bound : ByteArray) (down tight : Bool) (i d : Int) : Bool := tight && (if down = true then decide (bt bound i < d) else decide (d < bt bound i))
def loopF (find : ByteArray → Bool → Option (ByteArray × Bool)) (may : ByteArray → Option Bool) (bound : ByteArray) (down : Bool) (b0 : ByteArray) (t0 : Bool) : Nat → Option (ByteArray × Bool)
  | 0 => some (⟨#[]⟩, false)
  | j + 1 => if cutF bound down t0 (b0.size : Int) (dig down (9 - (j : Int))) = true then loopF find may bound down b0 t0 j else (may (b0 ++ strOfNums [dig down (9 - (j : Int))])).bind fun m => if m = true then (find (b0 ++ strOfNums [dig down (9 - (j : Int))]) (t0 && (dig down (9 - (j : Int)) == bt bound (b0.size : Int)))).bind fun p => (if p.2 = true then some (p.1, true) else loopF find may bound down b0 t0 j) else loopF find may bound down b0 t0 j
def findF (may : ByteArray → Option Bool) (bound : ByteArray) (down : Bool) : Nat → ByteArray → Bool → Option (ByteArray × Bool)
  | 0, _, _ => none
  | k + 1, b0, t0 => if (b0.size : Int) = (bound.size : Int) then some (b0, true) else loopF (findF may bound down k) may bound down b0 t0 10
theorem loopF.mono_l {f g : ByteArray → Bool → Option (ByteArray × Bool)} (h : ∀ b t, LeO (f b t) (g b t)) {m n : ByteArray → Option Bool} (h2 : ∀ b, LeO (m b) (n b)) (bound : ByteArray) (down : Bool) (b0 : ByteArray) (t0 : Bool) : ∀ j, LeO (loopF f m bound down b0 t0 j) (loopF g n bound down b0 t0 j)
  | 0 => LeO.refl _
  | j + 1 => by
    unfold loopF
    exact LeO.ite (loopF.mono_l h h2 bound down b0 t0 j) (LeO.bind (h2 _) (fun _ => LeO.ite (LeO.bind (h _ _) (fun _ => LeO.ite (LeO.refl _) (loopF.mono_l h h2 bound down b0 t0 j))) (loopF.mono_l h h2 bound down b0 t0 j)))
theorem findF.mono_l {m n : ByteArray → Option Bool} (h2 : ∀ b, LeO (m b) (n b)) (bound : ByteArray) (down : Bool) : ∀ k b0 t0, LeO (findF m bound down k b0 t0) (findF n bound down (k + 1) b0 t0)
  | 0, _, _ => fun r h => by simp [findF] at h
  | k + 1, b0, t0 => by
    rw [findF, findF]
    exact LeO.ite (LeO.refl _) (loopF.mono_l (fun b t => findF.mono_l h2 bound down k b t) h2 bound down b0 t0 10)
section
variable {P : Program} {md : Region.Mode} {ops : Array Oper} {Q : Exit → Act → World → Prop} {S : World → Prop}
theorem takeH {i : Nat} {N : Option Tmp} {oi : Oper} {v : Value} {fuel : Nat} {listed : Array Bool} {a a' : Act} {w : World} (hi : ops[i]? = some oi) (hN : oi.dst = N)
    (hs : Region.noSelect ops = true) (hf : Region.free md ops listed i = true) (hr : (Region.ready md ops listed).contains i = true)
    (hQ : ∀ c a w, Q (.panic c) (a.put oi.dst v) w → Q (.panic c) a w) (hy : YieldsIf P ops S oi v a) (hS : S w) (ha : a.put N v = a')
    (h : wpAnyH P md ops Q S fuel (listed.setIfInBounds i true) a' w) : wpAnyH P md ops Q S (fuel + 1) listed a w := by
  subst hN
  subst ha
  exact wpAnyH_take hi hs hf hr hQ hy hS h
theorem normH {fuel : Nat} {listed : Array Bool} {a a' : Act} {w : World} (ha : a = a') (h : wpAnyH P md ops Q S fuel listed a' w) : wpAnyH P md ops Q S fuel listed a w := by
  subst ha
  exact h
end
theorem strOfNums_size (xs : List Int) : (strOfNums xs).size = xs.length := by simp [strOfNums, ByteArray.size]
theorem w64s {x : Int} (h1 : -9223372036854775808 ≤ x) (h2 : x ≤ 9223372036854775807) : wrap64 x = x := by unfold wrap64; omega
set_option maxHeartbeats 16000000 in
set_option maxRecDepth 100000 in
theorem find_calls (bound : ByteArray) (down : Bool) (hs : bound.size ≤ 1000) (B2 B3 B4 B5 : Nat) (p3 p4 : Value) (mayF : ByteArray → Option Bool) (w0 : World)
    (HC : Aside0 (∀ w1, Below w0.heap.size w0 w1 → w1.cell? ⟨B2, 0, none⟩ = some (.string bound) ∧ w1.cell? ⟨B3, 0, none⟩ = some (.bool down) ∧ w1.cell? ⟨B4, 0, none⟩ = some (.func (.func 31) #[] #[p3, p4]) ∧ w1.cell? ⟨B5, 0, none⟩ = some (.func (.func 58) #[] #[.pointer (some ⟨B2, 0, none⟩), .pointer (some ⟨B3, 0, none⟩), .pointer (some ⟨B4, 0, none⟩), .pointer (some ⟨B5, 0, none⟩)])))
    (hmay : Aside0 (∀ s r w1, mayF s = some r → Below w0.heap.size w0 w1 → Calls Try.prog 31 #[.string s, p3, p4] w1 fun e w' => e = .returned (.bool r) ∧ Below w1.heap.size w1 w')) :
    ∀ (k : Nat) (b0 : ByteArray) (t0 : Bool) (r1 : ByteArray) (r2 : Bool) (w : World), b0.size ≤ bound.size → Below w0.heap.size w0 w → findF mayF bound down k b0 t0 = some (r1, r2) →
      Calls Try.prog 58 #[.string b0, .bool t0, .pointer (some ⟨B2, 0, none⟩), .pointer (some ⟨B3, 0, none⟩), .pointer (some ⟨B4, 0, none⟩), .pointer (some ⟨B5, 0, none⟩)] w fun e w' => e = .returned (.tuple #[.string r1, .bool r2]) ∧ Below w0.heap.size w0 w' := by
  intro k
  induction k with
  | zero => intro b0 t0 r1 r2 w _ _ h; exact absurd h (by simp [findF])
  | succ k ih0 =>
  have ih := Aside0.mk ih0
  clear ih0
  intro b0 t0 r1 r2 w hb0 HB h
  rw [findF] at h
  obtain ⟨c2, c3, c4, c5⟩ := HC.out _ HB
  by_cases ce : (b0.size : Int) = (bound.size : Int)
  · rw [if_pos ce] at h
    simp only [Option.some.injEq, Prod.mk.injEq] at h
    obtain ⟨rfl, rfl⟩ := h
    have ceb : ((b0.size : Int) == (bound.size : Int)) = true := beq_iff_eq.mpr ce
    go_enter Try.func58, Try.ntmps58
    go_wp2_with fail
    first | go_ret3 | go_ret2
    all_goals exact ⟨by first | rfl | (simp; done), by first | exact HB | assumption⟩
  · rw [if_neg ce] at h
    have H0 := Aside0.mk h
    clear h
    have ceb : ((b0.size : Int) == (bound.size : Int)) = false := beq_eq_false_iff_ne.mpr ce
    have hlt : b0.size < bound.size := by omega
    clear ce
    go_enter Try.func58, Try.ntmps58
    go_wp2_with fail
    clear c2 c3 c4 c5
    go_loopg [23] 10 (fun kq v23 w' => ∃ (kI : Int), v23 = .int .i64 kI ∧ Aside0 (kI = 10 - (kq : Int)) ∧ Aside0 (loopF (findF mayF bound down k) mayF bound down b0 t0 kq = some (r1, r2)) ∧ Aside0 (kq ≤ 10) ∧ Below w0.heap.size w0 w')
    case atStart => exact ⟨0, rfl, ⟨rfl⟩, H0, ⟨Nat.le_refl _⟩, by first | exact HB | assumption⟩
    case round =>
      clear H0 HB
      obtain ⟨kI, rfl, hk, HA, hle, HB⟩ := hrel
      obtain ⟨c2, c3, c4, c5⟩ := HC.out _ HB
      cases gk with
      | zero =>
        have H := HA.out
        clear HA
        rw [loopF] at H
        simp only [Option.some.injEq, Prod.mk.injEq] at H
        obtain ⟨rfl, rfl⟩ := H
        have cb : decide (kI < 10) = false := decide_eq_false (by have h1 := hk.out; omega)
        go_wp2_with fail
        first | go_ret3 | go_ret2
        all_goals exact ⟨by first | rfl | (simp; done), by first | exact HB | assumption⟩
      | succ j =>
        have H := HA.out
        clear HA
        rw [loopF] at H
        have ek : (9 - (j : Int)) = kI := by have h1 := hk.out; omega
        simp only [ek] at H
        clear ek
        have cb0 : decide (kI < 10) = true := decide_eq_true (by have h1 := hk.out; have h2 := hle.out; omega)
        have pz : (0 ≤ (b0.size : Int)) = True := eq_true (by omega)
        have qz : ((b0.size : Int) < (bound.size : Int)) = True := eq_true (by omega)
        have hxz : ∀ h : b0.size < bound.size, ((bound[b0.size]'h).toNat : Int) = bt bound (b0.size : Int) := fun h => bt_at bound (b0.size : Int) h
        cases down with
        | true =>
          cases t0 with
          | true =>
            have hz : b0.size + (strOfNums [((wrap64 (57 - kI)) % 256)]).size ≤ 9223372036854775807 := by rw [strOfNums_size]; simp only [List.length_cons, List.length_nil]; omega
            have hz2 : (9223372036854775807 < b0.size + (strOfNums [((wrap64 (57 - kI)) % 256)]).size) = False := eq_false (Nat.not_lt.2 hz)
            simp only [dig, Bool.false_eq_true, if_true, if_false, reduceIte] at H
            cases cb : decide (bt bound (b0.size : Int) < ((wrap64 (57 - kI)) % 256)) with
            | true =>
              simp only [cutF, Bool.true_and, if_true, if_false, Bool.false_eq_true, reduceIte, cb] at H
              have H' := Aside0.mk H
              clear H
              go_wp2_with fail
              go_roundg j
              case measure => have h2 := hle.out; omega
              case rel => exact ⟨wrap64 (kI + 1), rfl, ⟨by have h1 := hk.out; have h2 := hle.out; rw [w64s (by omega) (by omega)]; omega⟩, H', ⟨by have h2 := hle.out; omega⟩, HB⟩
            | false =>
              simp only [cutF, Bool.true_and, if_true, if_false, Bool.false_eq_true, reduceIte, cb] at H
              replace H := Option.bind_eq_some_iff.mp H
              obtain ⟨m, A0, H⟩ := H
              have A := Aside0.mk A0
              clear A0
              cases m with
              | false =>
                simp only [Bool.false_eq_true, if_false, reduceIte] at H
                have H' := Aside0.mk H
                clear H
                go_wp2_with (first | ((with_reducible refine gate_dst (N := 57) rfl ?_); refine Kd.R_lit (Kd.int .u8) _ 5 ?hg (N := 57) ?hd (xs := ([((wrap64 (57 - kI)) % 256)] : List Int)) (inner := [.int .u8 ((wrap64 (57 - kI)) % 256)]) (ok := fun _ => True) (okp := fun _ => True) ?hr ?hp (fun _ hk => hk) trivial (Below.refl _ _) (Nat.le_refl _) (by simp) ?_; (case hd => rfl); (case hg => rfl); (case hr => first | (go_simp; done) | (go_simp; rfl)); (case hp => exact (Reps.one (show Kd.M (Kd.int .u8) _ _ _ ((wrap64 (57 - kI)) % 256) [.int .u8 ((wrap64 (57 - kI)) % 256)] from rfl) (Reps.none _ _))); intro v108 w3 ho4 hb hg_ hnew_; clear hg_ hnew_; have HB3 := below_step HB hb; obtain ⟨ca2, ca3, ca4, ca5⟩ := HC.out _ HB3; have hcv5 := own_string (P := Try.prog) Try.underlying44 Try.underlying5 Try.underlying9 (Kd.own_of_R ho4); clear hb) | (go_at_call 31; refine (hmay.out _ false _ A.out HB3).mono ?_; rintro e w5 ⟨rfl, hb5⟩; have HB5 := below_step HB3 hb5; obtain ⟨cc2, cc3, cc4, cc5⟩ := HC.out _ HB5; clear hb5))
                go_roundg j
                case measure => have h2 := hle.out; omega
                case rel => exact ⟨wrap64 (kI + 1), rfl, ⟨by have h1 := hk.out; have h2 := hle.out; rw [w64s (by omega) (by omega)]; omega⟩, H', ⟨by have h2 := hle.out; omega⟩, HB5⟩
              | true =>
                simp only [if_true, reduceIte] at H
                replace H := Option.bind_eq_some_iff.mp H
                obtain ⟨⟨q1, q2⟩, F0, H⟩ := H
                obtain ⟨tn, htn⟩ : ∃ t_ : Bool, (((wrap64 (57 - kI)) % 256) == bt bound (b0.size : Int)) = t_ := ⟨_, rfl⟩
                try simp only [Bool.true_and] at F0
                rw [htn] at F0
                have F := Aside0.mk F0
                clear F0
                have hsz : (b0 ++ strOfNums [((wrap64 (57 - kI)) % 256)]).size ≤ bound.size := by rw [ByteArray.size_append, strOfNums_size]; simp only [List.length_cons, List.length_nil]; omega
                go_wp2_with (first | ((with_reducible refine gate_dst (N := 57) rfl ?_); refine Kd.R_lit (Kd.int .u8) _ 5 ?hg (N := 57) ?hd (xs := ([((wrap64 (57 - kI)) % 256)] : List Int)) (inner := [.int .u8 ((wrap64 (57 - kI)) % 256)]) (ok := fun _ => True) (okp := fun _ => True) ?hr ?hp (fun _ hk => hk) trivial (Below.refl _ _) (Nat.le_refl _) (by simp) ?_; (case hd => rfl); (case hg => rfl); (case hr => first | (go_simp; done) | (go_simp; rfl)); (case hp => exact (Reps.one (show Kd.M (Kd.int .u8) _ _ _ ((wrap64 (57 - kI)) % 256) [.int .u8 ((wrap64 (57 - kI)) % 256)] from rfl) (Reps.none _ _))); intro v108 w3 ho4 hb hg_ hnew_; clear hg_ hnew_; have HB3 := below_step HB hb; obtain ⟨ca2, ca3, ca4, ca5⟩ := HC.out _ HB3; have hcv5 := own_string (P := Try.prog) Try.underlying44 Try.underlying5 Try.underlying9 (Kd.own_of_R ho4); clear hb) | (go_at_call 31; refine (hmay.out _ true _ A.out HB3).mono ?_; rintro e w5 ⟨rfl, hb5⟩; have HB5 := below_step HB3 hb5; obtain ⟨cc2, cc3, cc4, cc5⟩ := HC.out _ HB5; clear hb5))
                go_region_held3 (fun w1 => w1.cell? ⟨B2, 0, none⟩ = some (.string bound) ∧ w1.cell? ⟨B5, 0, none⟩ = some (.func (.func 58) #[] #[.pointer (some ⟨B2, 0, none⟩), .pointer (some ⟨B3, 0, none⟩), .pointer (some ⟨B4, 0, none⟩), .pointer (some ⟨B5, 0, none⟩)])) (first | exact ⟨(HC.out _ (Below.drew HB5)).1, (HC.out _ (Below.drew HB5)).2.2.2⟩ | exact ⟨(HC.out _ (by assumption)).1, (HC.out _ (by assumption)).2.2.2⟩) (first | (go_at_call 58; refine (ih.out _ tn q1 q2 _ hsz (by first | assumption | exact Below.drew HB5) F.out).mono ?_; rintro e w7 ⟨rfl, HB7⟩))
                clear c2 c3 c4 c5
                cases q2 with
                | true =>
                  simp only [if_true, reduceIte, Option.some.injEq, Prod.mk.injEq] at H
                  obtain ⟨rfl, rfl⟩ := H
                  go_wp2_with fail
                  first | go_ret3 | go_ret2
                  all_goals exact ⟨by first | rfl | (simp; done), by assumption⟩
                | false =>
                  simp only [Bool.false_eq_true, if_false, reduceIte] at H
                  have H' := Aside0.mk H
                  clear H
                  go_wp2_with fail
                  go_roundg j
                  case measure => have h2 := hle.out; omega
                  case rel => exact ⟨wrap64 (kI + 1), rfl, ⟨by have h1 := hk.out; have h2 := hle.out; rw [w64s (by omega) (by omega)]; omega⟩, H', ⟨by have h2 := hle.out; omega⟩, by assumption⟩
          | false =>
            have hz : b0.size + (strOfNums [((wrap64 (57 - kI)) % 256)]).size ≤ 9223372036854775807 := by rw [strOfNums_size]; simp only [List.length_cons, List.length_nil]; omega
            have hz2 : (9223372036854775807 < b0.size + (strOfNums [((wrap64 (57 - kI)) % 256)]).size) = False := eq_false (Nat.not_lt.2 hz)
            simp only [dig, Bool.false_eq_true, if_true, if_false, reduceIte] at H
            simp only [cutF, Bool.false_and, if_false, Bool.false_eq_true, reduceIte] at H
            replace H := Option.bind_eq_some_iff.mp H
            obtain ⟨m, A0, H⟩ := H
            have A := Aside0.mk A0
            clear A0
            cases m with
            | false =>
              simp only [Bool.false_eq_true, if_false, reduceIte] at H
              have H' := Aside0.mk H
              clear H
              go_wp2_with (first | ((with_reducible refine gate_dst (N := 57) rfl ?_); refine Kd.R_lit (Kd.int .u8) _ 5 ?hg (N := 57) ?hd (xs := ([((wrap64 (57 - kI)) % 256)] : List Int)) (inner := [.int .u8 ((wrap64 (57 - kI)) % 256)]) (ok := fun _ => True) (okp := fun _ => True) ?hr ?hp (fun _ hk => hk) trivial (Below.refl _ _) (Nat.le_refl _) (by simp) ?_; (case hd => rfl); (case hg => rfl); (case hr => first | (go_simp; done) | (go_simp; rfl)); (case hp => exact (Reps.one (show Kd.M (Kd.int .u8) _ _ _ ((wrap64 (57 - kI)) % 256) [.int .u8 ((wrap64 (57 - kI)) % 256)] from rfl) (Reps.none _ _))); intro v108 w3 ho4 hb hg_ hnew_; clear hg_ hnew_; have HB3 := below_step HB hb; obtain ⟨ca2, ca3, ca4, ca5⟩ := HC.out _ HB3; have hcv5 := own_string (P := Try.prog) Try.underlying44 Try.underlying5 Try.underlying9 (Kd.own_of_R ho4); clear hb) | (go_at_call 31; refine (hmay.out _ false _ A.out HB3).mono ?_; rintro e w5 ⟨rfl, hb5⟩; have HB5 := below_step HB3 hb5; obtain ⟨cc2, cc3, cc4, cc5⟩ := HC.out _ HB5; clear hb5))
              go_roundg j
              case measure => have h2 := hle.out; omega
              case rel => exact ⟨wrap64 (kI + 1), rfl, ⟨by have h1 := hk.out; have h2 := hle.out; rw [w64s (by omega) (by omega)]; omega⟩, H', ⟨by have h2 := hle.out; omega⟩, HB5⟩
            | true =>
              simp only [if_true, reduceIte] at H
              replace H := Option.bind_eq_some_iff.mp H
              obtain ⟨⟨q1, q2⟩, F0, H⟩ := H
              try simp only [Bool.false_and] at F0
              have F := Aside0.mk F0
              clear F0
              have hsz : (b0 ++ strOfNums [((wrap64 (57 - kI)) % 256)]).size ≤ bound.size := by rw [ByteArray.size_append, strOfNums_size]; simp only [List.length_cons, List.length_nil]; omega
              go_wp2_with (first | ((with_reducible refine gate_dst (N := 57) rfl ?_); refine Kd.R_lit (Kd.int .u8) _ 5 ?hg (N := 57) ?hd (xs := ([((wrap64 (57 - kI)) % 256)] : List Int)) (inner := [.int .u8 ((wrap64 (57 - kI)) % 256)]) (ok := fun _ => True) (okp := fun _ => True) ?hr ?hp (fun _ hk => hk) trivial (Below.refl _ _) (Nat.le_refl _) (by simp) ?_; (case hd => rfl); (case hg => rfl); (case hr => first | (go_simp; done) | (go_simp; rfl)); (case hp => exact (Reps.one (show Kd.M (Kd.int .u8) _ _ _ ((wrap64 (57 - kI)) % 256) [.int .u8 ((wrap64 (57 - kI)) % 256)] from rfl) (Reps.none _ _))); intro v108 w3 ho4 hb hg_ hnew_; clear hg_ hnew_; have HB3 := below_step HB hb; obtain ⟨ca2, ca3, ca4, ca5⟩ := HC.out _ HB3; have hcv5 := own_string (P := Try.prog) Try.underlying44 Try.underlying5 Try.underlying9 (Kd.own_of_R ho4); clear hb) | (go_at_call 31; refine (hmay.out _ true _ A.out HB3).mono ?_; rintro e w5 ⟨rfl, hb5⟩; have HB5 := below_step HB3 hb5; obtain ⟨cc2, cc3, cc4, cc5⟩ := HC.out _ HB5; clear hb5))
              refine wp_region_held_drew (S := (fun w1 => w1.cell? ⟨B2, 0, none⟩ = some (.string bound) ∧ w1.cell? ⟨B5, 0, none⟩ = some (.func (.func 58) #[] #[.pointer (some ⟨B2, 0, none⟩), .pointer (some ⟨B3, 0, none⟩), .pointer (some ⟨B4, 0, none⟩), .pointer (some ⟨B5, 0, none⟩)]))) (by kernel_rfl) ⟨(HC.out _ (Below.drew HB5)).1, (HC.out _ (Below.drew HB5)).2.2.2⟩ (fun hHeld => ?_)
              refine takeH (i := 0) (N := some 65) (v := ?_) (a' := ?_) rfl rfl (by kernel_rfl) (by kernel_rfl) (by kernel_rfl) (fun _ _ _ h => h) (Or.inl ⟨by rfl, ?hy0t⟩) (by assumption) ?ha0t ?hh0t
              case hy0t =>
                intro w8 hSw
                (try dsimp only at hSw)
                go_simp
                try with_reducible rfl
              case ha0t =>
                simp only [Act.put, List.setIfInBounds_toArray, List.set_cons_zero, List.set_cons_succ]
                rfl
              refine takeH (i := 1) (N := some 66) (v := ?_) (a' := ?_) rfl rfl (by kernel_rfl) (by kernel_rfl) (by kernel_rfl) (fun _ _ _ h => h) (Or.inl ⟨by rfl, ?hy1t⟩) (by assumption) ?ha1t ?hh1t
              case hy1t =>
                intro w8 hSw
                (try dsimp only at hSw)
                go_simp
                try with_reducible rfl
              case ha1t =>
                simp only [Act.put, List.setIfInBounds_toArray, List.set_cons_zero, List.set_cons_succ]
                rfl
              refine takeH (i := 2) (N := some 67) (v := ?_) (a' := ?_) rfl rfl (by kernel_rfl) (by kernel_rfl) (by kernel_rfl) (fun _ _ _ h => h) (Or.inl ⟨by rfl, ?hy2t⟩) (by assumption) ?ha2t ?hh2t
              case hy2t =>
                intro w8 hSw
                (try dsimp only at hSw)
                go_simp
                try with_reducible rfl
              case ha2t =>
                simp only [Act.put, List.setIfInBounds_toArray, List.set_cons_zero, List.set_cons_succ]
                rfl
              refine takeH (i := 3) (N := some 68) (v := ?_) (a' := ?_) rfl rfl (by kernel_rfl) (by kernel_rfl) (by kernel_rfl) (fun _ _ _ h => h) (Or.inl ⟨by rfl, ?hy3t⟩) (by assumption) ?ha3t ?hh3t
              case hy3t =>
                intro w8 hSw
                (try dsimp only at hSw)
                go_simp
                try with_reducible rfl
              case ha3t =>
                simp only [Act.put, List.setIfInBounds_toArray, List.set_cons_zero, List.set_cons_succ]
                rfl
              refine takeH (i := 4) (N := some 69) (v := undef) (a' := ?_) rfl rfl (by kernel_rfl) (by kernel_rfl) (by kernel_rfl) (fun _ _ _ h => h) (Or.inr ⟨by rfl, rfl⟩) (by assumption) ?ha4t ?hh4t
              case ha4t =>
                simp only [Act.put, List.setIfInBounds_toArray, List.set_cons_zero, List.set_cons_succ]
                rfl
              refine takeH (i := 5) (N := some 70) (v := undef) (a' := ?_) rfl rfl (by kernel_rfl) (by kernel_rfl) (by kernel_rfl) (fun _ _ _ h => h) (Or.inr ⟨by rfl, rfl⟩) (by assumption) ?ha5t ?hh5t
              case ha5t =>
                simp only [Act.put, List.setIfInBounds_toArray, List.set_cons_zero, List.set_cons_succ]
                rfl
              refine takeH (i := 6) (N := some 71) (v := undef) (a' := ?_) rfl rfl (by kernel_rfl) (by kernel_rfl) (by kernel_rfl) (fun _ _ _ h => h) (Or.inr ⟨by rfl, rfl⟩) (by assumption) ?ha6t ?hh6t
              case ha6t =>
                simp only [Act.put, List.setIfInBounds_toArray, List.set_cons_zero, List.set_cons_succ]
                rfl
              refine takeH (i := 7) (N := some 72) (v := undef) (a' := ?_) rfl rfl (by kernel_rfl) (by kernel_rfl) (by kernel_rfl) (fun _ _ _ h => h) (Or.inr ⟨by rfl, rfl⟩) (by assumption) ?ha7t ?hh7t
              case ha7t =>
                simp only [Act.put, List.setIfInBounds_toArray, List.set_cons_zero, List.set_cons_succ]
                rfl
              refine takeH (i := 8) (N := some 73) (v := undef) (a' := ?_) rfl rfl (by kernel_rfl) (by kernel_rfl) (by kernel_rfl) (fun _ _ _ h => h) (Or.inr ⟨by rfl, rfl⟩) (by assumption) ?ha8t ?hh8t
              case ha8t =>
                simp only [Act.put, List.setIfInBounds_toArray, List.set_cons_zero, List.set_cons_succ]
                rfl
              refine takeH (i := 9) (N := some 74) (v := ?_) (a' := ?_) rfl rfl (by kernel_rfl) (by kernel_rfl) (by kernel_rfl) (fun _ _ _ h => h) (Or.inl ⟨by rfl, ?hy9t⟩) (by assumption) ?ha9t ?hh9t
              case hy9t =>
                intro w8 hSw
                (try dsimp only at hSw)
                go_simp
                try with_reducible rfl
              case ha9t =>
                simp only [Act.put, List.setIfInBounds_toArray, List.set_cons_zero, List.set_cons_succ]
                rfl
              refine wpAnyH_ready (rs := [10]) (by kernel_rfl) (by simp) ?_
              refine AllReadyH.cons rfl (fun K hK => ?_) AllReadyH.nil
              go_simp
              go_at_call 58
              refine (ih.out _ false q1 q2 _ hsz (Below.drew HB5) F.out).mono ?_
              rintro e w7 ⟨rfl, HB7⟩
              try go_simp
              refine hK.out _ _ ⟨(HC.out _ HB7).1, (HC.out _ HB7).2.2.2⟩ (fun hHeld => ?_)
              clear hK K
              refine takeH (i := 11) (N := some 64) (v := ?_) (a' := ?_) rfl rfl (by kernel_rfl) (by kernel_rfl) (by kernel_rfl) (fun _ _ _ h => h) (Or.inl ⟨by rfl, ?hy11t⟩) (by assumption) ?ha11t ?hh11t
              case hy11t =>
                intro w8 hSw
                (try dsimp only at hSw)
                go_simp
                try with_reducible rfl
              case ha11t =>
                simp only [Act.put, List.setIfInBounds_toArray, List.set_cons_zero, List.set_cons_succ]
                rfl
              refine takeH (i := 12) (N := some 76) (v := ?_) (a' := ?_) rfl rfl (by kernel_rfl) (by kernel_rfl) (by kernel_rfl) (fun _ _ _ h => h) (Or.inl ⟨by rfl, ?hy12t⟩) (by assumption) ?ha12t ?hh12t
              case hy12t =>
                intro w8 hSw
                (try dsimp only at hSw)
                go_simp
                try with_reducible rfl
              case ha12t =>
                simp only [Act.put, List.setIfInBounds_toArray, List.set_cons_zero, List.set_cons_succ]
                rfl
              refine takeH (i := 13) (N := some 77) (v := ?_) (a' := ?_) rfl rfl (by kernel_rfl) (by kernel_rfl) (by kernel_rfl) (fun _ _ _ h => h) (Or.inl ⟨by rfl, ?hy13t⟩) (by assumption) ?ha13t ?hh13t
              case hy13t =>
                intro w8 hSw
                (try dsimp only at hSw)
                go_simp
                try with_reducible rfl
              case ha13t =>
                simp only [Act.put, List.setIfInBounds_toArray, List.set_cons_zero, List.set_cons_succ]
                rfl
              refine takeH (i := 14) (N := some 14) (v := ?_) (a' := ?_) rfl rfl (by kernel_rfl) (by kernel_rfl) (by kernel_rfl) (fun _ _ _ h => h) (Or.inl ⟨by rfl, ?hy14t⟩) (by assumption) ?ha14t ?hh14t
              case hy14t =>
                intro w8 hSw
                (try dsimp only at hSw)
                go_simp
                try with_reducible rfl
              case ha14t =>
                simp only [Act.put, List.setIfInBounds_toArray, List.set_cons_zero, List.set_cons_succ]
                rfl
              refine takeH (i := 15) (N := some 15) (v := ?_) (a' := ?_) rfl rfl (by kernel_rfl) (by kernel_rfl) (by kernel_rfl) (fun _ _ _ h => h) (Or.inl ⟨by rfl, ?hy15t⟩) (by assumption) ?ha15t ?hh15t
              case hy15t =>
                intro w8 hSw
                (try dsimp only at hSw)
                go_simp
                try with_reducible rfl
              case ha15t =>
                simp only [Act.put, List.setIfInBounds_toArray, List.set_cons_zero, List.set_cons_succ]
                rfl
              refine wpAnyH_done (by kernel_rfl) ?_ _
              clear c2 c3 c4 c5
              cases q2 with
              | true =>
                simp only [if_true, reduceIte, Option.some.injEq, Prod.mk.injEq] at H
                obtain ⟨rfl, rfl⟩ := H
                go_wp2_with fail
                first | go_ret3 | go_ret2
                all_goals exact ⟨by first | rfl | (simp; done), by assumption⟩
              | false =>
                simp only [Bool.false_eq_true, if_false, reduceIte] at H
                have H' := Aside0.mk H
                clear H
                go_wp2_with fail
                go_roundg j
                case measure => have h2 := hle.out; omega
                case rel => exact ⟨wrap64 (kI + 1), rfl, ⟨by have h1 := hk.out; have h2 := hle.out; rw [w64s (by omega) (by omega)]; omega⟩, H', ⟨by have h2 := hle.out; omega⟩, by assumption⟩
        | false =>
          cases t0 with
          | true =>
            have hz : b0.size + (strOfNums [((wrap64 (48 + kI)) % 256)]).size ≤ 9223372036854775807 := by rw [strOfNums_size]; simp only [List.length_cons, List.length_nil]; omega
            have hz2 : (9223372036854775807 < b0.size + (strOfNums [((wrap64 (48 + kI)) % 256)]).size) = False := eq_false (Nat.not_lt.2 hz)
            simp only [dig, Bool.false_eq_true, if_true, if_false, reduceIte] at H
            cases cb : decide (((wrap64 (48 + kI)) % 256) < bt bound (b0.size : Int)) with
            | true =>
              simp only [cutF, Bool.true_and, if_true, if_false, Bool.false_eq_true, reduceIte, cb] at H
              have H' := Aside0.mk H
              clear H
              go_wp2_with fail
              go_roundg j
              case measure => have h2 := hle.out; omega
              case rel => exact ⟨wrap64 (kI + 1), rfl, ⟨by have h1 := hk.out; have h2 := hle.out; rw [w64s (by omega) (by omega)]; omega⟩, H', ⟨by have h2 := hle.out; omega⟩, HB⟩
            | false =>
              simp only [cutF, Bool.true_and, if_true, if_false, Bool.false_eq_true, reduceIte, cb] at H
              replace H := Option.bind_eq_some_iff.mp H
              obtain ⟨m, A0, H⟩ := H
              have A := Aside0.mk A0
              clear A0
              cases m with
              | false =>
                simp only [Bool.false_eq_true, if_false, reduceIte] at H
                have H' := Aside0.mk H
                clear H
                go_wp2_with (first | ((with_reducible refine gate_dst (N := 57) rfl ?_); refine Kd.R_lit (Kd.int .u8) _ 5 ?hg (N := 57) ?hd (xs := ([((wrap64 (48 + kI)) % 256)] : List Int)) (inner := [.int .u8 ((wrap64 (48 + kI)) % 256)]) (ok := fun _ => True) (okp := fun _ => True) ?hr ?hp (fun _ hk => hk) trivial (Below.refl _ _) (Nat.le_refl _) (by simp) ?_; (case hd => rfl); (case hg => rfl); (case hr => first | (go_simp; done) | (go_simp; rfl)); (case hp => exact (Reps.one (show Kd.M (Kd.int .u8) _ _ _ ((wrap64 (48 + kI)) % 256) [.int .u8 ((wrap64 (48 + kI)) % 256)] from rfl) (Reps.none _ _))); intro v108 w3 ho4 hb hg_ hnew_; clear hg_ hnew_; have HB3 := below_step HB hb; obtain ⟨ca2, ca3, ca4, ca5⟩ := HC.out _ HB3; have hcv5 := own_string (P := Try.prog) Try.underlying44 Try.underlying5 Try.underlying9 (Kd.own_of_R ho4); clear hb) | (go_at_call 31; refine (hmay.out _ false _ A.out HB3).mono ?_; rintro e w5 ⟨rfl, hb5⟩; have HB5 := below_step HB3 hb5; obtain ⟨cc2, cc3, cc4, cc5⟩ := HC.out _ HB5; clear hb5))
                go_roundg j
                case measure => have h2 := hle.out; omega
                case rel => exact ⟨wrap64 (kI + 1), rfl, ⟨by have h1 := hk.out; have h2 := hle.out; rw [w64s (by omega) (by omega)]; omega⟩, H', ⟨by have h2 := hle.out; omega⟩, HB5⟩
              | true =>
                simp only [if_true, reduceIte] at H
                replace H := Option.bind_eq_some_iff.mp H
                obtain ⟨⟨q1, q2⟩, F0, H⟩ := H
                obtain ⟨tn, htn⟩ : ∃ t_ : Bool, (((wrap64 (48 + kI)) % 256) == bt bound (b0.size : Int)) = t_ := ⟨_, rfl⟩
                try simp only [Bool.true_and] at F0
                rw [htn] at F0
                have F := Aside0.mk F0
                clear F0
                have hsz : (b0 ++ strOfNums [((wrap64 (48 + kI)) % 256)]).size ≤ bound.size := by rw [ByteArray.size_append, strOfNums_size]; simp only [List.length_cons, List.length_nil]; omega
                go_wp2_with (first | ((with_reducible refine gate_dst (N := 57) rfl ?_); refine Kd.R_lit (Kd.int .u8) _ 5 ?hg (N := 57) ?hd (xs := ([((wrap64 (48 + kI)) % 256)] : List Int)) (inner := [.int .u8 ((wrap64 (48 + kI)) % 256)]) (ok := fun _ => True) (okp := fun _ => True) ?hr ?hp (fun _ hk => hk) trivial (Below.refl _ _) (Nat.le_refl _) (by simp) ?_; (case hd => rfl); (case hg => rfl); (case hr => first | (go_simp; done) | (go_simp; rfl)); (case hp => exact (Reps.one (show Kd.M (Kd.int .u8) _ _ _ ((wrap64 (48 + kI)) % 256) [.int .u8 ((wrap64 (48 + kI)) % 256)] from rfl) (Reps.none _ _))); intro v108 w3 ho4 hb hg_ hnew_; clear hg_ hnew_; have HB3 := below_step HB hb; obtain ⟨ca2, ca3, ca4, ca5⟩ := HC.out _ HB3; have hcv5 := own_string (P := Try.prog) Try.underlying44 Try.underlying5 Try.underlying9 (Kd.own_of_R ho4); clear hb) | (go_at_call 31; refine (hmay.out _ true _ A.out HB3).mono ?_; rintro e w5 ⟨rfl, hb5⟩; have HB5 := below_step HB3 hb5; obtain ⟨cc2, cc3, cc4, cc5⟩ := HC.out _ HB5; clear hb5))
                go_region_held3 (fun w1 => w1.cell? ⟨B2, 0, none⟩ = some (.string bound) ∧ w1.cell? ⟨B5, 0, none⟩ = some (.func (.func 58) #[] #[.pointer (some ⟨B2, 0, none⟩), .pointer (some ⟨B3, 0, none⟩), .pointer (some ⟨B4, 0, none⟩), .pointer (some ⟨B5, 0, none⟩)])) (first | exact ⟨(HC.out _ (Below.drew HB5)).1, (HC.out _ (Below.drew HB5)).2.2.2⟩ | exact ⟨(HC.out _ (by assumption)).1, (HC.out _ (by assumption)).2.2.2⟩) (first | (go_at_call 58; refine (ih.out _ tn q1 q2 _ hsz (by first | assumption | exact Below.drew HB5) F.out).mono ?_; rintro e w7 ⟨rfl, HB7⟩))
                clear c2 c3 c4 c5
                cases q2 with
                | true =>
                  simp only [if_true, reduceIte, Option.some.injEq, Prod.mk.injEq] at H
                  obtain ⟨rfl, rfl⟩ := H
                  go_wp2_with fail
                  first | go_ret3 | go_ret2
                  all_goals exact ⟨by first | rfl | (simp; done), by assumption⟩
                | false =>
                  simp only [Bool.false_eq_true, if_false, reduceIte] at H
                  have H' := Aside0.mk H
                  clear H
                  go_wp2_with fail
                  go_roundg j
                  case measure => have h2 := hle.out; omega
                  case rel => exact ⟨wrap64 (kI + 1), rfl, ⟨by have h1 := hk.out; have h2 := hle.out; rw [w64s (by omega) (by omega)]; omega⟩, H', ⟨by have h2 := hle.out; omega⟩, by assumption⟩
          | false =>
            have hz : b0.size + (strOfNums [((wrap64 (48 + kI)) % 256)]).size ≤ 9223372036854775807 := by rw [strOfNums_size]; simp only [List.length_cons, List.length_nil]; omega
            have hz2 : (9223372036854775807 < b0.size + (strOfNums [((wrap64 (48 + kI)) % 256)]).size) = False := eq_false (Nat.not_lt.2 hz)
            simp only [dig, Bool.false_eq_true, if_true, if_false, reduceIte] at H
            simp only [cutF, Bool.false_and, if_false, Bool.false_eq_true, reduceIte] at H
            replace H := Option.bind_eq_some_iff.mp H
            obtain ⟨m, A0, H⟩ := H
            have A := Aside0.mk A0
            clear A0
            cases m with
            | false =>
              simp only [Bool.false_eq_true, if_false, reduceIte] at H
              have H' := Aside0.mk H
              clear H
              go_wp2_with (first | ((with_reducible refine gate_dst (N := 57) rfl ?_); refine Kd.R_lit (Kd.int .u8) _ 5 ?hg (N := 57) ?hd (xs := ([((wrap64 (48 + kI)) % 256)] : List Int)) (inner := [.int .u8 ((wrap64 (48 + kI)) % 256)]) (ok := fun _ => True) (okp := fun _ => True) ?hr ?hp (fun _ hk => hk) trivial (Below.refl _ _) (Nat.le_refl _) (by simp) ?_; (case hd => rfl); (case hg => rfl); (case hr => first | (go_simp; done) | (go_simp; rfl)); (case hp => exact (Reps.one (show Kd.M (Kd.int .u8) _ _ _ ((wrap64 (48 + kI)) % 256) [.int .u8 ((wrap64 (48 + kI)) % 256)] from rfl) (Reps.none _ _))); intro v108 w3 ho4 hb hg_ hnew_; clear hg_ hnew_; have HB3 := below_step HB hb; obtain ⟨ca2, ca3, ca4, ca5⟩ := HC.out _ HB3; have hcv5 := own_string (P := Try.prog) Try.underlying44 Try.underlying5 Try.underlying9 (Kd.own_of_R ho4); clear hb) | (go_at_call 31; refine (hmay.out _ false _ A.out HB3).mono ?_; rintro e w5 ⟨rfl, hb5⟩; have HB5 := below_step HB3 hb5; obtain ⟨cc2, cc3, cc4, cc5⟩ := HC.out _ HB5; clear hb5))
              go_roundg j
              case measure => have h2 := hle.out; omega
              case rel => exact ⟨wrap64 (kI + 1), rfl, ⟨by have h1 := hk.out; have h2 := hle.out; rw [w64s (by omega) (by omega)]; omega⟩, H', ⟨by have h2 := hle.out; omega⟩, HB5⟩
            | true =>
              simp only [if_true, reduceIte] at H
              replace H := Option.bind_eq_some_iff.mp H
              obtain ⟨⟨q1, q2⟩, F0, H⟩ := H
              try simp only [Bool.false_and] at F0
              have F := Aside0.mk F0
              clear F0
              have hsz : (b0 ++ strOfNums [((wrap64 (48 + kI)) % 256)]).size ≤ bound.size := by rw [ByteArray.size_append, strOfNums_size]; simp only [List.length_cons, List.length_nil]; omega
              go_wp2_with (first | ((with_reducible refine gate_dst (N := 57) rfl ?_); refine Kd.R_lit (Kd.int .u8) _ 5 ?hg (N := 57) ?hd (xs := ([((wrap64 (48 + kI)) % 256)] : List Int)) (inner := [.int .u8 ((wrap64 (48 + kI)) % 256)]) (ok := fun _ => True) (okp := fun _ => True) ?hr ?hp (fun _ hk => hk) trivial (Below.refl _ _) (Nat.le_refl _) (by simp) ?_; (case hd => rfl); (case hg => rfl); (case hr => first | (go_simp; done) | (go_simp; rfl)); (case hp => exact (Reps.one (show Kd.M (Kd.int .u8) _ _ _ ((wrap64 (48 + kI)) % 256) [.int .u8 ((wrap64 (48 + kI)) % 256)] from rfl) (Reps.none _ _))); intro v108 w3 ho4 hb hg_ hnew_; clear hg_ hnew_; have HB3 := below_step HB hb; obtain ⟨ca2, ca3, ca4, ca5⟩ := HC.out _ HB3; have hcv5 := own_string (P := Try.prog) Try.underlying44 Try.underlying5 Try.underlying9 (Kd.own_of_R ho4); clear hb) | (go_at_call 31; refine (hmay.out _ true _ A.out HB3).mono ?_; rintro e w5 ⟨rfl, hb5⟩; have HB5 := below_step HB3 hb5; obtain ⟨cc2, cc3, cc4, cc5⟩ := HC.out _ HB5; clear hb5))
              refine wp_region_held_drew (S := (fun w1 => w1.cell? ⟨B2, 0, none⟩ = some (.string bound) ∧ w1.cell? ⟨B5, 0, none⟩ = some (.func (.func 58) #[] #[.pointer (some ⟨B2, 0, none⟩), .pointer (some ⟨B3, 0, none⟩), .pointer (some ⟨B4, 0, none⟩), .pointer (some ⟨B5, 0, none⟩)]))) (by kernel_rfl) ⟨(HC.out _ (Below.drew HB5)).1, (HC.out _ (Below.drew HB5)).2.2.2⟩ (fun hHeld => ?_)
              refine takeH (i := 0) (N := some 65) (v := ?_) (a' := ?_) rfl rfl (by kernel_rfl) (by kernel_rfl) (by kernel_rfl) (fun _ _ _ h => h) (Or.inl ⟨by rfl, ?hy0f⟩) (by assumption) ?ha0f ?hh0f
              case hy0f =>
                intro w8 hSw
                (try dsimp only at hSw)
                go_simp
                try with_reducible rfl
              case ha0f =>
                simp only [Act.put, List.setIfInBounds_toArray, List.set_cons_zero, List.set_cons_succ]
                rfl
              refine takeH (i := 1) (N := some 66) (v := ?_) (a' := ?_) rfl rfl (by kernel_rfl) (by kernel_rfl) (by kernel_rfl) (fun _ _ _ h => h) (Or.inl ⟨by rfl, ?hy1f⟩) (by assumption) ?ha1f ?hh1f
              case hy1f =>
                intro w8 hSw
                (try dsimp only at hSw)
                go_simp
                try with_reducible rfl
              case ha1f =>
                simp only [Act.put, List.setIfInBounds_toArray, List.set_cons_zero, List.set_cons_succ]
                rfl
              refine takeH (i := 2) (N := some 67) (v := ?_) (a' := ?_) rfl rfl (by kernel_rfl) (by kernel_rfl) (by kernel_rfl) (fun _ _ _ h => h) (Or.inl ⟨by rfl, ?hy2f⟩) (by assumption) ?ha2f ?hh2f
              case hy2f =>
                intro w8 hSw
                (try dsimp only at hSw)
                go_simp
                try with_reducible rfl
              case ha2f =>
                simp only [Act.put, List.setIfInBounds_toArray, List.set_cons_zero, List.set_cons_succ]
                rfl
              refine takeH (i := 3) (N := some 68) (v := ?_) (a' := ?_) rfl rfl (by kernel_rfl) (by kernel_rfl) (by kernel_rfl) (fun _ _ _ h => h) (Or.inl ⟨by rfl, ?hy3f⟩) (by assumption) ?ha3f ?hh3f
              case hy3f =>
                intro w8 hSw
                (try dsimp only at hSw)
                go_simp
                try with_reducible rfl
              case ha3f =>
                simp only [Act.put, List.setIfInBounds_toArray, List.set_cons_zero, List.set_cons_succ]
                rfl
              refine takeH (i := 4) (N := some 69) (v := undef) (a' := ?_) rfl rfl (by kernel_rfl) (by kernel_rfl) (by kernel_rfl) (fun _ _ _ h => h) (Or.inr ⟨by rfl, rfl⟩) (by assumption) ?ha4f ?hh4f
              case ha4f =>
                simp only [Act.put, List.setIfInBounds_toArray, List.set_cons_zero, List.set_cons_succ]
                rfl
              refine takeH (i := 5) (N := some 70) (v := undef) (a' := ?_) rfl rfl (by kernel_rfl) (by kernel_rfl) (by kernel_rfl) (fun _ _ _ h => h) (Or.inr ⟨by rfl, rfl⟩) (by assumption) ?ha5f ?hh5f
              case ha5f =>
                simp only [Act.put, List.setIfInBounds_toArray, List.set_cons_zero, List.set_cons_succ]
                rfl
              refine takeH (i := 6) (N := some 71) (v := undef) (a' := ?_) rfl rfl (by kernel_rfl) (by kernel_rfl) (by kernel_rfl) (fun _ _ _ h => h) (Or.inr ⟨by rfl, rfl⟩) (by assumption) ?ha6f ?hh6f
              case ha6f =>
                simp only [Act.put, List.setIfInBounds_toArray, List.set_cons_zero, List.set_cons_succ]
                rfl
              refine takeH (i := 7) (N := some 72) (v := undef) (a' := ?_) rfl rfl (by kernel_rfl) (by kernel_rfl) (by kernel_rfl) (fun _ _ _ h => h) (Or.inr ⟨by rfl, rfl⟩) (by assumption) ?ha7f ?hh7f
              case ha7f =>
                simp only [Act.put, List.setIfInBounds_toArray, List.set_cons_zero, List.set_cons_succ]
                rfl
              refine takeH (i := 8) (N := some 73) (v := undef) (a' := ?_) rfl rfl (by kernel_rfl) (by kernel_rfl) (by kernel_rfl) (fun _ _ _ h => h) (Or.inr ⟨by rfl, rfl⟩) (by assumption) ?ha8f ?hh8f
              case ha8f =>
                simp only [Act.put, List.setIfInBounds_toArray, List.set_cons_zero, List.set_cons_succ]
                rfl
              refine takeH (i := 9) (N := some 74) (v := ?_) (a' := ?_) rfl rfl (by kernel_rfl) (by kernel_rfl) (by kernel_rfl) (fun _ _ _ h => h) (Or.inl ⟨by rfl, ?hy9f⟩) (by assumption) ?ha9f ?hh9f
              case hy9f =>
                intro w8 hSw
                (try dsimp only at hSw)
                go_simp
                try with_reducible rfl
              case ha9f =>
                simp only [Act.put, List.setIfInBounds_toArray, List.set_cons_zero, List.set_cons_succ]
                rfl
              refine wpAnyH_ready (rs := [10]) (by kernel_rfl) (by simp) ?_
              refine AllReadyH.cons rfl (fun K hK => ?_) AllReadyH.nil
              go_simp
              go_at_call 58
              refine (ih.out _ false q1 q2 _ hsz (Below.drew HB5) F.out).mono ?_
              rintro e w7 ⟨rfl, HB7⟩
              try go_simp
              refine hK.out _ _ ⟨(HC.out _ HB7).1, (HC.out _ HB7).2.2.2⟩ (fun hHeld => ?_)
              clear hK K
              refine takeH (i := 11) (N := some 64) (v := ?_) (a' := ?_) rfl rfl (by kernel_rfl) (by kernel_rfl) (by kernel_rfl) (fun _ _ _ h => h) (Or.inl ⟨by rfl, ?hy11f⟩) (by assumption) ?ha11f ?hh11f
              case hy11f =>
                intro w8 hSw
                (try dsimp only at hSw)
                go_simp
                try with_reducible rfl
              case ha11f =>
                simp only [Act.put, List.setIfInBounds_toArray, List.set_cons_zero, List.set_cons_succ]
                rfl
              refine takeH (i := 12) (N := some 76) (v := ?_) (a' := ?_) rfl rfl (by kernel_rfl) (by kernel_rfl) (by kernel_rfl) (fun _ _ _ h => h) (Or.inl ⟨by rfl, ?hy12f⟩) (by assumption) ?ha12f ?hh12f
              case hy12f =>
                intro w8 hSw
                (try dsimp only at hSw)
                go_simp
                try with_reducible rfl
              case ha12f =>
                simp only [Act.put, List.setIfInBounds_toArray, List.set_cons_zero, List.set_cons_succ]
                rfl
              refine takeH (i := 13) (N := some 77) (v := ?_) (a' := ?_) rfl rfl (by kernel_rfl) (by kernel_rfl) (by kernel_rfl) (fun _ _ _ h => h) (Or.inl ⟨by rfl, ?hy13f⟩) (by assumption) ?ha13f ?hh13f
              case hy13f =>
                intro w8 hSw
                (try dsimp only at hSw)
                go_simp
                try with_reducible rfl
              case ha13f =>
                simp only [Act.put, List.setIfInBounds_toArray, List.set_cons_zero, List.set_cons_succ]
                rfl
              refine takeH (i := 14) (N := some 14) (v := ?_) (a' := ?_) rfl rfl (by kernel_rfl) (by kernel_rfl) (by kernel_rfl) (fun _ _ _ h => h) (Or.inl ⟨by rfl, ?hy14f⟩) (by assumption) ?ha14f ?hh14f
              case hy14f =>
                intro w8 hSw
                (try dsimp only at hSw)
                go_simp
                try with_reducible rfl
              case ha14f =>
                simp only [Act.put, List.setIfInBounds_toArray, List.set_cons_zero, List.set_cons_succ]
                rfl
              refine takeH (i := 15) (N := some 15) (v := ?_) (a' := ?_) rfl rfl (by kernel_rfl) (by kernel_rfl) (by kernel_rfl) (fun _ _ _ h => h) (Or.inl ⟨by rfl, ?hy15f⟩) (by assumption) ?ha15f ?hh15f
              case hy15f =>
                intro w8 hSw
                (try dsimp only at hSw)
                go_simp
                try with_reducible rfl
              case ha15f =>
                simp only [Act.put, List.setIfInBounds_toArray, List.set_cons_zero, List.set_cons_succ]
                rfl
              refine wpAnyH_done (by kernel_rfl) ?_ _
              clear c2 c3 c4 c5
              cases q2 with
              | true =>
                simp only [if_true, reduceIte, Option.some.injEq, Prod.mk.injEq] at H
                obtain ⟨rfl, rfl⟩ := H
                go_wp2_with fail
                first | go_ret3 | go_ret2
                all_goals exact ⟨by first | rfl | (simp; done), by assumption⟩
              | false =>
                simp only [Bool.false_eq_true, if_false, reduceIte] at H
                have H' := Aside0.mk H
                clear H
                go_wp2_with fail
                go_roundg j
                case measure => have h2 := hle.out; omega
                case rel => exact ⟨wrap64 (kI + 1), rfl, ⟨by have h1 := hk.out; have h2 := hle.out; rw [w64s (by omega) (by omega)]; omega⟩, H', ⟨by have h2 := hle.out; omega⟩, by assumption⟩
abbrev w4 (w : World) (v1 v2 v3 v4 : Value) (t1 t2 t3 t4 : TypeId) : World := (((w.alloc (.cells #[v1] t1)).alloc (.cells #[v2] t2)).alloc (.cells #[v3] t3)).alloc (.cells #[v4] t4)
theorem w4_new (w : World) (v1 v2 v3 v4 : Value) (t1 t2 t3 t4 : TypeId) : (w4 w v1 v2 v3 v4 t1 t2 t3 t4).cell? ⟨w.heap.size + 1 + 1 + 1, 0, none⟩ = some v4 ∧ (w4 w v1 v2 v3 v4 t1 t2 t3 t4).frozen? ⟨w.heap.size + 1 + 1 + 1, 0, none⟩ = false :=
  ⟨(World.cell?_alloc_at _ _ _ _ (by simp only [World.size_alloc])).trans rfl, World.frozen?_alloc_at _ _ _ _ (by simp only [World.size_alloc])⟩
theorem w4_cells (w : World) (v1 v2 v3 v4 : Value) (t1 t2 t3 t4 : TypeId) :
    (w4 w v1 v2 v3 v4 t1 t2 t3 t4).cell? ⟨w.heap.size, 0, none⟩ = some v1 ∧ (w4 w v1 v2 v3 v4 t1 t2 t3 t4).cell? ⟨w.heap.size + 1, 0, none⟩ = some v2 ∧ (w4 w v1 v2 v3 v4 t1 t2 t3 t4).cell? ⟨w.heap.size + 1 + 1, 0, none⟩ = some v3 ∧ (w4 w v1 v2 v3 v4 t1 t2 t3 t4).cell? ⟨w.heap.size + 1 + 1 + 1, 0, none⟩ = some v4 ∧ (w4 w v1 v2 v3 v4 t1 t2 t3 t4).heap.size = w.heap.size + 4 ∧ Below w.heap.size w (w4 w v1 v2 v3 v4 t1 t2 t3 t4) := by
  refine ⟨?_, ?_, ?_, ?_, ?_, ?_⟩
  · rw [World.cell?_alloc_past _ _ _ (by simp only [World.size_alloc]; omega), World.cell?_alloc_past _ _ _ (by simp only [World.size_alloc]; omega), World.cell?_alloc_past _ _ _ (by simp only [World.size_alloc]; omega), World.cell?_alloc_at _ _ _ _ (by first | rfl | simp only [World.size_alloc])]
    rfl
  · rw [World.cell?_alloc_past _ _ _ (by simp only [World.size_alloc]; omega), World.cell?_alloc_past _ _ _ (by simp only [World.size_alloc]; omega), World.cell?_alloc_at _ _ _ _ (by first | rfl | simp only [World.size_alloc])]
    rfl
  · rw [World.cell?_alloc_past _ _ _ (by simp only [World.size_alloc]; omega), World.cell?_alloc_at _ _ _ _ (by first | rfl | simp only [World.size_alloc])]
    rfl
  · rw [World.cell?_alloc_at _ _ _ _ (by first | rfl | simp only [World.size_alloc])]
    rfl
  · simp only [World.size_alloc]
  · exact ((((Below.refl _ w).alloc (Nat.le_refl _) _).alloc (by simp only [World.size_alloc]; omega) _).alloc (by simp only [World.size_alloc]; omega) _).alloc (by simp only [World.size_alloc]; omega) _
set_option maxHeartbeats 4000000 in
set_option maxRecDepth 100000 in
theorem impl_search.calls (bound : ByteArray) (down : Bool) (hs : bound.size ≤ 1000) (p3 p4 : Value) (mayF : ByteArray → Option Bool) (k : Nat) (r1 : ByteArray) (r2 : Bool) (w : World)
    (h : findF mayF bound down k ⟨#[]⟩ true = some (r1, r2))
    (hmay : Aside0 (∀ s r w1, mayF s = some r → Below w.heap.size w w1 → Calls Try.prog 31 #[.string s, p3, p4] w1 fun e w' => e = .returned (.bool r) ∧ Below w1.heap.size w1 w')) :
    Calls Try.prog 49 #[.string bound, .bool down, .func (.func 31) #[] #[p3, p4]] w fun e w' => e = .returned (.tuple #[.string r1, .bool r2]) ∧ Below w.heap.size w w' := by
  have A := Aside0.mk h
  clear h
  have HB := Aside0.mk (Below.refl w.heap.size w)
  have hmf : ∀ (fn : Fn) (first cap : Array Value) (w : World), (Instr.makeFunc fn first cap).run Try.prog w = .ok (.func fn first cap) w := fun _ _ _ _ => rfl
  obtain ⟨hn1, hn2⟩ := w4_new w (.string bound) (.bool down) (.func (.func 31) #[] #[p3, p4]) .nilFunc 9 4 24 65
  obtain ⟨hx1, hx2, hx3, hx4, hx5, hx6⟩ := w4_cells w (.string bound) (.bool down) (.func (.func 31) #[] #[p3, p4]) (.func (.func 58) #[] #[.pointer (some ⟨w.heap.size, 0, none⟩), .pointer (some ⟨w.heap.size + 1, 0, none⟩), .pointer (some ⟨w.heap.size + 1 + 1, 0, none⟩), .pointer (some ⟨w.heap.size + 1 + 1 + 1, 0, none⟩)]) 9 4 24 65
  have HX6 := Aside0.mk hx6
  have HX5 := Aside0.mk hx5
  clear hx5 hx6
  dsimp only [w4] at hn1 hn2 hx1 hx2 hx3 hx4
  have HCC : Aside0 (∀ w1, Below (w4 w (.string bound) (.bool down) (.func (.func 31) #[] #[p3, p4]) (.func (.func 58) #[] #[.pointer (some ⟨w.heap.size, 0, none⟩), .pointer (some ⟨w.heap.size + 1, 0, none⟩), .pointer (some ⟨w.heap.size + 1 + 1, 0, none⟩), .pointer (some ⟨w.heap.size + 1 + 1 + 1, 0, none⟩)]) 9 4 24 65).heap.size (w4 w (.string bound) (.bool down) (.func (.func 31) #[] #[p3, p4]) (.func (.func 58) #[] #[.pointer (some ⟨w.heap.size, 0, none⟩), .pointer (some ⟨w.heap.size + 1, 0, none⟩), .pointer (some ⟨w.heap.size + 1 + 1, 0, none⟩), .pointer (some ⟨w.heap.size + 1 + 1 + 1, 0, none⟩)]) 9 4 24 65) w1 → w1.cell? ⟨w.heap.size, 0, none⟩ = some (.string bound) ∧ w1.cell? ⟨w.heap.size + 1, 0, none⟩ = some (.bool down) ∧ w1.cell? ⟨w.heap.size + 1 + 1, 0, none⟩ = some (.func (.func 31) #[] #[p3, p4]) ∧ w1.cell? ⟨w.heap.size + 1 + 1 + 1, 0, none⟩ = some (.func (.func 58) #[] #[.pointer (some ⟨w.heap.size, 0, none⟩), .pointer (some ⟨w.heap.size + 1, 0, none⟩), .pointer (some ⟨w.heap.size + 1 + 1, 0, none⟩), .pointer (some ⟨w.heap.size + 1 + 1 + 1, 0, none⟩)])) := by
    refine ⟨fun w1 hb => ⟨?_, ?_, ?_, ?_⟩⟩
    · exact (hb.cell (by rw [HX5.out]; show w.heap.size < w.heap.size + 4; omega)).trans hx1
    · exact (hb.cell (by rw [HX5.out]; show w.heap.size + 1 < w.heap.size + 4; omega)).trans hx2
    · exact (hb.cell (by rw [HX5.out]; show w.heap.size + 1 + 1 < w.heap.size + 4; omega)).trans hx3
    · exact (hb.cell (by rw [HX5.out]; show w.heap.size + 1 + 1 + 1 < w.heap.size + 4; omega)).trans hx4
  have HMM : Aside0 (∀ s r w1, mayF s = some r → Below (w4 w (.string bound) (.bool down) (.func (.func 31) #[] #[p3, p4]) (.func (.func 58) #[] #[.pointer (some ⟨w.heap.size, 0, none⟩), .pointer (some ⟨w.heap.size + 1, 0, none⟩), .pointer (some ⟨w.heap.size + 1 + 1, 0, none⟩), .pointer (some ⟨w.heap.size + 1 + 1 + 1, 0, none⟩)]) 9 4 24 65).heap.size (w4 w (.string bound) (.bool down) (.func (.func 31) #[] #[p3, p4]) (.func (.func 58) #[] #[.pointer (some ⟨w.heap.size, 0, none⟩), .pointer (some ⟨w.heap.size + 1, 0, none⟩), .pointer (some ⟨w.heap.size + 1 + 1, 0, none⟩), .pointer (some ⟨w.heap.size + 1 + 1 + 1, 0, none⟩)]) 9 4 24 65) w1 → Calls Try.prog 31 #[.string s, p3, p4] w1 fun e w' => e = .returned (.bool r) ∧ Below w1.heap.size w1 w') := ⟨fun s r w1 hm hb => hmay.out s r w1 hm (below_step HX6.out hb)⟩
  have hst : ∀ (a : Addr) (fn : Fn) (x y : Array Value) (m : Mode) (w : World), (store a (.func fn x y) m).run Try.prog w = stored Try.prog w a (.func fn x y) m := fun a fn x y m w => run_store Try.prog w a _ m rfl
  go_enter Try.func49, Try.ntmps49
  go_wp2_with (go_at_call 58; refine (find_calls bound down hs w.heap.size (w.heap.size + 1) (w.heap.size + 1 + 1) (w.heap.size + 1 + 1 + 1) p3 p4 mayF _ HCC HMM k ⟨#[]⟩ true r1 r2 _ (Nat.zero_le _) (Below.refl _ _) A.out).mono ?_; rintro e w7 ⟨rfl, HB7⟩)
  first | go_ret3 | go_ret2
  all_goals exact ⟨by first | rfl | (simp; done), below_step HX6.out (by assumption)⟩
def zerosOf (n : Nat) : ByteArray := ⟨(Go.Lib.repeatL (⟨#[48]⟩ : ByteArray).data.toList n).toArray⟩
def nextAroundF (mayF : ByteArray → Option Bool) (k : Nat) (a0 : ByteArray) : Option (ByteArray × Bool) := if a0.size ≤ 1000 ∧ (zerosOf a0.size).size ≤ 1000 then (findF mayF a0 false k ⟨#[]⟩ true).bind fun p => if p.2 = true then some (p.1, true) else findF mayF (zerosOf a0.size) false k ⟨#[]⟩ true else none
theorem nextAroundF.mono_l {m n : ByteArray → Option Bool} (h2 : ∀ b, LeO (m b) (n b)) (k : Nat) (a0 : ByteArray) : LeO (nextAroundF m k a0) (nextAroundF n (k + 1) a0) := by
  unfold nextAroundF
  exact LeO.ite (LeO.bind (findF.mono_l h2 _ _ _ _ _) (fun _ => LeO.ite (LeO.refl _) (findF.mono_l h2 _ _ _ _ _))) (LeO.none _)
set_option maxHeartbeats 4000000 in
set_option maxRecDepth 100000 in
theorem impl_nextAround.calls (a0 : ByteArray) (p3 p4 : Value) (mayF : ByteArray → Option Bool) (k : Nat) (r1 : ByteArray) (r2 : Bool) (w : World)
    (h : nextAroundF mayF k a0 = some (r1, r2))
    (hmay : Aside0 (∀ s r w1, mayF s = some r → Below w.heap.size w w1 → Calls Try.prog 31 #[.string s, p3, p4] w1 fun e w' => e = .returned (.bool r) ∧ Below w1.heap.size w1 w')) :
    Calls Try.prog 30 #[.string a0, .func (.func 31) #[] #[p3, p4]] w fun e w' => e = .returned (.tuple #[.string r1, .bool r2]) ∧ Below w.heap.size w w' := by
  unfold nextAroundF at h
  split at h
  case isFalse => cases h
  rename_i hsz
  obtain ⟨hs1, hs2⟩ := hsz
  replace h := Option.bind_eq_some_iff.mp h
  obtain ⟨⟨q1, q2⟩, A0, H⟩ := h
  have A := Aside0.mk A0
  clear A0
  have HS1 := Aside0.mk hs1
  have HS2 := Aside0.mk hs2
  have R := Aside0.mk (show strings_Repeat.f (⟨#[48]⟩ : ByteArray) (a0.size : Int) = some (zerosOf a0.size) from by unfold strings_Repeat.f; rw [if_pos ⟨by omega, by omega, by decide⟩, Int.toNat_natCast]; rfl)
  clear hs1 hs2
  cases q2 with
  | true =>
    simp only [if_true, reduceIte, Option.some.injEq, Prod.mk.injEq] at H
    obtain ⟨rfl, rfl⟩ := H
    go_enter Try.func30, Try.ntmps30
    go_wp2_with (go_at_call 49; (with_reducible refine (impl_search.calls a0 false HS1.out p3 p4 mayF k q1 true _ A.out hmay).mono ?_); rintro e w7 ⟨rfl, HB7⟩)
    first | go_ret3 | go_ret2
    all_goals exact ⟨by first | rfl | (simp; done), by assumption⟩
  | false =>
    simp only [Bool.false_eq_true, if_false, reduceIte] at H
    have F := Aside0.mk H
    clear H
    go_enter Try.func30, Try.ntmps30
    go_wp2_with (first | (go_at_call 49; (with_reducible refine (impl_search.calls a0 false HS1.out p3 p4 mayF k q1 false _ A.out hmay).mono ?_); rintro e w7 ⟨rfl, HB7⟩; clear A) | (go_at_call 50; (with_reducible refine (strings_Repeat.calls (⟨#[48]⟩ : ByteArray) (a0.size : Int) (zerosOf a0.size) _ R.out).mono ?_); rintro e w8 ⟨rfl, hb8⟩; have HB8 := below_step HB7 hb8; clear hb8; clear HB7; have HMM : Aside0 (∀ s r w1, mayF s = some r → Below w8.heap.size w8 w1 → Calls Try.prog 31 #[.string s, p3, p4] w1 fun e w' => e = .returned (.bool r) ∧ Below w1.heap.size w1 w') := ⟨fun s r w1 hm hb => hmay.out s r w1 hm (below_step HB8 hb)⟩) | (go_at_call 49; (with_reducible refine (impl_search.calls (zerosOf a0.size) false HS2.out p3 p4 mayF k r1 r2 _ F.out HMM).mono ?_); rintro e w9 ⟨rfl, hb9⟩; have HB9 := below_step HB8 hb9; clear hb9))
    first | go_ret3 | go_ret2
    all_goals exact ⟨by first | rfl | (simp; done), by assumption⟩
end Go.Proofs.Ytkbbmkbkpkmdkab.Ext
