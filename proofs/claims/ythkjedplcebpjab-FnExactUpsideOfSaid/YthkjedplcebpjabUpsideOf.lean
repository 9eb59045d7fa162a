/- The contract of impl.UpsideOf: of a reading of at most 1000 bytes the text that is read upside down. -/
import Derived.Test.YthkjedplcebpjabQA1x1
import Derived.Test.YthkjedplcebpjabQA2x1
import Derived.Test.YthkjedplcebpjabTurned
import Derived.Shelf.SlicesE.Index
namespace Go.Proofs.Ythkjedplcebpjab.Ext
set_option linter.unusedVariables false
open Go.RowKit Go.Shelf Go.Sort Go.Lib Go.Proofs.YthkjedplcebpjabW.PrintWords Go.Proofs.YthkjedplcebpjabW.PrintLast
def lHas_ren : Go.Shelf.Ren := ⟨fun | 29 => 42 | 31 => 26 | n => n, fun | 22 => 40 | 23 => 5 | 3 => 3 | 4 => 4 | 0 => 0 | n => n, fun | n => n⟩
theorem lHas : Go.Proofs.SlLaysE.n31 Try.prog lHas_ren := {
  mixed := by kernel_rfl
  f29 := ⟨Try.f42.name, by decide, Try.func42.trans (congrArg some (by kernel_rfl))⟩
  f31 := ⟨Try.f26.name, by decide, Try.func26.trans (congrArg some (by kernel_rfl))⟩
  t0 := Try.underlying0
  a0 := Try.isAgg0
  z0 := Try.sizeOf0
  v0 := Try.zeroValue0
  t3 := Try.underlying3
  a3 := Try.isAgg3
  z3 := Try.sizeOf3
  v3 := Try.zeroValue3
  t4 := Try.underlying4
  a4 := Try.isAgg4
  z4 := Try.sizeOf4
  v4 := Try.zeroValue4
  t22 := Try.underlying40
  a22 := Try.isAgg40
  z22 := Try.sizeOf40
  v22 := Try.zeroValue40
  a23 := Try.isAgg5
  z23 := Try.sizeOf5 }
/-- The digit that is read upside down, 0 for none. -/
def upI (c : Int) : Int := if c = 48 then c else if c = 49 then c else if c = 56 then c else if c = 54 then 57 else if c = 57 then 54 else 0
theorem upside_f (c : Int) : Go.Proofs.Ythkjedplcebpjab.QA2.impl_upside.f 9 c = some (upI c) := by
  unfold Go.Proofs.Ythkjedplcebpjab.QA2.impl_upside.f upI
  by_cases h1 : c = 48
  · rw [if_pos h1, if_pos h1]; subst h1; rfl
  · rw [if_neg h1, if_neg h1]
    by_cases h2 : c = 49
    · rw [if_pos h2, if_pos h2]; subst h2; rfl
    · rw [if_neg h2, if_neg h2]
      by_cases h3 : c = 56
      · rw [if_pos h3]; subst h3; rfl
      · rw [if_neg h3, beq_eq_false_iff_ne.2 h3]
        by_cases h4 : c = 54
        · rw [if_pos h4]; subst h4; rfl
        · rw [if_neg h4]
          by_cases h5 : c = 57
          · rw [if_pos h5]; subst h5; rfl
          · rw [if_neg h5]; simp [Go.Proofs.Ythkjedplcebpjab.QA2.impl_upside.j0, h4, h5]
def upsL (s : ByteArray) : List Int := (bytesOf (revB s)).map upI
def upsAns (s : ByteArray) : ByteArray × Bool := if (upsL s).any (fun y => (0 : Int) == y) = true then (⟨#[]⟩, false) else (strOfNums (upsL s), true)
def impl_UpsideOf.f (k : Nat) (a0 : ByteArray) : Option (ByteArray × Bool) := (Go.Proofs.Ythkjedplcebpjab.QA1.impl_IsReading.f k a0).bind fun t => if t = true then (if a0.size ≤ 1000 ∧ (revB a0).size ≤ 1000 then some (upsAns a0) else none) else some (⟨#[]⟩, false)
theorem impl_UpsideOf.mono : ∀ a0 k, LeO (impl_UpsideOf.f k a0) (impl_UpsideOf.f (k + 1) a0) := by
  intro a0 k
  unfold impl_UpsideOf.f
  exact LeO.bind (Go.Proofs.Ythkjedplcebpjab.QA1.impl_IsReading.mono _ _) (fun _ => LeO.refl _)
/-- The row behind so many stores. -/
def upTo (xs : List Int) (j : Nat) : List Int := (xs.take j).map upI ++ xs.drop j
theorem upTo_len (xs : List Int) (j : Nat) : (upTo xs j).length = xs.length := by unfold upTo; simp; omega
theorem upTo_get (xs : List Int) {j : Nat} (h : j ≤ xs.length) (i : Nat) : (upTo xs j)[i]? = if i < j then (xs[i]?).map upI else xs[i]? := by
  unfold upTo
  by_cases hi : i < j
  · rw [if_pos hi, List.getElem?_append_left (by simp; omega), List.getElem?_map, List.getElem?_take, if_pos hi]
  · rw [if_neg hi, List.getElem?_append_right (by simp; omega), List.length_map, List.length_take, Nat.min_eq_left h, List.getElem?_drop]
    congr 1; omega
theorem upTo_at {xs : List Int} {j : Nat} (h : j < xs.length) : (upTo xs j)[j]? = some xs[j] := by
  rw [upTo_get xs (Nat.le_of_lt h), if_neg (by omega), List.getElem?_eq_getElem h]
theorem upTo_succ {xs : List Int} {j : Nat} (h : j < xs.length) : upTo xs (j + 1) = (upTo xs j).set j (upI xs[j]) := by
  apply List.ext_getElem?
  intro i
  rw [List.getElem?_set, upTo_get xs h, upTo_get xs (Nat.le_of_lt h), upTo_len]
  by_cases e : j = i
  · subst e; rw [if_pos (by omega), if_pos rfl, if_pos h, List.getElem?_eq_getElem h]; rfl
  · rw [if_neg e]
    by_cases e2 : i < j
    · rw [if_pos (by omega), if_pos e2]
    · rw [if_neg (by omega), if_neg e2]
theorem holds_store {W : World} {g : Nat} {xs : List Int} (H : Holds encB W g 0 xs.toArray) (j : Nat) (v : Int) (hj : j < xs.length) : Holds encB (W.setCell ⟨g, j, none⟩ (encB v)) g 0 (xs.set j v).toArray := by
  intro i hi
  have hi' : i < xs.length := by simpa using hi
  obtain ⟨h1, h2⟩ := H i (by simpa using hi')
  rw [Nat.zero_add] at h1 h2 ⊢
  refine ⟨?_, by rw [World.frozen?_setCell]; exact h2⟩
  by_cases e : i = j
  · subst e
    rw [World.cell?_setCell_same (h := h1), getElem!_pos (xs.set i v).toArray i hi]
    simp
  · rw [World.cell?_setCell_other (h := fun x => e (by injection x with _ x; exact x.symm)), h1, getElem!_pos (xs.set j v).toArray i hi, getElem!_pos xs.toArray i (by simpa using hi')]
    simp [Ne.symm e]
theorem holds_drewN {W : World} {g : Nat} {xs : List Int} (H : Holds encB W g 0 xs.toArray) (n : Nat) : Holds encB (W.drewN n) g 0 xs.toArray := by
  intro i hi
  obtain ⟨h1, h2⟩ := H i hi
  exact ⟨by simpa using h1, by simpa using h2⟩
theorem holds_at {W : World} {g j : Nat} {xs : List Int} {v : Int} (H : Holds encB W g 0 xs.toArray) (h : xs[j]? = some v) : W.cell? ⟨g, j, none⟩ = some (.int .u8 v) ∧ W.frozen? ⟨g, j, none⟩ = false := by
  have hj : j < xs.length := by
    by_cases hh : j < xs.length
    · exact hh
    · rw [List.getElem?_eq_none (by omega)] at h; cases h
  obtain ⟨h1, h2⟩ := H j (by simpa using hj)
  rw [Nat.zero_add] at h1 h2
  refine ⟨?_, h2⟩
  rw [h1, getElem!_pos xs.toArray j (by simpa using hj)]
  rw [List.getElem?_eq_getElem hj] at h
  simp only [List.getElem_toArray, Option.some.inj h]
  rfl
set_option maxHeartbeats 4000000 in
set_option maxRecDepth 100000 in
theorem impl_UpsideOf.calls (k : Nat) (a0 : ByteArray) (r1 : ByteArray) (r2 : Bool) (w : World) (h : impl_UpsideOf.f k a0 = some (r1, r2)) :
    Calls Try.prog 9 #[.string a0] w fun e w' => e = .returned (.tuple #[.string r1, .bool r2]) ∧ Below w.heap.size w w' := by
  have HB := Aside0.mk (Below.refl w.heap.size w)
  unfold impl_UpsideOf.f at h
  replace h := Option.bind_eq_some_iff.mp h
  obtain ⟨t, A, H⟩ := h
  have A2 := Aside0.mk A
  clear A
  by_cases c3 : t = true
  · subst c3
    rw [if_pos rfl] at H
    by_cases hs : a0.size ≤ 1000 ∧ (revB a0).size ≤ 1000
    · rw [if_pos hs] at H
      have E12 := Aside0.mk (Option.some.inj H)
      clear H
      have A4 := Aside0.mk (show impl_turned.f a0 = some (revB a0) from by unfold impl_turned.f; rw [if_pos hs.1])
      have HS := Aside0.mk hs.2
      clear hs
      go_enter Try.func9, Try.ntmps9
      go_wp2_with (first | ((with_reducible refine gate_callee (f := 23) rfl ?_); refine goesL_ (some 8) rfl rfl Try.func23 (by kernel_rfl) rfl #[.string a0] rfl (by (try simp only [List.map_toArray, List.map_cons, List.map_nil]); first | done | rfl) ?_; (with_reducible refine (Go.Proofs.Ythkjedplcebpjab.QA1.impl_IsReading.calls k a0 true _ A2.out).mono ?_); rintro e w' ⟨rfl, ⟨nd, rfl⟩⟩; refine ⟨_, rfl, ?_⟩) | ((with_reducible refine gate_callee (f := 24) rfl ?_); refine goesL_ (some 11) rfl rfl Try.func24 (by kernel_rfl) rfl #[.string a0] rfl (by (try simp only [List.map_toArray, List.map_cons, List.map_nil]); first | done | rfl) ?_; (with_reducible refine (impl_turned.calls a0 (revB a0) _ A4.out).mono ?_); rintro e w5 ⟨rfl, hb⟩; refine ⟨_, rfl, ?_⟩; have n0_ := Aside0.mk (below_step (by repeat (first | (with_reducible first | exact HB.out | apply below_alloc | apply pw_below_drewN | apply below_drew1) | exact HB.out)) hb); clear HB; have HB := n0_; clear n0_ hb; (obtain ⟨cap, W1, hconv, hH, hB, hz⟩ : ∃ (cap : Nat) (W1 : World), (convert 9 40 (.string (revB a0))).run Try.prog w5 = .ok (.slice (some ⟨w5.heap.size, 0, none⟩) (revB a0).size cap) W1 ∧ Holds encB W1 w5.heap.size 0 (bytesOf (revB a0)).toArray ∧ Below w5.heap.size w5 W1 ∧ W1.heap.size = w5.heap.size + 1 := ⟨_, _, Lib.run_convert_string_bytes w5 9 40 5 (revB a0) Try.underlying9 Try.underlying40 Try.underlying5, bytesWorld_holds w5 5 (revB a0), bytesWorld_below w5 5 (revB a0), Lib.bytesWorld_size w5 5 (revB a0)⟩)))
      have GE := Aside0.mk HB.out.size
      have HB2 := Aside0.mk (below_step HB.out hB)
      have HH := Aside0.mk hH
      have HL := Aside0.mk (bytesOf_length (revB a0))
      have EU := Aside0.mk (show upsL a0 = (bytesOf (revB a0)).map upI from rfl)
      clear hconv hH hB hz HB A4
      generalize w5.heap.size = g at GE HH ⊢
      generalize bytesOf (revB a0) = xs at HH HL EU
      generalize (revB a0).size = n at HS HL ⊢
      go_loopg [15] n (fun kq v15 w' => ∃ j : Nat, v15 = .int .i64 (j : Int) ∧ Aside0 (j + kq = n) ∧ Aside0 (Holds encB w' g 0 (upTo xs j).toArray) ∧ Aside0 (Below w.heap.size w w'))
      case atStart => exact ⟨0, rfl, ⟨by omega⟩, ⟨by rw [show upTo xs 0 = xs by simp [upTo]]; exact HH.out⟩, HB2⟩
      case round =>
        clear HH HB2
        obtain ⟨j, rfl, HA, HO, HB3⟩ := hrel
        cases gk with
        | zero =>
          have hjn : j = n := by have := HA.out; omega
          have cb : decide ((j : Int) < (n : Int)) = false := decide_eq_false (by omega)
          have hfin : upTo xs j = xs.map upI := by unfold upTo; rw [List.take_of_length_le (by have := HL.out; omega), List.drop_eq_nil_of_le (by have := HL.out; omega), List.append_nil]
          have hcon := AnyE.slices_Contains lHas (Value.int .u8) _ (EqlAt.int _ _ _) g 0 n cap (upTo xs j) 0 wr (by rw [upTo_len]; have := HL.out; omega) (by have := HS.out; omega) (fun i hi => by
            have h1 := (HO.out i (by simpa using hi)).1
            rw [h1, getElem!_pos (upTo xs j).toArray i (by simpa using hi), getElem!_pos (upTo xs j) i hi]; rfl)
          have htk : (upTo xs j).take n = xs.map upI := by rw [hfin, List.take_of_length_le (by rw [List.length_map]; have := HL.out; omega)]
          rw [htk] at hcon
          have hback : (convert 40 9 (.slice (some ⟨g, 0, none⟩) n cap)).run Try.prog wr = .ok (.string (strOfNums (upTo xs j))) wr := string_of_reads Try.underlying40 Try.underlying5 Try.underlying9 (holds_reads HO.out (by rw [upTo_len]; exact HL.out.symm) (by have := HS.out; omega))
          rw [hfin] at hback
          have E := E12.out
          unfold upsAns at E
          rw [EU.out] at E
          clear E12 EU HO
          have HC := Aside0.mk hcon
          clear hcon
          generalize hb : (xs.map upI).any (fun y => (0 : Int) == y) = b at HC E
          cases b with
          | true =>
            rw [if_pos rfl] at E
            injection E with E1 E2
            subst E1
            subst E2
            go_wp2_with (first | ((with_reducible refine gate_callee (f := 26) rfl ?_); refine goesL_ (some 27) rfl rfl Try.func26 (by kernel_rfl) rfl #[.slice (some ⟨g, 0, none⟩) n cap, .int .u8 0] rfl (by (try simp only [List.map_toArray, List.map_cons, List.map_nil]); first | done | rfl) ?_; refine HC.out.mono ?_; rintro e w' ⟨rfl, rfl⟩; refine ⟨_, rfl, ?_⟩))
            go_ret2
            exact ⟨by first | rfl | (simp [errW_none, errW_some] <;> rfl), HB3.out⟩
          | false =>
            rw [if_neg (by decide)] at E
            injection E with E1 E2
            subst E1
            subst E2
            go_wp2_with (first | ((with_reducible refine gate_callee (f := 26) rfl ?_); refine goesL_ (some 27) rfl rfl Try.func26 (by kernel_rfl) rfl #[.slice (some ⟨g, 0, none⟩) n cap, .int .u8 0] rfl (by (try simp only [List.map_toArray, List.map_cons, List.map_nil]); first | done | rfl) ?_; refine HC.out.mono ?_; rintro e w' ⟨rfl, rfl⟩; refine ⟨_, rfl, ?_⟩))
            go_ret2
            exact ⟨by first | rfl | (simp [errW_none, errW_some] <;> rfl), HB3.out⟩
        | succ k1 =>
          have hj : j < n := by have := HA.out; omega
          have hjx : j < xs.length := by have := HL.out; omega
          have cb : decide ((j : Int) < (n : Int)) = true := decide_eq_true (by omega)
          obtain ⟨hx, hf⟩ := holds_at HO.out (upTo_at hjx)
          have p0 : (0 ≤ (j : Int)) = True := eq_true (by omega)
          have q0 : ((j : Int) < (n : Int)) = True := eq_true (by omega)
          have hx2 : wr.cell? ⟨g, ((j : Int)).toNat, none⟩ = some (.int .u8 xs[j]) := by rw [Int.toNat_natCast]; exact hx
          have hw1 : wrap64 ((j : Int) + 1) = ((j + 1 : Nat) : Int) := by
            have := HS.out
            unfold wrap64; omega
          go_wp2_with (first | ((with_reducible refine gate_callee (f := 25) rfl ?_); refine goesL_ (some 23) rfl rfl Try.func25 (by kernel_rfl) rfl #[.int .u8 xs[j]] rfl (by (try simp only [List.map_toArray, List.map_cons, List.map_nil]); first | done | rfl) ?_; (with_reducible refine (Go.Proofs.Ythkjedplcebpjab.QA2.impl_upside.calls 9 xs[j] (upI xs[j]) _ (upside_f _)).mono ?_); rintro e w' ⟨rfl, ⟨nd, rfl⟩⟩; refine ⟨_, rfl, ?_⟩; have HO7 := Aside0.mk (holds_drewN HO.out nd); have HB7 := Aside0.mk (pw_below_drewN HB3.out nd); clear HO HB3 hx hf hx2; generalize wr.drewN nd = w7 at HO7 HB7 ⊢; (obtain ⟨hx7, hf7⟩ := holds_at HO7.out (upTo_at hjx))) | ((with_reducible refine gate_store (t := 5) (p := 24) rfl ?_); refine store_event (t := 5) (p := 24) (v := ?vo_) (w1 := (w7.setCell ⟨g, ((j : Int)).toNat, none⟩ (.int .u8 (upI xs[j])))) ?hg ?ho ?hn ?hr ?_; (case ho => rfl); (case hg => rfl); (case hn => rfl); (case hr => first | (go_simp; done) | (go_simp; rfl)); intro w8 hw; have HO8 := Aside0.mk (show Holds encB w8 g 0 (upTo xs (j + 1)).toArray by rw [hw, upTo_succ hjx, Int.toNat_natCast]; exact holds_store HO7.out j (upI xs[j]) (by rw [upTo_len]; exact hjx)); have HB8 := Aside0.mk (show Below w.heap.size w w8 by rw [hw]; exact below_set HB7.out GE.out); clear hw))
          go_roundg k1
          case measure => have := HA.out; omega
          case rel => exact ⟨j + 1, (by first | rfl | (rw [hw1]) | (simp [hw1])), ⟨by have := HA.out; omega⟩, HO8, HB8⟩
    · rw [if_neg hs] at H; cases H
  · replace c3 := Bool.eq_false_iff.mpr c3
    subst c3
    rw [if_neg (by decide)] at H
    simp only [Option.some.injEq, Prod.mk.injEq] at H
    obtain ⟨rfl, rfl⟩ := H
    go_enter Try.func9, Try.ntmps9
    go_wp2_with (first | ((with_reducible refine gate_callee (f := 23) rfl ?_); refine goesL_ (some 8) rfl rfl Try.func23 (by kernel_rfl) rfl #[.string a0] rfl (by (try simp only [List.map_toArray, List.map_cons, List.map_nil]); first | done | rfl) ?_; (with_reducible refine (Go.Proofs.Ythkjedplcebpjab.QA1.impl_IsReading.calls k a0 false _ A2.out).mono ?_); rintro e w' ⟨rfl, ⟨nd, rfl⟩⟩; refine ⟨_, rfl, ?_⟩))
    go_ret2
    exact ⟨by first | rfl | (simp [errW_none, errW_some] <;> rfl), by repeat (first | (with_reducible first | exact HB.out | apply below_alloc | apply pw_below_drewN | apply below_drew1) | exact HB.out)⟩
end Go.Proofs.Ythkjedplcebpjab.Ext
