/- The contracts of impl.search and impl.ofKind. Condition: the bound is at most 1000 bytes. -/
import Derived.Test.YthkjedplcebpjagSearch
namespace Go.Proofs.Ythkjedplcebpjag.Ext
set_option linter.unusedVariables false
set_option linter.unusedSimpArgs false
open Go.RowKit Go.Shelf Go.Lib Go.Proofs.YthkjedplcebpjagW.PrintWords Go.Proofs.YthkjedplcebpjagW.PrintLast Go.Proofs.YthkjedplcebpjagW.PrintMore
set_option maxHeartbeats 4000000 in
set_option maxRecDepth 100000 in
theorem ofKind1_calls (k : Nat) (kind : Int) (bound s : ByteArray) (r : Bool) (Ba Bb : Nat) (w : World) (ha : w.cell? ⟨Ba, 0, none⟩ = some (.int .u8 kind)) (hb : w.cell? ⟨Bb, 0, none⟩ = some (.string bound))
    (h : Go.Proofs.Ythkjedplcebpjag.QA1.impl_may.f k kind s (bound.size : Int) = some r) :
    Calls Try.prog 38 #[.string s, .pointer (some ⟨Ba, 0, none⟩), .pointer (some ⟨Bb, 0, none⟩)] w fun e w' => e = .returned (.bool r) ∧ Below w.heap.size w w' := by
  have A := Aside0.mk h
  clear h
  have HB := Aside0.mk (Below.refl w.heap.size w)
  go_enter Try.func38, Try.ntmps38
  go_wp2_with (go_at_call 39; refine (Go.Proofs.Ythkjedplcebpjag.QA1.impl_may.calls k kind s (bound.size : Int) r _ A.out).mono ?_; rintro e w' ⟨rfl, ⟨nd, rfl⟩⟩)
  first | go_ret3 | go_ret2 | go_ret
  all_goals exact ⟨by first | rfl | (simp; done), by repeat (first | (with_reducible first | exact HB.out | apply below_alloc | apply pw_below_drewN | apply below_drew1) | exact HB.out)⟩
abbrev w4 (w : World) (v1 v2 v3 v4 : Value) (t1 t2 t3 t4 : TypeId) : World := (((w.alloc (.cells #[v1] t1)).alloc (.cells #[v2] t2)).alloc (.cells #[v3] t3)).alloc (.cells #[v4] t4)
theorem w4_new (w : World) (v1 v2 v3 v4 : Value) (t1 t2 t3 t4 : TypeId) : (w4 w v1 v2 v3 v4 t1 t2 t3 t4).cell? ⟨w.heap.size + 1 + 1 + 1, 0, none⟩ = some v4 ∧ (w4 w v1 v2 v3 v4 t1 t2 t3 t4).frozen? ⟨w.heap.size + 1 + 1 + 1, 0, none⟩ = false :=
  ⟨(World.cell?_alloc_at _ _ _ _ (by simp only [World.size_alloc])).trans rfl, World.frozen?_alloc_at _ _ _ _ (by simp only [World.size_alloc])⟩
theorem w4_cells (w : World) (v1 v2 v3 v4 : Value) (t1 t2 t3 t4 : TypeId) :
    (w4 w v1 v2 v3 v4 t1 t2 t3 t4).cell? ⟨w.heap.size, 0, none⟩ = some v1 ∧ (w4 w v1 v2 v3 v4 t1 t2 t3 t4).cell? ⟨w.heap.size + 1, 0, none⟩ = some v2 ∧ (w4 w v1 v2 v3 v4 t1 t2 t3 t4).cell? ⟨w.heap.size + 1 + 1, 0, none⟩ = some v3 ∧ (w4 w v1 v2 v3 v4 t1 t2 t3 t4).cell? ⟨w.heap.size + 1 + 1 + 1, 0, none⟩ = some v4 ∧ (w4 w v1 v2 v3 v4 t1 t2 t3 t4).heap.size = w.heap.size + 4 ∧ Below w.heap.size w (w4 w v1 v2 v3 v4 t1 t2 t3 t4) := by
  refine ⟨?_, ?_, ?_, ?_, ?_, ?_⟩
  · rw [World.cell?_alloc_past _ _ _ (by simp only [World.size_alloc]; omega), World.cell?_alloc_past _ _ _ (by simp only [World.size_alloc]; omega), World.cell?_alloc_past _ _ _ (by simp only [World.size_alloc]; omega), World.cell?_alloc_at _ _ _ _ (by first | rfl | simp only [World.size_alloc])]
    rfl
  · rw [World.cell?_alloc_past _ _ _ (by simp only [World.size_alloc]; omega), World.cell?_alloc_past _ _ _ (by simp only [World.size_alloc]; omega), World.cell?_alloc_at _ _ _ _ (by first | rfl | simp only [World.size_alloc])]
    rfl
  · rw [World.cell?_alloc_past _ _ _ (by simp only [World.size_alloc]; omega), World.cell?_alloc_at _ _ _ _ (by first | rfl | simp only [World.size_alloc])]
    rfl
  · rw [World.cell?_alloc_at _ _ _ _ (by first | rfl | simp only [World.size_alloc])]
    rfl
  · simp only [World.size_alloc]
  · exact ((((Below.refl _ w).alloc (Nat.le_refl _) _).alloc (by simp only [World.size_alloc]; omega) _).alloc (by simp only [World.size_alloc]; omega) _).alloc (by simp only [World.size_alloc]; omega) _
set_option maxHeartbeats 4000000 in
set_option maxRecDepth 100000 in
theorem impl_search.calls (bound : ByteArray) (down : Bool) (hs : bound.size ≤ 1000) (p3 p4 : Value) (mayF : ByteArray → Option Bool) (k : Nat) (r1 : ByteArray) (r2 : Bool) (w : World)
    (h : findF mayF bound down k ⟨#[]⟩ true = some (r1, r2))
    (hmay : Aside0 (∀ s r w1, mayF s = some r → Below w.heap.size w w1 → Calls Try.prog 38 #[.string s, p3, p4] w1 fun e w' => e = .returned (.bool r) ∧ Below w1.heap.size w1 w')) :
    Calls Try.prog 37 #[.string bound, .bool down, .func (.func 38) #[] #[p3, p4]] w fun e w' => e = .returned (.tuple #[.string r1, .bool r2]) ∧ Below w.heap.size w w' := by
  have A := Aside0.mk h
  clear h
  have HB := Aside0.mk (Below.refl w.heap.size w)
  have hmf : ∀ (fn : Fn) (first cap : Array Value) (w : World), (Instr.makeFunc fn first cap).run Try.prog w = .ok (.func fn first cap) w := fun _ _ _ _ => rfl
  obtain ⟨hn1, hn2⟩ := w4_new w (.string bound) (.bool down) (.func (.func 38) #[] #[p3, p4]) .nilFunc 9 4 24 76
  obtain ⟨hx1, hx2, hx3, hx4, hx5, hx6⟩ := w4_cells w (.string bound) (.bool down) (.func (.func 38) #[] #[p3, p4]) (.func (.func 59) #[] #[.pointer (some ⟨w.heap.size, 0, none⟩), .pointer (some ⟨w.heap.size + 1, 0, none⟩), .pointer (some ⟨w.heap.size + 1 + 1, 0, none⟩), .pointer (some ⟨w.heap.size + 1 + 1 + 1, 0, none⟩)]) 9 4 24 76
  have HX6 := Aside0.mk hx6
  have HX5 := Aside0.mk hx5
  clear hx5 hx6
  dsimp only [w4] at hn1 hn2 hx1 hx2 hx3 hx4
  have HCC : Aside0 (∀ w1, Below (w4 w (.string bound) (.bool down) (.func (.func 38) #[] #[p3, p4]) (.func (.func 59) #[] #[.pointer (some ⟨w.heap.size, 0, none⟩), .pointer (some ⟨w.heap.size + 1, 0, none⟩), .pointer (some ⟨w.heap.size + 1 + 1, 0, none⟩), .pointer (some ⟨w.heap.size + 1 + 1 + 1, 0, none⟩)]) 9 4 24 76).heap.size (w4 w (.string bound) (.bool down) (.func (.func 38) #[] #[p3, p4]) (.func (.func 59) #[] #[.pointer (some ⟨w.heap.size, 0, none⟩), .pointer (some ⟨w.heap.size + 1, 0, none⟩), .pointer (some ⟨w.heap.size + 1 + 1, 0, none⟩), .pointer (some ⟨w.heap.size + 1 + 1 + 1, 0, none⟩)]) 9 4 24 76) w1 → w1.cell? ⟨w.heap.size, 0, none⟩ = some (.string bound) ∧ w1.cell? ⟨w.heap.size + 1, 0, none⟩ = some (.bool down) ∧ w1.cell? ⟨w.heap.size + 1 + 1, 0, none⟩ = some (.func (.func 38) #[] #[p3, p4]) ∧ w1.cell? ⟨w.heap.size + 1 + 1 + 1, 0, none⟩ = some (.func (.func 59) #[] #[.pointer (some ⟨w.heap.size, 0, none⟩), .pointer (some ⟨w.heap.size + 1, 0, none⟩), .pointer (some ⟨w.heap.size + 1 + 1, 0, none⟩), .pointer (some ⟨w.heap.size + 1 + 1 + 1, 0, none⟩)])) := by
    refine ⟨fun w1 hb => ⟨?_, ?_, ?_, ?_⟩⟩
    · exact (hb.cell (by rw [HX5.out]; show w.heap.size < w.heap.size + 4; omega)).trans hx1
    · exact (hb.cell (by rw [HX5.out]; show w.heap.size + 1 < w.heap.size + 4; omega)).trans hx2
    · exact (hb.cell (by rw [HX5.out]; show w.heap.size + 1 + 1 < w.heap.size + 4; omega)).trans hx3
    · exact (hb.cell (by rw [HX5.out]; show w.heap.size + 1 + 1 + 1 < w.heap.size + 4; omega)).trans hx4
  have HMM : Aside0 (∀ s r w1, mayF s = some r → Below (w4 w (.string bound) (.bool down) (.func (.func 38) #[] #[p3, p4]) (.func (.func 59) #[] #[.pointer (some ⟨w.heap.size, 0, none⟩), .pointer (some ⟨w.heap.size + 1, 0, none⟩), .pointer (some ⟨w.heap.size + 1 + 1, 0, none⟩), .pointer (some ⟨w.heap.size + 1 + 1 + 1, 0, none⟩)]) 9 4 24 76).heap.size (w4 w (.string bound) (.bool down) (.func (.func 38) #[] #[p3, p4]) (.func (.func 59) #[] #[.pointer (some ⟨w.heap.size, 0, none⟩), .pointer (some ⟨w.heap.size + 1, 0, none⟩), .pointer (some ⟨w.heap.size + 1 + 1, 0, none⟩), .pointer (some ⟨w.heap.size + 1 + 1 + 1, 0, none⟩)]) 9 4 24 76) w1 → Calls Try.prog 38 #[.string s, p3, p4] w1 fun e w' => e = .returned (.bool r) ∧ Below w1.heap.size w1 w') := ⟨fun s r w1 hm hb => hmay.out s r w1 hm (below_step HX6.out hb)⟩
  have hst : ∀ (a : Addr) (fn : Fn) (x y : Array Value) (m : Mode) (w : World), (store a (.func fn x y) m).run Try.prog w = stored Try.prog w a (.func fn x y) m := fun a fn x y m w => run_store Try.prog w a _ m rfl
  go_enter Try.func37, Try.ntmps37
  go_wp2_with (go_at_call 59; refine (find_calls bound down hs w.heap.size (w.heap.size + 1) (w.heap.size + 1 + 1) (w.heap.size + 1 + 1 + 1) p3 p4 mayF _ HCC HMM k ⟨#[]⟩ true r1 r2 _ (Nat.zero_le _) (Below.refl _ _) A.out).mono ?_; rintro e w7 ⟨rfl, HB7⟩)
  first | go_ret3 | go_ret2
  all_goals exact ⟨by first | rfl | (simp; done), below_step HX6.out (by assumption)⟩
def impl_ofKind.f (k : Nat) (a0 : Int) (a1 : ByteArray) (a2 : Bool) : Option (ByteArray × Bool) := if a1.size ≤ 1000 then findF (fun s => Go.Proofs.Ythkjedplcebpjag.QA1.impl_may.f k a0 s (a1.size : Int)) a1 a2 k ⟨#[]⟩ true else none
theorem impl_ofKind.mono : ∀ a0 a1 a2 k, LeO (impl_ofKind.f k a0 a1 a2) (impl_ofKind.f (k + 1) a0 a1 a2) := by
  intro a0 a1 a2 k
  unfold impl_ofKind.f
  exact LeO.ite (findF.mono_l (fun b => Go.Proofs.Ythkjedplcebpjag.QA1.impl_may.mono _ _ _ _) _ _ _ _ _) (LeO.none _)
set_option maxHeartbeats 4000000 in
set_option maxRecDepth 100000 in
theorem impl_ofKind.calls (k : Nat) (a0 : Int) (a1 : ByteArray) (a2 : Bool) (r1 : ByteArray) (r2 : Bool) (w : World) (h : impl_ofKind.f k a0 a1 a2 = some (r1, r2)) :
    Calls Try.prog 29 #[.int .u8 a0, .string a1, .bool a2] w fun e w' => e = .returned (.tuple #[.string r1, .bool r2]) ∧ Below w.heap.size w w' := by
  unfold impl_ofKind.f at h
  by_cases c1 : a1.size ≤ 1000
  · rw [if_pos c1] at h
    have A := Aside0.mk h
    clear h
    have hmf : ∀ (fn : Fn) (first cap : Array Value) (w : World), (Instr.makeFunc fn first cap).run Try.prog w = .ok (.func fn first cap) w := fun _ _ _ _ => rfl
    have hc1 : ((w.alloc (.cells #[.int .u8 a0] 5)).alloc (.cells #[.string a1] 9)).cell? ⟨w.heap.size, 0, none⟩ = some (.int .u8 a0) := by
      rw [World.cell?_alloc_past _ _ _ (by simp only [World.size_alloc]; omega), World.cell?_alloc_at _ _ _ _ rfl]
      rfl
    have hc2 : ((w.alloc (.cells #[.int .u8 a0] 5)).alloc (.cells #[.string a1] 9)).cell? ⟨w.heap.size + 1, 0, none⟩ = some (.string a1) := by
      rw [World.cell?_alloc_at _ _ _ _ (by simp only [World.size_alloc])]
      rfl
    have hsz : ((w.alloc (.cells #[.int .u8 a0] 5)).alloc (.cells #[.string a1] 9)).heap.size = w.heap.size + 2 := by simp only [World.size_alloc]
    have HX6 : Aside0 (Below w.heap.size w ((w.alloc (.cells #[.int .u8 a0] 5)).alloc (.cells #[.string a1] 9))) := ⟨((Below.refl _ w).alloc (Nat.le_refl _) _).alloc (by simp only [World.size_alloc]; omega) _⟩
    have HMM : Aside0 (∀ s r w1, (fun s => Go.Proofs.Ythkjedplcebpjag.QA1.impl_may.f k a0 s (a1.size : Int)) s = some r → Below ((w.alloc (.cells #[.int .u8 a0] 5)).alloc (.cells #[.string a1] 9)).heap.size ((w.alloc (.cells #[.int .u8 a0] 5)).alloc (.cells #[.string a1] 9)) w1 → Calls Try.prog 38 #[.string s, .pointer (some ⟨w.heap.size, 0, none⟩), .pointer (some ⟨w.heap.size + 1, 0, none⟩)] w1 fun e w' => e = .returned (.bool r) ∧ Below w1.heap.size w1 w') := by
      refine ⟨fun s r w1 hm hb => ?_⟩
      refine ofKind1_calls k a0 a1 s r w.heap.size (w.heap.size + 1) w1 ?_ ?_ hm
      · exact (hb.cell (by rw [hsz]; show w.heap.size < w.heap.size + 2; omega)).trans hc1
      · exact (hb.cell (by rw [hsz]; show w.heap.size + 1 < w.heap.size + 2; omega)).trans hc2
    clear hsz
    go_enter Try.func29, Try.ntmps29
    go_wp2_with (go_at_call 37; refine (impl_search.calls a1 a2 c1 _ _ _ k r1 r2 _ A.out HMM).mono ?_; rintro e w7 ⟨rfl, HB7⟩)
    first | go_ret3 | go_ret2
    all_goals exact ⟨by first | rfl | (simp; done), below_step HX6.out (by assumption)⟩
  · rw [if_neg c1] at h
    exact absurd h (by simp)
end Go.Proofs.Ythkjedplcebpjag.Ext
