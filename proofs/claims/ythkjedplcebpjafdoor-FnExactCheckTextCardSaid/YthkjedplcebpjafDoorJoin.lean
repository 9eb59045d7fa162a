/- strings.Join of a row of the caller's own, from 1 to 1000 texts that are at most 1000000 bytes together: the texts with what is put between them; new memory alone. Condition: the told function answers nothing elsewhere. -/
import Derived.Test.YthkjedplcebpjafDoorShelf
import Derived.Test.YthkjedplcebpjafDoorWWords
namespace Go.Proofs.YthkjedplcebpjafDoor.Ext
set_option linter.unusedVariables false
open Go.RowKit Go.Proofs.YthkjedplcebpjafDoorW.PrintWords
/-- The address of a row is a plain one. -/
def PlainAt (A : Option Addr) : Prop := ∀ ad, A = some ad → ad.spot = none
theorem plain_of {α : Type} {d : Kd α} {e : Nat} {w : World} {base n c : Nat} {ok : Nat → Prop} {A : Option Addr} {xs : List α} (h : Aside0 (Kd.R d e w base ok (.slice A n c) xs)) : PlainAt A := by
  obtain ⟨_, inner, ⟨_, h2⟩, _⟩ := h.out
  intro ad hA
  rcases h2 with ⟨hv, _⟩ | ⟨g, cap, cur, hv, _⟩
  · injection hv with h1 _ _
    rw [h1] at hA; cases hA
  · injection hv with h1 _ _
    rw [h1] at hA
    obtain rfl := Option.some.inj hA
    rfl
def strings_Join.f (l0 : List ByteArray) (a1 : ByteArray) : Option (ByteArray) :=
  if 1 ≤ l0.length ∧ l0.length ≤ 1000 ∧ (Lib.join (l0.map (·.data.toList)) a1.data.toList).length ≤ 1000000 then some ⟨(Lib.join (l0.map (·.data.toList)) a1.data.toList).toArray⟩ else none
theorem strings_Join.calls (A0 : Option Addr) (c0 : Nat) (l0 : List ByteArray) (a1 : ByteArray) (r : ByteArray) (w : World) (hr0 : Kd.C Kd.string w A0 l0.length l0) (hc0 : l0.length ≤ c0) (h : strings_Join.f l0 a1 = some r) (hA : PlainAt A0 := by apply plain_of; assumption) :
    Calls Tryd.prog 75 #[.slice A0 l0.length c0, .string a1] w fun e w' => e = .returned (.string r) ∧ Below w.heap.size w w' := by
  unfold strings_Join.f at h
  by_cases hs : 1 ≤ l0.length ∧ l0.length ≤ 1000 ∧ (Lib.join (l0.map (·.data.toList)) a1.data.toList).length ≤ 1000000
  · rw [if_pos hs] at h
    obtain rfl := Option.some.inj h
    obtain ⟨ad, e0, hc⟩ := Kd.at_string hr0 0 (by omega) (by omega)
    have hsp := hA ad e0
    subst e0
    obtain ⟨bk, o, sp⟩ := ad
    have hsp' : sp = none := hsp
    subst hsp'
    have hcells : ∀ (j : Nat) x, l0[j]? = some x → w.cell? ⟨bk, o + j, none⟩ = some (.string x) := by
      intro j x hx
      have hj : j < l0.length := by
        by_cases hj : j < l0.length
        · exact hj
        · rw [List.getElem?_eq_none (by omega)] at hx; cases hx
      obtain ⟨ad, e0, hc⟩ := Kd.at_string hr0 (j : Int) (by omega) (by omega)
      obtain rfl := Option.some.inj e0
      rw [Int.toNat_natCast] at hc
      have ha : (⟨bk, o, none⟩ : Addr).add j = ⟨bk, o + j, none⟩ := by
        unfold Addr.add
        split
        · subst_vars; rfl
        · rfl
      rw [ha] at hc
      rw [hc]
      unfold rdOf
      rw [Int.toNat_natCast, List.getD_eq_getElem?_getD, hx]; rfl
    have hbk : bk < w.heap.size := by
      have h1 := hcells 0 l0[0] (List.getElem?_eq_getElem (by omega))
      exact World.block_lt_of_cell? w _ h1
    exact Go.Proofs.Tryd.strings_Join bk o c0 l0 a1 w hcells hbk (by omega) hc0 (by omega)
  · rw [if_neg hs] at h; cases h
end Go.Proofs.YthkjedplcebpjafDoor.Ext
