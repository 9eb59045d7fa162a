/- The order of texts: at most is not behind. -/
import Derived.Test.YtkbbmkbkpkmdkabWWords
namespace Go.Proofs.Ytkbbmkbkpkmdkab.Ext
set_option linter.unusedSimpArgs false
theorem leq_tot : ∀ a b : List UInt8, (Op.bytesLess a b || a == b) = !Op.bytesLess b a
  | [], [] => by simp [Op.bytesLess]
  | [], _ :: _ => by simp [Op.bytesLess]
  | _ :: _, [] => by simp [Op.bytesLess]
  | x :: a, y :: b => by
    have ih := leq_tot a b
    by_cases h : x = y
    · subst h
      simpa [Op.bytesLess, UInt8.lt_irrefl] using ih
    · have h1 : x.toNat ≠ y.toNat := fun e => h (UInt8.toNat_inj.1 e)
      by_cases h2 : x < y
      · have h3 : ¬ y < x := by rw [UInt8.lt_iff_toNat_lt] at *; omega
        simp [Op.bytesLess, h2, h3, h, Ne.symm h]
      · have h3 : y < x := by rw [UInt8.lt_iff_toNat_lt] at *; omega
        simp [Op.bytesLess, h2, h3, h, Ne.symm h]
@[go_sem] theorem string_leq (t : TypeId) (a b : ByteArray) : binOp .leq t (.string a) (.string b) = pure (.bool (!Op.bytesLess b.toList a.toList)) := by
  rw [← leq_tot]
  simp [binOp, Op.stringOp]
@[simp] theorem bne_nil_ (l : List UInt8) : (l != []) = !l.isEmpty := by cases l <;> rfl
end Go.Proofs.Ytkbbmkbkpkmdkab.Ext
