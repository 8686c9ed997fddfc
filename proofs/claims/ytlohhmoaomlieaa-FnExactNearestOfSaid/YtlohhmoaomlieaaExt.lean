/- This session's own words for printed walks: laws on strings as the walk asks them; no conditions. -/
import Derived.WalkLawsBesides
import Derived.Laws.Strings
import Derived.Lib.Bytealg
namespace Go.Proofs.Ytlohhmoaomlieaa.Ext
open Go.RowKit
set_option linter.unusedSimpArgs false
set_option linter.unusedVariables false

theorem bl_irrefl : ∀ x : List UInt8, Op.bytesLess x x = false
  | [] => rfl
  | a :: x => by simp [Op.bytesLess, bl_irrefl x]
theorem bl_total : ∀ x y : List UInt8, (Op.bytesLess x y || x == y) = !(Op.bytesLess y x)
  | [], [] => rfl
  | [], b :: y => by simp [Op.bytesLess]
  | a :: x, [] => by simp [Op.bytesLess]
  | a :: x, b :: y => by
    have ih := bl_total x y
    by_cases h1 : a < b
    · have h2 : ¬ b < a := UInt8.lt_asymm h1
      have h3 : a ≠ b := UInt8.ne_of_lt h1
      simp [Op.bytesLess, h1, h2, h3, Ne.symm h3]
    · by_cases h2 : b < a
      · have h3 : b ≠ a := UInt8.ne_of_lt h2
        simp [Op.bytesLess, h1, h2, h3, Ne.symm h3]
      · have h3 : a = b := UInt8.le_antisymm (UInt8.not_lt.1 h2) (UInt8.not_lt.1 h1)
        subst h3
        simpa [Op.bytesLess] using ih
theorem ext_gtr (t : TypeId) (a b : ByteArray) : binOp .gtr t (.string a) (.string b) = pure (.bool (Op.bytesLess b.toList a.toList)) := by
  rw [binOp_string_gtr, bl_total, Bool.not_not]
theorem ext_leq (t : TypeId) (a b : ByteArray) : binOp .leq t (.string a) (.string b) = pure (.bool !(Op.bytesLess b.toList a.toList)) := by
  rw [binOp_string_leq, bl_total]
theorem ext_bne_nil (l : List UInt8) : (l != []) = !l.isEmpty := by cases l <;> rfl
theorem ext_beq_nil (l : List UInt8) : (l == []) = l.isEmpty := by cases l <;> rfl
/-- How one text stands to another one. -/
def cmpB (a b : ByteArray) : Int := Lib.compareBytes a.data.toList b.data.toList
end Go.Proofs.Ytlohhmoaomlieaa.Ext
