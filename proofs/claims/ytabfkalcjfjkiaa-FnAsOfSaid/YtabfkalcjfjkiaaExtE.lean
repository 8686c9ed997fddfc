/- This session's own words for printed walks, the fifth lot: 'clear(s[k:])' on a row of the call's own. No conditions. -/
import Derived.Test.YtabfkalcjfjkiaaExtB
import Derived.Test.YtabfkalcjfjkiaaWZeros
namespace Go.Proofs.Ytabfkalcjfjkiaa.Ext
open Go.RowKit Go.Proofs.YtabfkalcjfjkiaaW.PrintWords
set_option linter.unusedSimpArgs false
set_option linter.unusedVariables false
section
variable {P : Program} {α : Type}
end
section
variable {P : Program} {ops : Array Oper} {rest : List Oper} {o : Oper} {a : Act} {Q : Exit → Act → World → Prop} {Kc : Act → World → Prop} {α : Type}
end
/-- slices.Compact's second loop: what it reads of the cut has not been written yet. -/
def CompRel {α : Type} (x01 x02 : List α) (x31 x32 x52 : Int) : Prop := 0 ≤ x31 ∧ x32 ≤ x31 + x52 - 1 ∧ 1 ≤ x52 ∧ ∀ j : Nat, (x52 - 1).toNat ≤ j → x02[x31.toNat + j]? = x01[x31.toNat + j]?
theorem CompRel.read {α : Type} {x01 x02 : List α} {x31 x32 x52 : Int} (h : CompRel x01 x02 x31 x32 x52) (z : α) (j : Int) (hj : x52 - 1 ≤ j) : (x02.drop x31.toNat).getD j.toNat z = (x01.drop x31.toNat).getD j.toNat z := by
 obtain ⟨h1, h2, h3, h4⟩ := h
 rw [List.getD_eq_getElem?_getD, List.getD_eq_getElem?_getD, List.getElem?_drop, List.getElem?_drop, h4 j.toNat (by omega)]
end Go.Proofs.Ytabfkalcjfjkiaa.Ext
