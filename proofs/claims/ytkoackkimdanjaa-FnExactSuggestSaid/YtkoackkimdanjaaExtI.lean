/- This session's own words for slices.Insert on rows of the call's own, elements of k cells: copies inside a row's block, and what they leave. No conditions. -/
import Derived.Test.YtkoackkimdanjaaExtG
import Derived.Test.YtkoackkimdanjaaWFootNe
import Derived.Test.YtkoackkimdanjaaWZeros
import Derived.Laws.CopyRow
import Derived.Laws.IdiomCopy
import Derived.Laws.Externs
import Derived.Laws.Tables
import Derived.Lib.AppendZerosOnto
import Derived.Lib.AppendZeros
namespace Go.Proofs.Ytkoackkimdanjaa.Ext
open Go.RowKit Go.Proofs.YtkoackkimdanjaaW.PrintWords
set_option linter.unusedSimpArgs false
set_option linter.unusedVariables false
section
variable {P : Program}
end
/-! ### rows of flat elements, and their cells -/
section
variable {α : Type} {enc : α → List Value} {k : Nat}
variable {d : Kd α} {e base : Nat} {w : World} {ok : Nat → Prop} {v : Value} {xs : List α}
end
section
variable {P : Program} {ops : Array Oper} {rest : List Oper} {o : Oper} {a : Act} {Q : Exit → Act → World → Prop}
end
end Go.Proofs.Ytkoackkimdanjaa.Ext
