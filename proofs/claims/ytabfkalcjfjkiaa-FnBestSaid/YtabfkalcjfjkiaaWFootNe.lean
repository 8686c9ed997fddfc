-- Out of the text that print.sh wrote for this seat, by this session's own program (wip/trim.py): what this law does not use is struck. Not trusted: Lean checks it.
import Derived.Test.YtabfkalcjfjkiaaWN
/-! ### 52. A row that stays read whatever happens to a block (a set of blocks) doesn't lie there -/
namespace Go.Proofs.YtabfkalcjfjkiaaW.PrintWords
open Go.RowKit
namespace Kd
section
variable {α : Type} {d : Kd α} {W : World} {g n : Nat} {S ok : Nat → Prop} {A : Option Addr} {ad : Addr} {xs : List α}
end
end Kd
end Go.Proofs.YtabfkalcjfjkiaaW.PrintWords
