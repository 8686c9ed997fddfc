/- This session's own words for walks by hand: rows of the call's own that lie in intervals of blocks. No conditions. -/
import Derived.Test.YtkoackkimdanjaaExtB
import Derived.Test.YtkoackkimdanjaaWKept
import Derived.Test.YtkoackkimdanjaaWMore
import Derived.Test.YtkoackkimdanjaaWShare
import Derived.Test.YtkoackkimdanjaaWN
namespace Go.Proofs.Ytkoackkimdanjaa.Ext
open Go.RowKit Go.Proofs.YtkoackkimdanjaaW.PrintWords
set_option linter.unusedSimpArgs false
set_option linter.unusedVariables false
section
variable {α : Type} {d : Kd α} {e base b : Nat} {W W' : World} {v : Value} {xs ys : List α} {lo hi lo2 hi2 : Nat}
theorem set_mid {α : Type} (ys : List α) (x x' : α) (rest : List α) (i : Nat) (h : i = ys.length) : (ys ++ x :: rest).set i x' = (ys ++ [x']) ++ rest := by
 subst h
 simp
theorem get_mid {α : Type} (ys : List α) (x z : α) (rest : List α) (i : Nat) (h : i = ys.length) : (ys ++ x :: rest).getD i z = x := by
 subst h
 simp
end
end Go.Proofs.Ytkoackkimdanjaa.Ext
