/- Plain laws on the order of byte lists, on marked lists, and on networks' parts. No program in sight. No condition. -/
import Derived.Test.YtabgkdejpkpejaaDoorMath
import Derived.Test.YtabgkdejpkpejaaDoorMathN
import Derived.Test.YtabgkdejpkpejaaDoorMathP
import Derived.Test.YtabgkdejpkpejaaDoorMathQ
namespace Go.Proofs.YtabgkdejpkpejaaDoorM
open Go.RowKit Go.Proofs.YtabgkdejpkpejaaDoorW.PrintWords
set_option linter.unusedVariables false
set_option linter.unusedSimpArgs false
abbrev Y : Bool := true
abbrev J : Bool := false
abbrev rA := @Kd.R_alloc
abbrev rN := @Kd.R_drewN
abbrev rW := @Kd.R_drew
abbrev bN := @blk_drewN
abbrev bW := @blk_drew
abbrev bA := @blk_alloc
abbrev wA := @below_alloc
abbrev wN := @pw_below_drewN
abbrev wD := @below_drew1
abbrev wS := @below_set
theorem pU (a : Act) (d : Nat) (v : Value) : a.put (some d) v = { tmps := a.tmps.setIfInBounds d v, defers := a.defers } := rfl
theorem pN (a : Act) (v : Value) : a.put none v = a := rfl
theorem sB {α : Type} (l : List α) (i : Nat) (a : α) : l.toArray.setIfInBounds i a = (l.set i a).toArray := List.setIfInBounds_toArray l i a
theorem sZ {α : Type} (x : α) (xs : List α) (a : α) : (x :: xs).set 0 a = a :: xs := List.set_cons_zero
theorem sS {α : Type} (x : α) (xs : List α) (n : Nat) (a : α) : (x :: xs).set (n + 1) a = x :: xs.set n a := List.set_cons_succ
end Go.Proofs.YtabgkdejpkpejaaDoorM
