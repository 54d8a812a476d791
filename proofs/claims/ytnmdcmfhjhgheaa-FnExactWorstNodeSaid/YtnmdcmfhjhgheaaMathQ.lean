/- Plain laws on curves of pumps and lists of lists: what is asked of a curve, what a list's size is. No condition. -/
import Derived.Test.YtnmdcmfhjhgheaaMath
import Derived.Test.YtnmdcmfhjhgheaaMathN
import Derived.Test.YtnmdcmfhjhgheaaMathP
namespace Go.Proofs.YtnmdcmfhjhgheaaM
open Go.RowKit Go.Proofs.YtnmdcmfhjhgheaaW.PrintWords
set_option linter.unusedVariables false
set_option linter.unusedSimpArgs false
def roomOf (a n : Int) : Int := if a - n < 0 then -1 else a - n
theorem getD_mem {α : Type} {l : List α} {i : Nat} (d : α) (h : i < l.length) : l.getD i d ∈ l := by
  rw [List.getD_eq_getElem?_getD, List.getElem?_eq_getElem h]; exact List.getElem_mem h
end Go.Proofs.YtnmdcmfhjhgheaaM
