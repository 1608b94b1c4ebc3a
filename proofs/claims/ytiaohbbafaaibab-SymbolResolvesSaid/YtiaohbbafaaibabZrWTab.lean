/- Words of the print that this claim names, cut down by pack.py. -/
import Derived.Test.YtiaohbbafaaibabZrWLast
import Derived.Test.YtiaohbbafaaibabZrWWords
namespace Go.Proofs.YtiaohbbafaaibabW.PrintLast
open Go.Proofs.YtiaohbbafaaibabW.PrintWords (Aside0)
section
variable {md : Region.Mode} {ops : Array Oper} {T : Bool × List (List Nat × List Nat)} {l l' li lj lk : Array Bool} {ds : List Nat} {i j k : Nat}
theorem gd (l : Array Bool) (j : Nat) (b : Bool) : l.getD j b = l.toList.getD j b := by simp [Array.getD_eq_getD_getElem?, List.getD_eq_getElem?_getD]
end
end Go.Proofs.YtiaohbbafaaibabW.PrintLast
