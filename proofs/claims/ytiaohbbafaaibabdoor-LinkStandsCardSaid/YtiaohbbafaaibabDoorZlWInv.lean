/- Words of the print that this claim names, cut down by pack.py. -/
import Derived.Test.YtiaohbbafaaibabDoorZlWTab
namespace Go.Proofs.YtiaohbbafaaibabDoorW.PrintLast
def up (b : Nat → Bool) (i : Nat) : Nat → Bool := fun j => if j = i then true else b j
end Go.Proofs.YtiaohbbafaaibabDoorW.PrintLast
