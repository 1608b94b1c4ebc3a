/- Words of the print that this claim names, cut down by pack.py. -/
import Derived.Test.YtiaohbbafaaibabGreatDoorZrWTab
namespace Go.Proofs.YtiaohbbafaaibabGreatDoorW.PrintLast
def up (b : Nat → Bool) (i : Nat) : Nat → Bool := fun j => if j = i then true else b j
end Go.Proofs.YtiaohbbafaaibabGreatDoorW.PrintLast
