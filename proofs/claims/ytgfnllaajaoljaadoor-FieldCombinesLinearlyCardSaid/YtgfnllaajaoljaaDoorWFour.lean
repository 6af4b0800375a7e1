-- Words that the kit's print.sh printed for this seat; what this claim does not use was left out by prune.py, a program of this session.
import Derived.Test.YtgfnllaajaoljaaDoorWTab
namespace Go.Proofs.YtgfnllaajaoljaaDoorW.PrintLast
section
variable {P : Program} {ops : Array Oper} {Q : Exit → Act → World → Prop} {md : Region.Mode} {S : World → Prop} {ds : List Nat} {T : Bool × List (List Nat × List Nat)}
end
end Go.Proofs.YtgfnllaajaoljaaDoorW.PrintLast
