-- Words that the kit's print.sh printed for this seat; what this claim does not use was left out by prune.py, a program of this session.
import Derived.Test.YtgfnllaajaoljaaDoorWInv
import Derived.Test.YtgfnllaajaoljaaDoorWFootNe
namespace Go.Proofs.YtgfnllaajaoljaaDoorW.PrintWords
open Go.RowKit
end Go.Proofs.YtgfnllaajaoljaaDoorW.PrintWords
namespace Go.Proofs.YtgfnllaajaoljaaDoorW.PrintLast
section
variable {ops : Array Oper} {a : Act} {o og : Oper} {g : Nat} {t : Tmp} {u : Bool}
end
end Go.Proofs.YtgfnllaajaoljaaDoorW.PrintLast
