-- Words that the kit's print.sh printed for this seat; what this claim does not use was left out by prune.py, a program of this session.
import Derived.Test.YtgfnllaajaoljaaDoorWWords
import Derived.Laws.StructEq
namespace Go.Proofs.YtgfnllaajaoljaaDoorW.PrintWords
open Go.RowKit
section
variable {P : Program} {d : Nat} {xs ys : Array Value} {f : Field} {fs : List Field} {a b : Value} {r s : Bool} {w : World}
end
end Go.Proofs.YtgfnllaajaoljaaDoorW.PrintWords
