-- Words that the kit's print.sh printed for this seat; what this claim does not use was left out by prune.py, a program of this session.
import Derived.Test.YteknbadjfojmbaaWLast
import Derived.Test.YteknbadjfojmbaaWWords
namespace Go.Proofs.YteknbadjfojmbaaW.PrintLast
open Go.Proofs.YteknbadjfojmbaaW.PrintWords (Aside0)
section
variable {md : Region.Mode} {ops : Array Oper} {T : Bool × List (List Nat × List Nat)} {l l' li lj lk : Array Bool} {ds : List Nat} {i j k : Nat}
end
end Go.Proofs.YteknbadjfojmbaaW.PrintLast
