/- A part of the proof of the claim's statement: plain laws and walks (some printed by a program over the kit's printer). It has no conditions of its own. -/
import Derived.Test.YtigghbfcflnoeaaDoorVe1
import Derived.Laws.StructEq
section
namespace Go.Proofs.YtigghbfcflnoeaaDoorW.PrintWords
open Go.RowKit
section
variable {P : Program} {d : Nat} {xs ys : Array Value} {f : Field} {fs : List Field} {a b : Value} {r s : Bool} {w : World}
end
end Go.Proofs.YtigghbfcflnoeaaDoorW.PrintWords
end
