/- Some of this seat's texts, joined by prune.py. -/
import Derived.Test.YtdfgfhnbcifheaaDoorWWords
import Derived.Laws.StructEq
import Derived.Test.YtdfgfhnbcifheaaDoorWNEv
import Derived.Test.YtdfgfhnbcifheaaDoorWFootNe
-- PRINTED BY print.sh 35421559b90ae4d0a3588c463048766b98c2df88dd9212a6774a882060cdf62d: not written by this session
/-! ### 53. '==' of structs as_ one Bool -/
namespace Go.Proofs.YtdfgfhnbcifheaaDoorW.PrintWords
open Go.RowKit
section
variable {P : Program} {d : Nat} {xs ys : Array Value} {f : Field} {fs : List Field} {a b : Value} {r s : Bool} {w : World}
end
end Go.Proofs.YtdfgfhnbcifheaaDoorW.PrintWords
-- PRINTED BY print.sh 35421559b90ae4d0a3588c463048766b98c2df88dd9212a6774a882060cdf62d: not written by this session
namespace Go.Proofs.YtdfgfhnbcifheaaDoorW.PrintWords
open Go.RowKit
end Go.Proofs.YtdfgfhnbcifheaaDoorW.PrintWords
namespace Go.Proofs.YtdfgfhnbcifheaaDoorW.PrintLast
section
variable {ops : Array Oper} {a : Act} {o og : Oper} {g : Nat} {t : Tmp} {u : Bool}
end
end Go.Proofs.YtdfgfhnbcifheaaDoorW.PrintLast
