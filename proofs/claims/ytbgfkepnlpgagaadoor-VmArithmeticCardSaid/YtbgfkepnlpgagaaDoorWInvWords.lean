-- THINNED for this claim by prune17.py: what no text of the claim names is left out.
-- PRINTED BY print.sh 35421559b90ae4d0a3588c463048766b98c2df88dd9212a6774a882060cdf62d: not written by this session
import Derived.Test.YtbgfkepnlpgagaaDoorWInv
import Derived.Test.YtbgfkepnlpgagaaDoorWFootNe
namespace Go.Proofs.YtbgfkepnlpgagaaDoorW.PrintWords
open Go.RowKit
end Go.Proofs.YtbgfkepnlpgagaaDoorW.PrintWords
namespace Go.Proofs.YtbgfkepnlpgagaaDoorW.PrintLast
section
variable {ops : Array Oper} {a : Act} {o og : Oper} {g : Nat} {t : Tmp} {u : Bool}
end
end Go.Proofs.YtbgfkepnlpgagaaDoorW.PrintLast
