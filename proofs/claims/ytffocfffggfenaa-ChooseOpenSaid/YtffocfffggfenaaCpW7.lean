/-
  Walks through layers 36, 37 and 38 and their references.
-/
import Derived.Test.YtffocfffggfenaaCpW6
namespace Go.Proofs.Cp
open Go Go.Eng Go.Gt Go.Proofs.Gt
set_option maxRecDepth 4000


end Go.Proofs.Cp
