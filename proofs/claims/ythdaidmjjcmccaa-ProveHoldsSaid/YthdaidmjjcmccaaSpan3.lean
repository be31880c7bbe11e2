/- Proved here: lemmas and contracts (what a function of the program computes) that the proofs of the laws of this seat lean on. Conditions: as each theorem states. -/
import Derived.Test.YthdaidmjjcmccaaSpan2
import Derived.Test.YthdaidmjjcmccaaM1
set_option linter.unusedVariables false
set_option linter.unusedSimpArgs false
namespace Go.Proofs.Ythdaidmjjcmccaa
open Go.RowKit Go.Pk
end Go.Proofs.Ythdaidmjjcmccaa
