/- Proved here: lemmas and contracts (what a function of the program computes) that the proofs of the laws of this seat lean on. Conditions: as each theorem states. -/
import Derived.Test.YtcmdhkefenjldaaSpan2
import Derived.Test.YtcmdhkefenjldaaM1
set_option linter.unusedVariables false
set_option linter.unusedSimpArgs false
namespace Go.Proofs.Ytcmdhkefenjldaa
open Go.RowKit Go.Pk
end Go.Proofs.Ytcmdhkefenjldaa
