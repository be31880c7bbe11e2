-- Written by a program of this seat's own session (pg), out of the translation: Lean checks it.
import Derived.Test.YtjidbjmekpholaaGAx0
import Derived.Test.YtjidbjmekpholaaGAx1
import Derived.Test.YtjidbjmekpholaaGAx2
import Derived.Test.YtjidbjmekpholaaGAx3
import Derived.Test.YtjidbjmekpholaaGAx4
import Derived.Test.YtjidbjmekpholaaGAx5
import Derived.Test.YtjidbjmekpholaaGAx6
import Derived.Test.YtjidbjmekpholaaGAx7
namespace Go.Proofs.Ytjidbjmekpholaa.GA
open Go.RowKit Go.Proofs.YtjidbjmekpholaaW.PrintWords Go.Proofs.YtjidbjmekpholaaW.PrintLast Go.Proofs.YtjidbjmekpholaaW.PrintMore
attribute [local go_sem] max2_int min2_int max_two min_two max_three min_three max_four min_four   -- for this text's walks alone
set_option linter.unusedVariables false
set_option linter.unusedSimpArgs false

end Go.Proofs.Ytjidbjmekpholaa.GA
