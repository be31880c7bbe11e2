/- Proved here: the plain statement of AdviseEdge (what the walk showed: it is true). Conditions: none beyond the statement. -/
import Derived.Test.YtjidbjmekpholaaGEx
namespace Go.Proofs.Ytjidbjmekpholaa.Pure
open Go.RowKit Go.Proofs.Ytjidbjmekpholaa.GE Go.Proofs.YtjidbjmekpholaaW.PrintWords Go.Proofs.YtjidbjmekpholaaW.PrintLast
theorem AdviseEdge : picketlaw18_AdviseEdge.Pure := by
  unfold picketlaw18_AdviseEdge.Pure
  intros
  rfl
end Go.Proofs.Ytjidbjmekpholaa.Pure
