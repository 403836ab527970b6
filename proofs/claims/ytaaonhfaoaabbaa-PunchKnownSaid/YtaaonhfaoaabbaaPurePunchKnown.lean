/- The examples of the chapter, as plain functions. -/
import Derived.Test.YtaaonhfaoaabbaaXx27
import Derived.Test.YtaaonhfaoaabbaaG0
namespace Go.Proofs.Ytaaonhfaoaabbaa.Pure
open Go.RowKit Go.Proofs.Ytaaonhfaoaabbaa.X Go.Proofs.YtaaonhfaoaabbaaW.PrintWords Go.Proofs.YtaaonhfaoaabbaaW.PrintLast
theorem PunchKnown : pianolalaw03_PunchKnown.Pure := by
  refine ⟨100, ?_⟩
  unfold pianolalaw03_PunchKnown.f
  rw [works_at]
  decide +kernel
end Go.Proofs.Ytaaonhfaoaabbaa.Pure
