/- The examples of the chapter. -/
import Derived.Test.YtaaonhfaoaabbaaXx9
import Derived.Test.YtaaonhfaoaabbaaG1
namespace Go.Proofs.Ytaaonhfaoaabbaa.X
open Go.RowKit Go.Proofs.YtaaonhfaoaabbaaW.PrintWords Go.Proofs.YtaaonhfaoaabbaaW.PrintLast
def jS : List S47 := [⟨0, 4⟩, ⟨3, 9⟩, ⟨6, 8⟩, ⟨5, 7⟩, ⟨10, 12⟩]
theorem ord_J : orderOf jS = [0, 1, 3, 2, 4] := orderOf_eq (by decide) (by decide)
theorem plan_J : planOf 2 jS = [0, 1, 0, 2, 0] := by
  unfold planOf
  rw [ord_J]
  decide +kernel
theorem passes_J : punch_Passes.f 2 jS = some ([0, 1, 0, 2, 0], 3, 0) := by
  unfold punch_Passes.f
  rw [plan_J]
  decide +kernel
theorem works_at : pianolalaw03_works.f 100 = some true := by
  unfold pianolalaw03_works.f
  rw [show pianolalaw03_J.f = some (2, jS) from rfl]
  simp only [Option.bind_some]
  rw [passes_J]
  decide +kernel
theorem works_true : ∃ k, pianolalaw03_works.f k = some true := ⟨100, works_at⟩
theorem works_more {K : Nat} (hK : 100 ≤ K) : pianolalaw03_works.f K = some true := more (f := fun k => pianolalaw03_works.f k) pianolalaw03_works.mono works_at hK
end Go.Proofs.Ytaaonhfaoaabbaa.X
