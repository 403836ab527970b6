/- Slots as the reference has them. -/
import Derived.Test.YtaaonhfaoaabbaaXx9
namespace Go.Proofs.Ytaaonhfaoaabbaa.X
open Go.RowKit Go.Proofs.YtaaonhfaoaabbaaW.PrintWords Go.Proofs.YtaaonhfaoaabbaaW.PrintLast
/-- The slots as the reference's. -/
def conv (l : List S47) : List S52 := l.map fun s => ⟨s.f0, s.f1⟩
theorem conv_len (l : List S47) : (conv l).length = l.length := by simp [conv]
theorem rd_conv {l : List S47} {j : Nat} (h : j < l.length) : rd_T52 (conv l) (j : Int) = ⟨(rd_T47 l (j : Int)).f0, (rd_T47 l (j : Int)).f1⟩ := by
  unfold rd_T52 rd_T47 conv
  simp [List.getD_eq_getElem?_getD, h]
theorem slot_eq (x : S47) : pianolaref03_slot.f x.f0 x.f1 = some (okSlot x) := by
  unfold pianolaref03_slot.f okSlot
  by_cases h1 : 0 ≤ x.f0 <;> by_cases h2 : x.f0 < x.f1 <;> simp [h1, h2]
theorem is_eq (a b c : Int) : pianolaref03_is.f a b c = some (decide (b ≤ a) && decide (a ≤ c)) := by
  unfold pianolaref03_is.f pianolaref01_Is.f
  by_cases h1 : b ≤ a <;> simp [h1]
end Go.Proofs.Ytaaonhfaoaabbaa.X
