/- The reference's functions, told plainly. -/
import Derived.Test.YtaaonhfaoaabbaaG16
import Derived.Test.YtaaonhfaoaabbaaXx12
import Derived.Test.YtaaonhfaoaabbaaG0
import Derived.Test.YtaaonhfaoaabbaaE6
namespace Go.Proofs.Ytaaonhfaoaabbaa.X
open Go.RowKit Go.Proofs.YtaaonhfaoaabbaaW.PrintWords Go.Proofs.YtaaonhfaoaabbaaW.PrintLast
theorem given_l0 {l : List S47} (hl : l.length ≤ 80) (a0 a1 : Int) : ∀ (d j : Nat) (acc : List S52), j + d = l.length → acc = conv (l.take j) → pianolalaw03_given.l0 (d + 1) j a0 l a1 acc = some (a1, conv l)
  | 0, j, acc, h, ha => by
    unfold pianolalaw03_given.l0
    rw [if_neg (by omega), ha, List.take_of_length_le (by omega)]
  | d + 1, j, acc, h, ha => by
    have hj : j < l.length := by omega
    unfold pianolalaw03_given.l0
    rw [if_pos (by omega), if_pos (by omega), if_pos (by rw [ha, conv_len, List.length_take]; omega), wrap_in (by omega), show (j : Int) + 1 = ((j + 1 : Nat) : Int) from by omega]
    refine given_l0 hl a0 a1 d (j + 1) _ (by omega) ?_
    rw [ha, take_snoc hj]
    simp [conv]
theorem given_eq {l : List S47} (hl : l.length ≤ 80) (a0 : Int) : pianolalaw03_given.f (l.length + 1) a0 l = some (a0, conv l) := by
  unfold pianolalaw03_given.f
  exact given_l0 hl a0 a0 l.length 0 [] (by omega) rfl
theorem numbers_l0 {l : List Int} (hl : l.length ≤ 1000) : ∀ (d j : Nat), j + d = l.length → pianolalaw03_numbers.l0 (d + 1) l l j = some true
  | 0, j, h => by
    unfold pianolalaw03_numbers.l0
    rw [if_neg (by omega)]
  | d + 1, j, h => by
    unfold pianolalaw03_numbers.l0
    rw [if_pos (by omega), if_pos (by omega), if_pos (by omega), if_pos rfl, wrap_in (by omega), show (j : Int) + 1 = ((j + 1 : Nat) : Int) from by omega]
    exact numbers_l0 hl d (j + 1) (by omega)
theorem numbers_eq {l : List Int} (hl : l.length ≤ 1000) : pianolalaw03_numbers.f (l.length + 1) l l = some true := by
  unfold pianolalaw03_numbers.f
  rw [if_pos rfl]
  exact numbers_l0 hl l.length 0 (by omega)
theorem check_l0 {l : List S47} (hl : l.length ≤ 80) (a0 : Int) : ∀ (d j : Nat), j + d = l.length → pianolaref03_Check.l0 (d + 1) j a0 (conv l) = some (if (l.drop j).all okSlot then 0 else 3)
  | 0, j, h => by
    unfold pianolaref03_Check.l0
    rw [if_neg (by rw [conv_len]; omega), List.drop_eq_nil_of_le (by omega)]
    rfl
  | d + 1, j, h => by
    have hj : j < l.length := by omega
    have e1 : rd_T47 l (j : Int) = l[j] := by unfold rd_T47; simp [List.getD_eq_getElem?_getD, hj]
    unfold pianolaref03_Check.l0
    rw [if_pos (by rw [conv_len]; omega), if_pos (by omega), rd_conv hj, show pianolaref03_slot.f (rd_T47 l (j : Int)).f0 (rd_T47 l (j : Int)).f1 = some (okSlot (rd_T47 l (j : Int))) from slot_eq _, Option.bind_some, e1, List.drop_eq_getElem_cons hj, List.all_cons]
    cases okSlot l[j] with
    | true =>
      rw [if_pos rfl, wrap_in (by omega), show (j : Int) + 1 = ((j + 1 : Nat) : Int) from by omega, check_l0 hl a0 d (j + 1) (by omega)]
      simp
    | false => simp
theorem refCheck_eq {l : List S47} (hl : l.length ≤ 80) (a0 : Int) : pianolaref03_Check.f (l.length + 1) a0 (conv l) = some (checkE a0 l) := by
  unfold pianolaref03_Check.f checkE
  rw [is_eq, Option.bind_some, conv_len]
  by_cases h1 : 0 ≤ a0 ∧ a0 ≤ 1000
  · rw [if_pos h1, if_pos (by simpa using h1)]
    by_cases h2 : 40 < l.length
    · rw [if_pos h2, if_pos (by omega)]
    · rw [if_neg h2, if_neg (by omega)]
      exact check_l0 hl a0 l.length 0 (by omega)
  · rw [if_neg h1, if_neg (by simpa using h1)]
theorem crowdref_l0 {a0 : Int} {l : List S47} (h : checkE a0 l = 0) (m : Int) : ∀ (d j : Nat) (acc : List Int), j + d = l.length → acc = crowdTo a0 l m j → pianolaref03_crowd.l0 (d + 1) m acc j a0 (conv l) = some (crowdOf a0 l m)
  | 0, j, acc, hd, ha => by
    unfold pianolaref03_crowd.l0
    rw [if_neg (by rw [conv_len]; omega), ha, show j = l.length from by omega]
    rfl
  | d + 1, j, acc, hd, ha => by
    obtain ⟨r0, r1, hl, hok⟩ := check_ok h
    have hj : j < l.length := by omega
    have hbd := ok_bounds (all_at hok hj)
    have hlen : acc.length < 17592186044416 := by rw [ha]; have := crowdTo_len a0 l m j; omega
    have ih := fun acc ha => crowdref_l0 h m d (j + 1) acc (by omega) ha
    unfold pianolaref03_crowd.l0
    rw [if_pos (by rw [conv_len]; omega), if_pos (by omega), rd_conv hj]
    dsimp only
    rw [wrap_in (x := (rd_T47 l (j : Int)).f1 + a0) (by omega), wrap_in (x := (j : Int) + 1) (by omega), show (j : Int) + 1 = ((j + 1 : Nat) : Int) from by omega]
    cases hg : inCrowd a0 m (rd_T47 l (j : Int)) with
    | true =>
      have hg' := hg
      unfold inCrowd at hg'
      simp only [Bool.and_eq_true, decide_eq_true_eq] at hg'
      rw [if_pos hg'.1, if_pos hg'.2, if_pos hlen]
      exact ih _ (by rw [crowdTo_yes hg, ha])
    | false =>
      have hg' := hg
      unfold inCrowd at hg'
      simp only [Bool.and_eq_false_iff, decide_eq_false_iff_not] at hg'
      have ih' := ih acc (by rw [crowdTo_no hg, ha])
      by_cases h1 : (rd_T47 l (j : Int)).f0 ≤ m
      · rw [if_pos h1]
        rcases hg' with hg' | hg'
        · exact absurd h1 hg'
        · rw [if_neg hg']; exact ih'
      · rw [if_neg h1]; exact ih'
theorem given_more {l : List S47} (hl : l.length ≤ 80) (a0 : Int) {K : Nat} (hK : 81 ≤ K) : pianolalaw03_given.f K a0 l = some (a0, conv l) := more (f := fun k => pianolalaw03_given.f k a0 l) (pianolalaw03_given.mono _ _) (given_eq hl a0) (by omega)
theorem check_more {l : List S47} (hl : l.length ≤ 80) (a0 : Int) {K : Nat} (hK : 81 ≤ K) : pianolaref03_Check.f K a0 (conv l) = some (checkE a0 l) := more (f := fun k => pianolaref03_Check.f k a0 (conv l)) (pianolaref03_Check.mono _ _) (refCheck_eq hl a0) (by omega)
theorem numbers_more {l : List Int} (hl : l.length ≤ 80) {K : Nat} (hK : 81 ≤ K) : pianolalaw03_numbers.f K l l = some true := more (f := fun k => pianolalaw03_numbers.f k l l) (pianolalaw03_numbers.mono _ _) (numbers_eq (by omega)) (by omega)
theorem crowdref_more {l : List S47} {a0 : Int} (h : checkE a0 l = 0) (m : Int) {K : Nat} (hK : 81 ≤ K) : pianolaref03_crowd.f K a0 (conv l) m = some (crowdOf a0 l m) := by
  have hl := (check_ok h).2.2.1
  exact more (f := fun k => pianolaref03_crowd.f k a0 (conv l) m) (pianolaref03_crowd.mono _ _ _) (show pianolaref03_crowd.f (l.length + 1) a0 (conv l) m = _ from crowdref_l0 h m l.length 0 [] (by omega) rfl) (by omega)
theorem crowdOf_len (a0 : Int) (l : List S47) (m : Int) : (crowdOf a0 l m).length ≤ l.length := crowdTo_len a0 l m l.length
theorem punchJobs_pure (a0 : Int) (l : List S47) (a1 : Int) : pianolalaw03_PunchJobs.f 200 a0 l a1 = some true := by
  unfold pianolalaw03_PunchJobs.f
  by_cases hl : (l.length : Int) > 80
  · rw [if_pos hl, works_more (by omega)]
    rfl
  · rw [if_neg hl]
    have hl' : l.length ≤ 80 := by omega
    unfold punch_Crowd.f punch_Check.f pianolaref03_Crowd.f
    by_cases h : checkE a0 l = 0
    · rw [if_pos h]
      simp only [Option.bind_some]
      rw [given_more hl' a0 (by omega)]
      simp only [Option.bind_some]
      rw [check_more hl' a0 (by omega), Option.bind_some, if_pos h, crowdref_more h a1 (by omega)]
      simp only [Option.bind_some]
      rw [numbers_more (by have := crowdOf_len a0 l a1; omega) (by omega), works_more (by omega)]
      simp
    · rw [if_neg h]
      simp only [Option.bind_some]
      rw [given_more hl' a0 (by omega)]
      simp only [Option.bind_some]
      rw [check_more hl' a0 (by omega), Option.bind_some, if_neg h]
      simp only [Option.bind_some]
      rw [numbers_more (by simp) (by omega), works_more (by omega)]
      simp
end Go.Proofs.Ytaaonhfaoaabbaa.X
