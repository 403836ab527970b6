/- Holds: the program's and the reference's answers. Plain. -/
import Derived.Test.YtaaonhfaoaabbaaXx31
import Derived.Test.YtaaonhfaoaabbaaG16
import Derived.Test.YtaaonhfaoaabbaaG0
import Derived.Test.YtaaonhfaoaabbaaG13
namespace Go.Proofs.Ytaaonhfaoaabbaa.X
open Go.RowKit Go.Proofs.YtaaonhfaoaabbaaW.PrintWords Go.Proofs.YtaaonhfaoaabbaaW.PrintLast
theorem refpaperH (lo hi lg na sh : Int) : pianolaref03_paper.f lo hi lg na sh = some (if goodPaper lo hi lg na sh then 0 else 3) := by
  unfold pianolaref03_paper.f goodPaper
  simp only [is_eq, Option.bind_some]
  by_cases h1 : 900 ≤ lo ∧ lo ≤ hi
  · rw [if_pos (by simpa using h1)]
    by_cases h2 : hi ≤ 1100
    · rw [if_neg (by omega)]
      by_cases h3 : 1 ≤ lg ∧ lg ≤ 1000
      · rw [if_pos (by simpa using h3)]
        by_cases h4 : 1 ≤ na ∧ na ≤ 1000
        · rw [if_pos (by simpa using h4)]
          by_cases h5 : 1 ≤ sh ∧ sh ≤ 1000
          · rw [if_pos (by simpa using h5), if_pos (by simp [h1, h2, h3, h4, h5])]
          · rw [if_neg (by simpa using h5), if_neg (by simp; omega)]
        · rw [if_neg (by simpa using h4), if_neg (by simp; omega)]
      · rw [if_neg (by simpa using h3), if_neg (by simp; omega)]
    · rw [if_pos (by omega), if_neg (by simp; omega)]
  · rw [if_neg (by simpa using h1), if_neg (by simp; omega)]
section
variable {lo hi lg na sh : Int} {l : List S47} (g : Paper5 lo hi lg na sh) (hl : l.length ≤ 200)
include g
theorem hole_dir {n : Int} (hn : -1000000 ≤ n ∧ n ≤ 1000000) : pianolaref03_hole.f lo hi lg na sh n = some (decide (n * hi ≤ 1000 * lg)) := by
  unfold Paper5 at g
  have hb := mul_sb (a := n) (b := hi) (A := 1000000) (B := 1100) hn (by omega)
  unfold pianolaref03_hole.f
  rw [wrap_in (by omega), wrap_in (by omega)]
theorem bridge_dir {n : Int} (hn : -1000000 ≤ n ∧ n ≤ 1000000) : pianolaref03_bridge.f lo hi lg na sh n = some (decide (1000 * na ≤ n * lo) && decide (n * hi < 1000 * sh)) := by
  unfold Paper5 at g
  have hb := mul_sb (a := n) (b := hi) (A := 1000000) (B := 1100) hn (by omega)
  have hb' := mul_sb (a := n) (b := lo) (A := 1000000) (B := 1100) hn (by omega)
  unfold pianolaref03_bridge.f
  rw [wrap_in (x := n * lo) (by omega), wrap_in (x := 1000 * na) (by omega), wrap_in (x := n * hi) (by omega), wrap_in (x := 1000 * sh) (by omega)]
  by_cases h1 : n * lo ≥ 1000 * na
  · rw [if_pos h1, decide_eq_true (show 1000 * na ≤ n * lo from h1), Bool.true_and]
  · rw [if_neg h1, decide_eq_false (show ¬ 1000 * na ≤ n * lo from h1), Bool.false_and]
include hl
theorem refH_l2 (hok : l.all okSlot = true) : ∀ (d j : Nat), j + d = l.length → pianolaref03_Holds.l2 (d + 1) (conv l) j lo hi lg na sh = some (ruleE lo hi lg na sh l j d)
  | 0, j, hd => by rw [pianolaref03_Holds.l2, if_neg (by rw [conv_len]; omega)]; rfl
  | d + 1, j, hd => by
    have ih := refH_l2 hok d (j + 1) (by omega)
    have hj : j < l.length := by omega
    have b1 := ok_bounds (all_at hok hj)
    rw [pianolaref03_Holds.l2, if_pos (by rw [conv_len]; omega), if_pos (by omega), rd_conv hj]
    dsimp only
    rw [wrap_in (x := (rd_T47 l (j : Int)).f1 - (rd_T47 l (j : Int)).f0) (by omega), hole_dir g (by omega), Option.bind_some, wrap_in (x := (j : Int) + 1) (by omega), show (j : Int) + 1 = ((j + 1 : Nat) : Int) from rfl, ih, ruleE]
    cases o1 : okHole hi lg (rd_T47 l (j : Int)) with
    | false =>
      have o1' : decide (((rd_T47 l (j : Int)).f1 - (rd_T47 l (j : Int)).f0) * hi ≤ 1000 * lg) = false := o1
      rw [o1', if_neg (by simp), if_neg (by simp)]
    | true =>
      have o1' : decide (((rd_T47 l (j : Int)).f1 - (rd_T47 l (j : Int)).f0) * hi ≤ 1000 * lg) = true := o1
      rw [o1', if_pos rfl, Bool.true_and]
      by_cases c2 : j = 0
      · rw [if_neg (by omega), if_pos (by simp [c2])]
      · have b2 := ok_bounds (all_at hok (show j - 1 < l.length by omega))
        have rc := rd_conv (l := l) (show j - 1 < l.length by omega)
        rw [show ((j - 1 : Nat) : Int) = (j : Int) - 1 by omega] at b2 rc
        rw [if_pos (by omega), wrap_in (x := (j : Int) - 1) (by omega), if_pos (by omega), if_pos (by rw [conv_len]; omega), rc]
        dsimp only
        rw [wrap_in (x := (rd_T47 l (j : Int)).f0 - (rd_T47 l ((j : Int) - 1)).f1) (by omega), bridge_dir g (by omega), Option.bind_some, decide_eq_false c2, Bool.false_or]
        show (if okGap lo hi na sh (rd_T47 l ((j : Int) - 1)) (rd_T47 l (j : Int)) = true then _ else _) = _
        split <;> rfl
theorem refH_l1 (hok : l.all okSlot = true) : ∀ (d j : Nat), j + d = l.length → 1 ≤ j → pianolaref03_Holds.l1 (d + 1 + (l.length + 1)) (conv l) j lo hi lg na sh = some (gapE lo hi lg na sh l j d)
  | 0, j, hd, hj1 => by
    rw [show 0 + 1 + (l.length + 1) = (l.length + 1) + 1 by omega, pianolaref03_Holds.l1, if_neg (by rw [conv_len]; omega)]
    exact refH_l2 g hl hok l.length 0 (by omega)
  | d + 1, j, hd, hj1 => by
    have ih := refH_l1 hok d (j + 1) (by omega) (by omega)
    have hj : j < l.length := by omega
    have rc := rd_conv (l := l) (show j - 1 < l.length by omega)
    rw [show ((j - 1 : Nat) : Int) = (j : Int) - 1 by omega] at rc
    rw [show d + 1 + 1 + (l.length + 1) = (d + 1 + (l.length + 1)) + 1 by omega, pianolaref03_Holds.l1, if_pos (by rw [conv_len]; omega), if_pos (by omega), wrap_in (x := (j : Int) - 1) (by omega), if_pos (by omega), if_pos (by rw [conv_len]; omega), rd_conv hj, rc, wrap_in (x := (j : Int) + 1) (by omega), show (j : Int) + 1 = ((j + 1 : Nat) : Int) from rfl, ih, gapE]
    dsimp only
    split <;> rfl
theorem refH_l0 (a b : Int) (hne : l.length ≠ 0) : ∀ (d j : Nat), j + d = l.length → ((l.take j).all okSlot = true) →
    pianolaref03_Holds.l0 (d + 1 + 1 + (l.length + (l.length + 1))) (conv l) j lo hi lg na sh a b = some (if l.all okSlot then (if (rd_T47 l 0).f0 = a ∧ (rd_T47 l ((l.length : Int) - 1)).f1 = b then gapE lo hi lg na sh l 1 (l.length - 1) else 13) else 6)
  | 0, j, hd, ht => by
    rw [List.take_of_length_le (by omega)] at ht
    have r0 := rd_conv (l := l) (show 0 < l.length by omega)
    have r1 := rd_conv (l := l) (show l.length - 1 < l.length by omega)
    rw [show ((0 : Nat) : Int) = 0 from rfl] at r0
    rw [show ((l.length - 1 : Nat) : Int) = (l.length : Int) - 1 by omega] at r1
    rw [show 0 + 1 + 1 + (l.length + (l.length + 1)) = ((l.length + (l.length + 1)) + 1) + 1 by omega, pianolaref03_Holds.l0, if_neg (by rw [conv_len]; omega), if_pos (by rw [conv_len]; omega), conv_len, wrap_in (x := (l.length : Int) - 1) (by omega), if_pos ht, r0, r1]
    dsimp only
    by_cases c1 : (rd_T47 l 0).f0 = a
    · rw [if_pos c1, if_pos (by omega), if_pos (by omega), pianolaref03_Holds.j1]
      by_cases c2 : (rd_T47 l ((l.length : Int) - 1)).f1 = b
      · rw [if_neg (by simp [c2]), if_pos ⟨c1, c2⟩]
        have := refH_l1 g hl ht (l.length - 1) 1 (by omega) (by omega)
        rw [show l.length - 1 + 1 + (l.length + 1) = l.length + (l.length + 1) by omega] at this
        exact this
      · rw [if_pos (by simp [c2]), if_neg (fun h => c2 h.2)]
    · rw [if_neg c1, pianolaref03_Holds.j1, if_pos rfl, if_neg (fun h => c1 h.1)]
  | d + 1, j, hd, ht => by
    have hj : j < l.length := by omega
    rw [show d + 1 + 1 + 1 + (l.length + (l.length + 1)) = (d + 1 + 1 + (l.length + (l.length + 1))) + 1 by omega, pianolaref03_Holds.l0, if_pos (by rw [conv_len]; omega), if_pos (by omega), rd_conv hj]
    dsimp only
    rw [slot_eq (rd_T47 l (j : Int)), Option.bind_some, wrap_in (x := (j : Int) + 1) (by omega)]
    cases hg : okSlot (rd_T47 l (j : Int)) with
    | true =>
      rw [if_pos rfl]
      refine refH_l0 a b hne d (j + 1) (by omega) ?_
      rw [take_snoc hj, List.all_append, ht, List.all_cons, List.all_nil]
      simp [hg]
    | false =>
      rw [if_neg (by simp), if_neg ?_]
      rw [all_false hj hg]
      simp
end
theorem refHolds_eq (lo hi lg na sh a b : Int) (l : List S47) : pianolaref03_Holds.f (l.length + l.length + l.length + 10) lo hi lg na sh a b (conv l) = some (holdsE lo hi lg na sh l a b) := by
  unfold pianolaref03_Holds.f holdsE
  rw [refpaperH, Option.bind_some]
  cases hg : goodPaper lo hi lg na sh with
  | false => rfl
  | true =>
    rw [if_pos rfl, if_pos rfl, slot_eq ⟨a, b⟩, Option.bind_some]
    cases hs : okSlot ⟨a, b⟩ with
    | false => rfl
    | true =>
      rw [if_pos rfl, if_pos (show (true && true) = true from rfl), conv_len]
      by_cases c1 : (l.length : Int) > 200
      · rw [if_pos c1, if_pos (show l.length > 200 by omega)]
      · rw [if_neg c1, if_neg (show ¬ l.length > 200 by omega)]
        by_cases c2 : l.length = 0
        · rw [if_pos (by omega), if_pos c2]
        · rw [if_neg (by omega), if_neg c2]
          have h0 := refH_l0 (paper5_of hg) (show l.length ≤ 200 by omega) a b c2 l.length 0 (by omega) rfl
          have := more (f := fun k => pianolaref03_Holds.l0 k (conv l) ((0 : Nat) : Int) lo hi lg na sh a b) (fun k => (pianolaref03_Holds.mono_l k).1 _ _ _ _ _ _ _ _ _) h0 (show _ ≤ l.length + l.length + l.length + 10 by omega)
          exact this
theorem holes_l0 {l : List S47} (hl : l.length ≤ 400) : ∀ (d j : Nat) (acc : List S52), j + d = l.length → acc = conv (l.take j) → pianolalaw03_holes.l0 (d + 1) l acc j = some (conv l)
  | 0, j, acc, h, ha => by
    rw [pianolalaw03_holes.l0, if_neg (by omega), ha, List.take_of_length_le (by omega)]
  | d + 1, j, acc, h, ha => by
    have hj : j < l.length := by omega
    rw [pianolalaw03_holes.l0, if_pos (by omega), if_pos (by omega), if_pos (by rw [ha, conv_len, List.length_take]; omega), wrap_in (by omega), show (j : Int) + 1 = ((j + 1 : Nat) : Int) from by omega]
    refine holes_l0 hl d (j + 1) _ (by omega) ?_
    rw [ha, take_snoc hj]
    simp [conv]
theorem punchHolds_pure (lo hi lg na sh a b : Int) (l : List S47) : ∃ k, pianolalaw03_PunchHolds.f k lo hi lg na sh a b l = some true := by
  by_cases c : (l.length : Int) > 400
  · refine ⟨100, ?_⟩
    unfold pianolalaw03_PunchHolds.f
    rw [if_pos c, works_at]
    rfl
  · refine ⟨1500, ?_⟩
    have h1 := more (f := fun k => punch_Holds.f k lo hi lg na sh a b l) (punch_Holds.mono _ _ _ _ _ _ _ _) (codeHolds_eq lo hi lg na sh a b l) (show _ ≤ 1500 by omega)
    have h2 := more (f := fun k => pianolaref03_Holds.f k lo hi lg na sh a b (conv l)) (pianolaref03_Holds.mono _ _ _ _ _ _ _ _) (refHolds_eq lo hi lg na sh a b l) (show _ ≤ 1500 by omega)
    have h3 := more (f := fun k => pianolalaw03_holes.f k l) (pianolalaw03_holes.mono _) (show pianolalaw03_holes.f (l.length + 1) l = some (conv l) from holes_l0 (by omega) l.length 0 [] (by omega) rfl) (show _ ≤ 1500 by omega)
    unfold pianolalaw03_PunchHolds.f
    rw [if_neg c, h1, Option.bind_some, h3, Option.bind_some, h2, Option.bind_some, if_pos rfl, works_more (by omega)]
    rfl
end Go.Proofs.Ytaaonhfaoaabbaa.X
