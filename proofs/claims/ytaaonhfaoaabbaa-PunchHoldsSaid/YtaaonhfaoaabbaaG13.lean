/- Holds of the program: plain. -/
import Derived.Test.YtaaonhfaoaabbaaXx7
import Derived.Test.YtaaonhfaoaabbaaE6
import Derived.Test.YtaaonhfaoaabbaaE7
import Derived.Test.YtaaonhfaoaabbaaE11
import Derived.Test.YtaaonhfaoaabbaaG1
namespace Go.Proofs.Ytaaonhfaoaabbaa.X
open Go.RowKit Go.Proofs.YtaaonhfaoaabbaaW.PrintWords Go.Proofs.YtaaonhfaoaabbaaW.PrintLast
/-- The numbers of a paper as stated. -/
def Paper5 (lo hi lg na sh : Int) : Prop := 900 ≤ lo ∧ lo ≤ hi ∧ hi ≤ 1100 ∧ 1 ≤ lg ∧ lg ≤ 1000 ∧ 1 ≤ na ∧ na ≤ 1000 ∧ 1 ≤ sh ∧ sh ≤ 1000
theorem paper5_of {lo hi lg na sh : Int} (h : goodPaper lo hi lg na sh = true) : Paper5 lo hi lg na sh := by
  unfold goodPaper at h
  simp only [Bool.and_eq_true, decide_eq_true_eq] at h
  unfold Paper5
  omega
theorem mul_sb {a b A B : Int} (ha : -A ≤ a ∧ a ≤ A) (hb : 0 ≤ b ∧ b ≤ B) : -(A * B) ≤ a * b ∧ a * b ≤ A * B := by
  have h1 : a * b ≤ A * b := Int.mul_le_mul_of_nonneg_right ha.2 hb.1
  have h2 : A * b ≤ A * B := Int.mul_le_mul_of_nonneg_left hb.2 (by omega)
  have h3 : -A * b ≤ a * b := Int.mul_le_mul_of_nonneg_right ha.1 hb.1
  have h4 : -A * b = -(A * b) := Int.neg_mul _ _
  omega
def okHole (hi lg : Int) (s : S47) : Bool := decide ((s.f1 - s.f0) * hi ≤ 1000 * lg)
def okGap (lo hi na sh : Int) (a b : S47) : Bool := decide (1000 * na ≤ (b.f0 - a.f1) * lo) && decide ((b.f0 - a.f1) * hi < 1000 * sh)
section
variable (lo hi lg na sh : Int) (l : List S47)
/-- The last check, from hole j on. -/
def ruleE (j : Nat) : Nat → Int
  | 0 => 0
  | d + 1 => if (okHole hi lg (rd_T47 l (j : Int)) && (decide (j = 0) || okGap lo hi na sh (rd_T47 l ((j : Int) - 1)) (rd_T47 l (j : Int)))) = true then ruleE (j + 1) d else 21
/-- The check of order, from hole j on. -/
def gapE (j : Nat) : Nat → Int
  | 0 => ruleE lo hi lg na sh l 0 l.length
  | d + 1 => if (rd_T47 l (j : Int)).f0 ≤ (rd_T47 l ((j : Int) - 1)).f1 then 13 else gapE (j + 1) d
def holdsE (a b : Int) : Int :=
  if goodPaper lo hi lg na sh && okSlot ⟨a, b⟩ then
    (if l.length > 200 then 5 else if l.length = 0 then 6 else if l.all okSlot then
      (if (rd_T47 l 0).f0 = a ∧ (rd_T47 l ((l.length : Int) - 1)).f1 = b then gapE lo hi lg na sh l 1 (l.length - 1) else 13) else 6)
  else 3
end
section
variable {lo hi lg na sh : Int} {l : List S47} (g : Paper5 lo hi lg na sh) (hl : l.length ≤ 200)
include g hl
theorem codeH_l2 (hok : l.all okSlot = true) : ∀ (d j : Nat), j + d = l.length → punch_Holds.l2 (d + 1) l l (l.length : Int) j lo hi lg na sh = some (ruleE lo hi lg na sh l j d)
  | 0, j, hd => by rw [punch_Holds.l2, if_neg (by omega)]; rfl
  | d + 1, j, hd => by
    have ih := codeH_l2 hok d (j + 1) (by omega)
    have hj : j < l.length := by omega
    have b1 := ok_bounds (all_at hok hj)
    have g' := g
    unfold Paper5 at g'
    have m1 := mul_sb (a := (rd_T47 l (j : Int)).f1 - (rd_T47 l (j : Int)).f0) (b := hi) (A := 1000000) (B := 1100) (by omega) (by omega)
    rw [punch_Holds.l2, if_pos (by omega), if_pos (by omega), if_pos (by omega), wrap_in (x := (rd_T47 l (j : Int)).f1 - (rd_T47 l (j : Int)).f0) (by omega), wrap_in (x := ((rd_T47 l (j : Int)).f1 - (rd_T47 l (j : Int)).f0) * hi) (by omega), wrap_in (x := 1000 * lg) (by omega), wrap_in (x := (j : Int) + 1) (by omega), show (j : Int) + 1 = ((j + 1 : Nat) : Int) from rfl, ih, ruleE]
    by_cases c1 : ((rd_T47 l (j : Int)).f1 - (rd_T47 l (j : Int)).f0) * hi > 1000 * lg
    · rw [if_pos c1, if_neg (by unfold okHole; simp; omega)]
    · rw [if_neg c1]
      have o1 : okHole hi lg (rd_T47 l (j : Int)) = true := by unfold okHole; simp; omega
      rw [o1, Bool.true_and]
      by_cases c2 : j = 0
      · rw [if_pos (by omega), if_pos (by simp [c2])]
      · have b2 := ok_bounds (all_at hok (show j - 1 < l.length by omega))
        rw [show ((j - 1 : Nat) : Int) = (j : Int) - 1 by omega] at b2
        have m2 := mul_sb (a := (rd_T47 l (j : Int)).f0 - (rd_T47 l ((j : Int) - 1)).f1) (b := hi) (A := 1000000) (B := 1100) (by omega) (by omega)
        have m3 := mul_sb (a := (rd_T47 l (j : Int)).f0 - (rd_T47 l ((j : Int) - 1)).f1) (b := lo) (A := 1000000) (B := 1100) (by omega) (by omega)
        rw [if_neg (by omega), wrap_in (x := (j : Int) - 1) (by omega), if_pos (by omega), if_pos (by omega), wrap_in (x := (rd_T47 l (j : Int)).f0 - (rd_T47 l ((j : Int) - 1)).f1) (by omega), wrap_in (x := ((rd_T47 l (j : Int)).f0 - (rd_T47 l ((j : Int) - 1)).f1) * lo) (by omega), wrap_in (x := ((rd_T47 l (j : Int)).f0 - (rd_T47 l ((j : Int) - 1)).f1) * hi) (by omega), wrap_in (x := 1000 * na) (by omega), wrap_in (x := 1000 * sh) (by omega), decide_eq_false c2, Bool.false_or]
        unfold okGap
        by_cases c3 : ((rd_T47 l (j : Int)).f0 - (rd_T47 l ((j : Int) - 1)).f1) * lo < 1000 * na
        · rw [if_pos c3, if_neg (by simp; omega)]
        · rw [if_neg c3]
          by_cases c4 : ((rd_T47 l (j : Int)).f0 - (rd_T47 l ((j : Int) - 1)).f1) * hi ≥ 1000 * sh
          · rw [if_pos c4, if_neg (by simp; omega)]
          · rw [if_neg c4, if_pos (by simp; omega)]
theorem codeH_l1 (hok : l.all okSlot = true) : ∀ (d j : Nat), j + d + 1 = l.length → punch_Holds.l1 (d + 1 + (l.length + 1)) l (l.drop 1) ((l.drop 1).length : Int) j lo hi lg na sh = some (gapE lo hi lg na sh l (j + 1) d)
  | 0, j, hd => by
    rw [show 0 + 1 + (l.length + 1) = (l.length + 1) + 1 by omega, punch_Holds.l1, if_neg (by rw [List.length_drop]; omega)]
    exact codeH_l2 g hl hok l.length 0 (by omega)
  | d + 1, j, hd => by
    have ih := codeH_l1 hok d (j + 1) (by omega)
    have e : rd_T47 (l.drop 1) (j : Int) = rd_T47 l ((j + 1 : Nat) : Int) := by unfold rd_T47; simp [Nat.add_comm]
    rw [show d + 1 + 1 + (l.length + 1) = (d + 1 + (l.length + 1)) + 1 by omega, punch_Holds.l1, if_pos (by rw [List.length_drop]; omega), if_pos (by omega), if_pos (by rw [List.length_drop]; omega), if_pos (by omega), e, wrap_in (x := (j : Int) + 1) (by omega), show (j : Int) + 1 = ((j + 1 : Nat) : Int) from rfl, ih, gapE, show ((j + 1 : Nat) : Int) - 1 = (j : Int) by omega]
    split <;> rfl
theorem codeH_l0 (a b : Int) (hne : l.length ≠ 0) : ∀ (d j : Nat), j + d = l.length → ((l.take j).all okSlot = true) →
    punch_Holds.l0 (d + 1 + 1 + (l.length + (l.length + 1))) l l (l.length : Int) j lo hi lg na sh a b = some (if l.all okSlot then (if (rd_T47 l 0).f0 = a ∧ (rd_T47 l ((l.length : Int) - 1)).f1 = b then gapE lo hi lg na sh l 1 (l.length - 1) else 13) else 6)
  | 0, j, hd, ht => by
    rw [List.take_of_length_le (by omega)] at ht
    rw [show 0 + 1 + 1 + (l.length + (l.length + 1)) = ((l.length + (l.length + 1)) + 1) + 1 by omega, punch_Holds.l0, if_neg (by omega), if_pos (by omega), wrap_in (x := (l.length : Int) - 1) (by omega), if_pos ht]
    by_cases c1 : (rd_T47 l 0).f0 = a
    · rw [if_pos c1, if_pos (by omega), if_pos (by omega), punch_Holds.j2]
      by_cases c2 : (rd_T47 l ((l.length : Int) - 1)).f1 = b
      · rw [if_neg (by simp [c2]), if_pos (by omega), Option.bind_some, if_pos ⟨c1, c2⟩]
        have := codeH_l1 g hl ht (l.length - 1) 0 (by omega)
        rw [show l.length - 1 + 1 + (l.length + 1) = l.length + (l.length + 1) by omega] at this
        exact this
      · rw [if_pos (by simp [c2]), if_neg (fun h => c2 h.2)]
    · rw [if_neg c1, punch_Holds.j2, if_pos rfl, if_neg (fun h => c1 h.1)]
  | d + 1, j, hd, ht => by
    have hj : j < l.length := by omega
    rw [show d + 1 + 1 + 1 + (l.length + (l.length + 1)) = (d + 1 + 1 + (l.length + (l.length + 1))) + 1 by omega, punch_Holds.l0, if_pos (by omega), if_pos (by omega), if_pos (by omega), good_eq, Option.bind_some, wrap_in (x := (j : Int) + 1) (by omega)]
    cases hg : okSlot (rd_T47 l (j : Int)) with
    | true =>
      rw [if_pos rfl]
      refine codeH_l0 a b hne d (j + 1) (by omega) ?_
      rw [take_snoc hj, List.all_append, ht, List.all_cons, List.all_nil]
      simp [hg]
    | false =>
      rw [if_neg (by simp), if_neg ?_]
      rw [all_false hj hg]
      simp
end
theorem codeHolds_eq (lo hi lg na sh a b : Int) (l : List S47) : punch_Holds.f (l.length + l.length + l.length + 10) lo hi lg na sh a b l = some (holdsE lo hi lg na sh l a b) := by
  unfold punch_Holds.f holdsE
  rw [paper_eq, Option.bind_some]
  cases hg : goodPaper lo hi lg na sh with
  | false => rw [if_neg (by simp), show l.length + l.length + l.length + 10 = (l.length + l.length + l.length + 9) + 1 from rfl, punch_Holds.j0, if_pos rfl]; rfl
  | true =>
    rw [if_pos rfl, good_eq, Option.bind_some, show l.length + l.length + l.length + 10 = (l.length + l.length + l.length + 9) + 1 from rfl, punch_Holds.j0]
    cases hs : okSlot ⟨a, b⟩ with
    | false => rw [if_pos (show (!false) = true from rfl)]; rfl
    | true =>
      rw [if_neg (by simp), if_pos (show (true && true) = true from rfl)]
      by_cases c1 : (l.length : Int) > 200
      · rw [if_pos c1, if_pos (show l.length > 200 by omega)]
      · rw [if_neg c1, if_neg (show ¬ l.length > 200 by omega)]
        by_cases c2 : l.length = 0
        · rw [if_pos (by omega), if_pos c2]
        · rw [if_neg (by omega), if_neg c2]
          have h0 := codeH_l0 (paper5_of hg) (show l.length ≤ 200 by omega) a b c2 l.length 0 (by omega) rfl
          have := more (f := fun k => punch_Holds.l0 k l l (l.length : Int) ((0 : Nat) : Int) lo hi lg na sh a b) (fun k => (punch_Holds.mono_l k).2.1 _ _ _ _ _ _ _ _ _ _ _) h0 (show _ ≤ l.length + l.length + l.length + 9 by omega)
          exact this
end Go.Proofs.Ytaaonhfaoaabbaa.X
