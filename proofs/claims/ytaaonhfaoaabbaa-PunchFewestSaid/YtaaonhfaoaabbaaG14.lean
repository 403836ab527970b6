/- The holes that Bridge returns hold. Plain. -/
import Derived.Test.YtaaonhfaoaabbaaG11
import Derived.Test.YtaaonhfaoaabbaaG13
namespace Go.Proofs.Ytaaonhfaoaabbaa.X
open Go.RowKit Go.Proofs.YtaaonhfaoaabbaaW.PrintWords Go.Proofs.YtaaonhfaoaabbaaW.PrintLast
theorem u8_bd {n : Int} (h : (Lit.int .u8 n).wf = true) : 0 ≤ n ∧ n ≤ 255 := by
  simp [Lit.wf, IntKind.min, IntKind.max, IntKind.signed, IntKind.bits] at h
  omega
theorem tmod_bdd {x m : Int} (hx : 0 ≤ x) (hm : 0 < m) : 0 ≤ Int.tmod x m ∧ Int.tmod x m < m :=
  ⟨Int.tmod_nonneg _ hx, Int.tmod_lt_of_pos _ hm⟩
/-- Holes from a place to another, of lengths up to hHi, with bridges of lengths from bLo to bHi. -/
structure RowOk (hHi bLo bHi lo_ to_ : Int) (L : List S47) : Prop where
  ne : L.length ≠ 0
  first : (rd_T47 L 0).f0 = lo_
  last : (rd_T47 L ((L.length : Int) - 1)).f1 = to_
  each : ∀ i : Nat, i < L.length → lo_ ≤ (rd_T47 L (i : Int)).f0 ∧ (rd_T47 L (i : Int)).f0 < (rd_T47 L (i : Int)).f1 ∧ (rd_T47 L (i : Int)).f1 ≤ to_ ∧ (rd_T47 L (i : Int)).f1 - (rd_T47 L (i : Int)).f0 ≤ hHi
  gap : ∀ i : Nat, i + 1 < L.length → bLo ≤ (rd_T47 L ((i : Int) + 1)).f0 - (rd_T47 L (i : Int)).f1 ∧ (rd_T47 L ((i : Int) + 1)).f0 - (rd_T47 L (i : Int)).f1 ≤ bHi
theorem rd_cons0 (a : S47) (L : List S47) : rd_T47 (a :: L) 0 = a := rfl
theorem rd_cons1 (a : S47) (L : List S47) (i : Nat) : rd_T47 (a :: L) ((i : Int) + 1) = rd_T47 L (i : Int) := by
  unfold rd_T47
  rw [show ((i : Int) + 1).toNat = i + 1 by omega, show ((i : Int)).toNat = i by omega]
  rfl
section
variable {hHi bLo bHi : Int} (h1 : 1 ≤ hHi) (h2 : hHi ≤ 1200) (h3 : 0 ≤ bLo) (h4 : bLo ≤ bHi) (h5 : bHi ≤ 1200)
include h1 h2 h3 h4 h5
theorem rowOk {to_ : Int} : ∀ (l : Nat) (at_ : Int), InvB hHi bLo bHi to_ at_ l → RowOk hHi bLo bHi at_ to_ (rowB hHi bLo bHi to_ l at_)
  | 0, at_, hi => by
    have hh := inv_h h1 h2 h3 h4 h5 hi
    simp only [Int.natCast_zero, Int.zero_mul, Int.add_zero, Int.ofNat_zero, Int.cast_ofNat_Int] at hh
    refine ⟨by simp [rowB], rfl, ?_, fun i hi' => ?_, fun i hi' => by simp [rowB] at hi'⟩
    · show at_ + hOf hHi bLo to_ at_ 0 = to_
      omega
    · obtain rfl : i = 0 := by simp [rowB] at hi'; exact hi'
      show at_ ≤ at_ ∧ at_ < at_ + hOf hHi bLo to_ at_ 0 ∧ at_ + hOf hHi bLo to_ at_ 0 ≤ to_ ∧ at_ + hOf hHi bLo to_ at_ 0 - at_ ≤ hHi
      omega
  | l + 1, at_, hi => by
    have hh := inv_h h1 h2 h3 h4 h5 hi
    have hw := inv_w h1 h2 h3 h4 h5 hi
    have ih := rowOk l _ hw.2.2
    have hlen := rowB_len hHi bLo bHi to_ l (at_ + hOf hHi bLo to_ at_ (l + 1) + wOf bLo bHi to_ (at_ + hOf hHi bLo to_ at_ (l + 1)) (l + 1))
    have hI := hw.2.2
    unfold InvB at hI
    have hp := prods h1 h2 h3 h4 h5 l
    rw [rowB]
    generalize hOf hHi bLo to_ at_ (l + 1) = h at *
    generalize wOf bLo bHi to_ (at_ + h) (l + 1) = w at *
    generalize rowB hHi bLo bHi to_ l (at_ + h + w) = L at *
    refine ⟨by simp, rfl, ?_, fun i hi' => ?_, fun i hi' => ?_⟩
    · rw [List.length_cons, show ((L.length + 1 : Nat) : Int) - 1 = ((L.length - 1 : Nat) : Int) + 1 by omega, rd_cons1, show ((L.length - 1 : Nat) : Int) = (L.length : Int) - 1 by omega]
      exact ih.last
    · cases i with
      | zero =>
        rw [show ((0 : Nat) : Int) = 0 from rfl, rd_cons0]
        dsimp only
        omega
      | succ i =>
        rw [show ((i + 1 : Nat) : Int) = (i : Int) + 1 from rfl, rd_cons1]
        have := ih.each i (by simpa using hi')
        omega
    · cases i with
      | zero =>
        have := ih.first
        rw [show ((0 : Nat) : Int) + 1 = ((0 : Nat) : Int) + 1 from rfl, rd_cons1, show ((0 : Nat) : Int) = 0 from rfl, rd_cons0]
        dsimp only
        omega
      | succ i =>
        have := ih.gap i (by simpa using hi')
        rw [rd_cons1, show ((i + 1 : Nat) : Int) = (i : Int) + 1 from rfl, rd_cons1]
        exact this
end
section
variable {lo hi lg na sh hHi bLo bHi a b : Int} {L : List S47} (hg : goodPaper lo hi lg na sh = true) (hok : okSlot ⟨a, b⟩ = true) (hr : RowOk hHi bLo bHi a b L) (hL : L.length ≤ 200)
  (hmo : ∀ n : Int, n ≤ hHi → n * hi ≤ 1000 * lg) (hbr : 2 ≤ L.length → ∀ n : Int, bLo ≤ n → n ≤ bHi → 1000 * na ≤ n * lo ∧ n * hi < 1000 * sh)
include hg hok hr hL hmo hbr
theorem row_rule : ∀ (d j : Nat), j + d = L.length → ruleE lo hi lg na sh L j d = 0
  | 0, j, hd => rfl
  | d + 1, j, hd => by
    have _ := hg; have _ := hok
    have hj : j < L.length := by omega
    have he := hr.each j hj
    rw [ruleE, if_pos ?_]
    · exact row_rule d (j + 1) (by omega)
    · rw [Bool.and_eq_true, Bool.or_eq_true]
      refine ⟨?_, ?_⟩
      · unfold okHole
        exact decide_eq_true (hmo _ he.2.2.2)
      · by_cases hj0 : j = 0
        · exact .inl (decide_eq_true hj0)
        · have hgp := hr.gap (j - 1) (by omega)
          rw [show ((j - 1 : Nat) : Int) + 1 = (j : Int) by omega, show ((j - 1 : Nat) : Int) = (j : Int) - 1 by omega] at hgp
          have := hbr (by omega) _ hgp.1 hgp.2
          refine .inr ?_
          unfold okGap
          rw [decide_eq_true this.1, decide_eq_true this.2]
          rfl
theorem row_gap (hb1 : 2 ≤ L.length → 1 ≤ bLo) : ∀ (d j : Nat), j + d = L.length → 1 ≤ j → gapE lo hi lg na sh L j d = 0
  | 0, j, hd, hj => by rw [gapE]; exact row_rule hg hok hr hL hmo hbr L.length 0 (by omega)
  | d + 1, j, hd, hj => by
    have hgp := hr.gap (j - 1) (by omega)
    rw [show ((j - 1 : Nat) : Int) + 1 = (j : Int) by omega, show ((j - 1 : Nat) : Int) = (j : Int) - 1 by omega] at hgp
    have := hb1 (by omega)
    rw [gapE, if_neg (by omega)]
    exact row_gap hb1 d (j + 1) (by omega) (by omega)
theorem row_holds : holdsE lo hi lg na sh L a b = 0 := by
  have hne := hr.ne
  have hb := ok_bounds hok
  dsimp only at hb
  have hall : L.all okSlot = true := by
    rw [List.all_eq_true]
    intro x hx
    obtain ⟨i, hi, rfl⟩ := List.getElem_of_mem hx
    have := hr.each i hi
    rw [rd_get hi] at this
    unfold okSlot
    simp only [Bool.and_eq_true, decide_eq_true_eq]
    omega
  have hb1 : 2 ≤ L.length → 1 ≤ bLo := fun h => by
    refine Classical.byContradiction fun hc => ?_
    have hgp := hr.gap 0 (by omega)
    have g := paper5_of hg
    unfold Paper5 at g
    have h0 := hbr h (min bHi 0) (by omega) (by omega)
    have h1 := Int.mul_le_mul_of_nonneg_right (show min bHi 0 ≤ 0 by omega) (show (0 : Int) ≤ lo by omega)
    omega
  unfold holdsE
  rw [hg, hok, if_pos (show (true && true) = true from rfl), if_neg (by omega), if_neg hne, if_pos hall, if_pos ⟨hr.first, hr.last⟩]
  exact row_gap hg hok hr hL hmo hbr hb1 (L.length - 1) 1 (by omega) (by omega)
end
end Go.Proofs.Ytaaonhfaoaabbaa.X
