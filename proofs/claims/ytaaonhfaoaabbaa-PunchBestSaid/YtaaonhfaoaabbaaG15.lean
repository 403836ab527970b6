/- Lanes by numbers, and which slots are near. Plain. -/
import Derived.Test.YtaaonhfaoaabbaaXx22
import Derived.Test.YtaaonhfaoaabbaaE6
import Derived.Test.YtaaonhfaoaabbaaG6
import Derived.OpenShut
namespace Go.Proofs.Ytaaonhfaoaabbaa.X
open Go.RowKit Go.Proofs.YtaaonhfaoaabbaaW.PrintWords Go.Proofs.YtaaonhfaoaabbaaW.PrintLast
/-- What a lane's job is. -/
structure LaneOk (rest : Int) (j : List S47) : Prop where
  r0 : 0 ≤ rest
  r1 : rest ≤ 7
  len : j.length ≤ 7
  slots : ∀ s ∈ j, 0 ≤ s.f0 ∧ s.f0 ≤ 39 ∧ s.f0 < s.f1 ∧ s.f1 ≤ s.f0 + 12
theorem LaneOk.check {rest : Int} {j : List S47} (h : LaneOk rest j) : checkE rest j = 0 := by
  unfold checkE
  have h1 := h.r0
  have h2 := h.r1
  have h3 := h.len
  rw [if_pos (by omega), if_neg (by omega), if_pos ?_]
  rw [List.all_eq_true]
  intro s hs
  have := h.slots s hs
  unfold okSlot
  simp
  omega
theorem u8_bounds {n : Int} (h : (Lit.int .u8 n).wf = true) : 0 ≤ n ∧ n ≤ 255 := by
  simp [Lit.wf, IntKind.min, IntKind.max, IntKind.signed, IntKind.bits] at h
  omega
theorem tmod_bd {x m : Int} (hx : 0 ≤ x) (hm : 0 < m) : 0 ≤ Int.tmod x m ∧ Int.tmod x m < m :=
  ⟨Int.tmod_nonneg _ hx, Int.tmod_lt_of_pos _ hm⟩
theorem lane_l0 {rest r' : Int} {l : List S82} (hq : ∀ q ∈ l, 0 ≤ q.f0 ∧ q.f0 ≤ 255 ∧ 0 ≤ q.f1 ∧ q.f1 ≤ 255) : ∀ (d i : Nat) (acc : List S47), i + d = 7 → acc.length ≤ i → (∀ s ∈ acc, 0 ≤ s.f0 ∧ s.f0 ≤ 39 ∧ s.f0 < s.f1 ∧ s.f1 ≤ s.f0 + 12) →
    ∃ j, pianolalaw03_Lane_made.l0 (d + 1) i rest l r' acc = some (r', j) ∧ j.length ≤ 7 ∧ ∀ s ∈ j, 0 ≤ s.f0 ∧ s.f0 ≤ 39 ∧ s.f0 < s.f1 ∧ s.f1 ≤ s.f0 + 12
  | 0, i, acc, hd, ha, hs => by
    refine ⟨acc, ?_, by omega, hs⟩
    rw [pianolalaw03_Lane_made.l0]
    by_cases c : (i : Int) < (l.length : Int)
    · rw [if_pos c, if_neg (by omega)]
    · rw [if_neg c]
  | d + 1, i, acc, hd, ha, hs => by
    by_cases c : (i : Int) < (l.length : Int)
    · have hi : i < l.length := by omega
      have hb := hq l[i] (List.getElem_mem hi)
      have e : rd_T82 l (i : Int) = l[i] := by unfold rd_T82; simp [List.getD_eq_getElem?_getD, hi]
      have t1 := tmod_bd (x := l[i].f0) (m := 40) (by omega) (by omega)
      have t2 := tmod_bd (x := l[i].f1) (m := 12) (by omega) (by omega)
      obtain ⟨j, h1, h2⟩ := lane_l0 (rest := rest) (r' := r') hq d (i + 1) (acc ++ [⟨Int.tmod l[i].f0 40, Int.tmod l[i].f0 40 + 1 + Int.tmod l[i].f1 12⟩]) (by omega) (by simp; omega) (fun s hs' => by
        rcases List.mem_append.1 hs' with hs' | hs'
        · exact hs s hs'
        · obtain rfl : s = _ := by simpa using hs'
          dsimp only
          omega)
      refine ⟨j, ?_, h2⟩
      rw [pianolalaw03_Lane_made.l0, if_pos c, if_pos (by omega), if_pos (by omega), if_pos (by omega), e, wrap_in (x := l[i].f0) (by omega), wrap_in (x := l[i].f1) (by omega), wrap_in (x := Int.tmod l[i].f0 40 + 1) (by omega), wrap_in (x := Int.tmod l[i].f0 40 + 1 + Int.tmod l[i].f1 12) (by omega), wrap_in (x := (i : Int) + 1) (by omega)]
      exact h1
    · refine ⟨acc, ?_, by omega, hs⟩
      rw [pianolalaw03_Lane_made.l0, if_neg c]
theorem lane_ex {rest : Int} {l : List S82} (hw : (Lit.int .u8 rest).wf = true) (hq : ∀ q ∈ l, (Lit.int .u8 q.f0).wf = true ∧ (Lit.int .u8 q.f1).wf = true) :
    ∃ r' j, LaneOk r' j ∧ ∀ K, 8 ≤ K → pianolalaw03_Lane_made.f K rest l = some (r', j) := by
  have hr := u8_bounds hw
  obtain ⟨j, h1, h2, h3⟩ := lane_l0 (rest := rest) (r' := Int.tmod rest 8) (l := l) (fun q h => by
    have h1 := u8_bounds (hq q h).1
    have h2 := u8_bounds (hq q h).2
    omega) 7 0 [] (by omega) (by simp) (by simp)
  have t := tmod_bd (x := rest) (m := 8) (by omega) (by omega)
  refine ⟨Int.tmod rest 8, j, ⟨by omega, by omega, h2, h3⟩, fun K hK => ?_⟩
  refine more (f := fun k => pianolalaw03_Lane_made.f k rest l) (pianolalaw03_Lane_made.mono _ _) (k := 8) ?_ hK
  show pianolalaw03_Lane_made.f 8 rest l = _
  unfold pianolalaw03_Lane_made.f
  rw [wrap_in (x := rest) (by omega)]
  exact h1
theorem near_l0 {rest : Int} {a b : S47} (ha : 0 ≤ a.f1 ∧ a.f1 + rest ≤ 1000) (hb : 0 ≤ b.f1 ∧ b.f1 + rest ≤ 1000) (r0 : 0 ≤ rest) : ∀ (d m : Nat), m + d = 80 →
    pianolalaw03_near.l0 (d + 1) rest m a.f0 a.f1 b.f0 b.f1 = some (decide (max a.f0 (max b.f0 (m : Int)) < min (a.f1 + rest) (min (b.f1 + rest) 80)))
  | 0, m, hd => by
    rw [pianolalaw03_near.l0, if_neg (by omega), decide_eq_false (by omega)]
  | d + 1, m, hd => by
    have ih := near_l0 ha hb r0 d (m + 1) (by omega)
    rw [pianolalaw03_near.l0, if_pos (by omega), wrap_in (x := a.f1 + rest) (by omega), wrap_in (x := b.f1 + rest) (by omega), wrap_in (x := (m : Int) + 1) (by omega), show (m : Int) + 1 = ((m + 1 : Nat) : Int) from rfl, ih]
    by_cases h1 : a.f0 ≤ (m : Int)
    · rw [if_pos h1]
      by_cases h2 : (m : Int) < a.f1 + rest
      · rw [if_pos h2]
        by_cases h3 : b.f0 ≤ (m : Int)
        · rw [if_pos h3]
          by_cases h4 : (m : Int) < b.f1 + rest
          · rw [if_pos h4, decide_eq_true (by omega)]
          · rw [if_neg h4, decide_eq_false (by omega), decide_eq_false (by omega)]
        · rw [if_neg h3]
          congr 1
          exact decide_eq_decide.2 (by omega)
      · rw [if_neg h2, decide_eq_false (by omega), decide_eq_false (by omega)]
    · rw [if_neg h1]
      congr 1
      exact decide_eq_decide.2 (by omega)
theorem near_eq {rest : Int} {a b : S47} (r0 : 0 ≤ rest) (ha : 0 ≤ a.f0 ∧ a.f0 < a.f1 ∧ a.f1 + rest ≤ 80) (hb : 0 ≤ b.f0 ∧ b.f0 < b.f1 ∧ b.f1 + rest ≤ 80) {K : Nat} (hK : 81 ≤ K) : pianolalaw03_near.f K a.f0 a.f1 b.f0 b.f1 rest = some (clashB rest a b) := by
  refine more (f := fun k => pianolalaw03_near.f k a.f0 a.f1 b.f0 b.f1 rest) (pianolalaw03_near.mono _ _ _ _ _) (k := 81) ?_ hK
  show pianolalaw03_near.f 81 a.f0 a.f1 b.f0 b.f1 rest = _
  unfold pianolalaw03_near.f
  have := near_l0 (rest := rest) (a := a) (b := b) (by omega) (by omega) r0 80 0 (by omega)
  rw [show ((0 : Nat) : Int) = 0 from rfl] at this
  rw [this]
  congr 1
  unfold clashB
  rw [← Bool.decide_and]
  exact decide_eq_decide.2 (by omega)
end Go.Proofs.Ytaaonhfaoaabbaa.X
