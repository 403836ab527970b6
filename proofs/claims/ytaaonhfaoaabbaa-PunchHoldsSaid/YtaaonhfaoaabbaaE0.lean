/- The pure functions that the calls of package punch come to. -/
import Derived.Test.YtaaonhfaoaabbaaXx0
namespace Go.Proofs.Ytaaonhfaoaabbaa.X
open Go.RowKit Go.Proofs.YtaaonhfaoaabbaaW.PrintWords Go.Proofs.YtaaonhfaoaabbaaW.PrintLast Go.Proofs.YtaaonhfaoaabbaaW.PrintMore

/-- A slot is as stated. -/
def okSlot (x : S47) : Bool := decide (0 ≤ x.f0) && decide (x.f0 < x.f1) && decide (x.f1 ≤ 1000000)
/-- The error of a job. -/
def checkE (rest : Int) (l : List S47) : Int :=
  if 0 ≤ rest ∧ rest ≤ 1000 then (if 40 < l.length then 5 else if l.all okSlot then 0 else 3) else 3
/-- A slot belongs to the crowd at a moment. -/
def inCrowd (rest m : Int) (x : S47) : Bool := decide (x.f0 ≤ m) && decide (m < x.f1 + rest)
/-- The numbers of the slots of a crowd. -/
def crowdOf (rest : Int) (l : List S47) (m : Int) : List Int :=
  ((List.range l.length).filter (fun i => inCrowd rest m (l.getD i z47))).map (fun i : Nat => (i : Int))
/-- Two slots clash. -/
def clashB (rest : Int) (o s : S47) : Bool := decide (o.f0 < s.f1 + rest) && decide (s.f0 < o.f1 + rest)
/-- The passes of the slots that clash with one, of those that have a pass. -/
def clashList (rest : Int) (l : List S47) (pass : List Int) (s : S47) : List Int :=
  ((List.range l.length).filter (fun i => clashB rest (l.getD i z47) s && decide (0 ≤ pass.getD i 0))).map (fun i => pass.getD i 0)
/-- The first number from n on that is not in a list, f of them asked. -/
def freeFrom (ps : List Int) : Nat → Nat → Nat
  | 0, n => n
  | f + 1, n => if ps.contains (n : Int) then freeFrom ps f (n + 1) else n
/-- The least number that is not in a list. -/
def leastFree (ps : List Int) : Nat := freeFrom ps (ps.length + 1) 0
theorem freeFrom_eq (ps : List Int) (m : Nat) (hm : (m : Int) ∉ ps) : ∀ (f n : Nat), n ≤ m → m - n < f → (∀ j : Nat, n ≤ j → j < m → (j : Int) ∈ ps) → freeFrom ps f n = m
  | 0, _, _, h, _ => absurd h (Nat.not_lt_zero _)
  | f + 1, n, h1, h2, h3 => by
    unfold freeFrom
    by_cases e : n = m
    · subst e
      rw [if_neg (by simpa using hm)]
    · rw [if_pos (by simpa using h3 n (Nat.le_refl _) (by omega))]
      exact freeFrom_eq ps m hm f (n + 1) (by omega) (by omega) (fun j hj hj' => h3 j (by omega) hj')
theorem pigeon : ∀ (m : Nat) (ps : List Int), (∀ j : Nat, j < m → (j : Int) ∈ ps) → m ≤ ps.length
  | 0, _, _ => Nat.zero_le _
  | m + 1, ps, h => by
    have h1 := pigeon m (ps.erase (m : Int)) (fun j hj => (List.mem_erase_of_ne (by omega)).2 (h j (by omega)))
    rw [List.length_erase_of_mem (h m (by omega))] at h1
    have h2 : 0 < ps.length := List.length_pos_of_mem (h m (by omega))
    omega
theorem leastFree_eq (ps : List Int) (m : Nat) (hm : (m : Int) ∉ ps) (h : ∀ j : Nat, j < m → (j : Int) ∈ ps) : leastFree ps = m := by
  have := pigeon m ps h
  exact freeFrom_eq ps m hm _ _ (Nat.zero_le _) (by omega) (fun j _ hj => h j hj)
theorem leastFree_spec (ps : List Int) : (leastFree ps : Int) ∉ ps ∧ ∀ j : Nat, j < leastFree ps → (j : Int) ∈ ps := by
  have key : ∃ m : Nat, (m : Int) ∉ ps ∧ ∀ j : Nat, j < m → (j : Int) ∈ ps := by
    apply Classical.byContradiction
    intro hn
    have all : ∀ m : Nat, ∀ j : Nat, j < m → (j : Int) ∈ ps := by
      intro m
      induction m with
      | zero => intro j hj; omega
      | succ m ih =>
        intro j hj
        by_cases e : j < m
        · exact ih j e
        · have : j = m := by omega
          subst this
          exact Classical.byContradiction fun hc => hn ⟨j, hc, ih⟩
    have := pigeon (ps.length + 1) ps (all _)
    omega
  obtain ⟨m, hm, h⟩ := key
  rw [leastFree_eq ps m hm h]
  exact ⟨hm, h⟩
/-- The slots in the order of From, equals in their own order. -/
def orderOf (l : List S47) : List Nat := (List.range l.length).mergeSort (fun a b => decide ((rd_T47 l (a : Int)).f0 < (rd_T47 l (b : Int)).f0) || (decide ((rd_T47 l (a : Int)).f0 = (rd_T47 l (b : Int)).f0) && decide (a ≤ b)))
/-- A slot gets its pass. -/
def passStep (rest : Int) (l : List S47) (pass : List Int) (i : Nat) : List Int :=
  pass.set i (leastFree (clashList rest l pass (l.getD i z47)))
/-- The plan. -/
def planOf (rest : Int) (l : List S47) : List Int := ((orderOf l).foldl (passStep rest l) (List.replicate 40 (-1))).take l.length
/-- How many passes a plan has. -/
def passesN (p : List Int) : Int := p.foldl (fun n x => max n (x + 1)) 0
/-- Two slots that clash have one number. -/
def badPair (rest : Int) (l : List S47) (p : List Int) : Bool :=
  (List.range l.length).any fun i => (List.range i).any fun k => decide (p.getD k 0 = p.getD i 0) && clashB rest (l.getD k z47) (l.getD i z47)
/-- The error of a plan. -/
def planE (rest : Int) (l : List S47) (p : List Int) : Int :=
  if checkE rest l = 0 then (if p.length ≠ l.length then 6 else if p.all (fun x => decide (0 ≤ x) && decide (x ≤ 39)) then (if badPair rest l p then 14 else 0) else 3) else checkE rest l
/-- How many slots are in the crowd at a moment. -/
def crowdN (rest : Int) (l : List S47) (m : Int) : Int := ((l.filter (inCrowd rest m)).length : Int)
def mostN (rest : Int) (l : List S47) : Int := l.foldl (fun a s => max a (crowdN rest l s.f0)) 0
def momentOf (rest : Int) (l : List S47) : Int := ((l.filter (fun s => decide (crowdN rest l s.f0 = mostN rest l))).map (·.f0)).foldl min 1000000

def punch_Check.f (a0_0 : Int) (l0_1 : List S47) : Option Int := some (checkE a0_0 l0_1)
def punch_Crowd.f (a0_0 : Int) (l0_1 : List S47) (a1 : Int) : Option (List Int × Int) :=
  if checkE a0_0 l0_1 = 0 then some (crowdOf a0_0 l0_1 a1, 0) else some ([], checkE a0_0 l0_1)
def punch_Passes.f (a0_0 : Int) (l0_1 : List S47) : Option (List Int × Int × Int) :=
  if checkE a0_0 l0_1 = 0 then (if l0_1.length ≤ 19 then some (planOf a0_0 l0_1, passesN (planOf a0_0 l0_1), 0) else none) else some ([], 0, checkE a0_0 l0_1)
def punch_Prove.f (a0_0 : Int) (l0_1 : List S47) : Option (Int × Int) :=
  if checkE a0_0 l0_1 = 0 then (if l0_1.length ≤ 12 then (if mostN a0_0 l0_1 = 0 then some (0, 8) else some (momentOf a0_0 l0_1, 0)) else none) else some (0, checkE a0_0 l0_1)
def punch_Verify.f (a0_0 : Int) (l0_1 : List S47) (l1 : List Int) : Option (Int × Int) :=
  if planE a0_0 l0_1 l1 = 0 then some (passesN l1, 0) else some (0, planE a0_0 l0_1 l1)
def punch_Add.f (a0_0 : Int) (l0_1 : List S47) (l1 : List Int) (a2_0 a2_1 : Int) : Option (Int × Int) :=
  if planE a0_0 l0_1 l1 = 0 then (if okSlot ⟨a2_0, a2_1⟩ then some ((leastFree (clashList a0_0 l0_1 l1 ⟨a2_0, a2_1⟩) : Int), 0) else some (0, 3)) else some (0, planE a0_0 l0_1 l1)
/-- A paper is as stated. -/
def goodPaper (lo hi longest narrow shut : Int) : Bool := decide (900 ≤ lo) && decide (lo ≤ hi) && decide (hi ≤ 1100) && (decide (1 ≤ longest) && decide (longest ≤ 1000)) && (decide (1 ≤ narrow) && decide (narrow ≤ 1000)) && (decide (1 ≤ shut) && decide (shut ≤ 1000))
def punch_Bars.f (a0_0 a0_1 a0_2 a0_3 a0_4 : Int) : Option (Int × Int × Int × Int × Int) :=
  if goodPaper a0_0 a0_1 a0_2 a0_3 a0_4 then
    (if 1000 * a0_2 / a0_1 < 1 then some (0, 0, 0, 0, 20)
     else if (1000 * a0_4 - 1) / a0_1 < (1000 * a0_3 + a0_0 - 1) / a0_0 then some (1, 1000 * a0_2 / a0_1, 0, 0, 0)
     else some (1, 1000 * a0_2 / a0_1, (1000 * a0_3 + a0_0 - 1) / a0_0, (1000 * a0_4 - 1) / a0_1, 0))
  else some (0, 0, 0, 0, 3)
end Go.Proofs.Ytaaonhfaoaabbaa.X
