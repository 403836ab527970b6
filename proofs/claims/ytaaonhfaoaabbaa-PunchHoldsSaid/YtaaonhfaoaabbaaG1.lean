/- The order of slots. -/
import Derived.Test.YtaaonhfaoaabbaaE1
namespace Go.Proofs.Ytaaonhfaoaabbaa.X
open Go.RowKit Go.Proofs.YtaaonhfaoaabbaaW.PrintWords Go.Proofs.YtaaonhfaoaabbaaW.PrintLast
/-- Not after, in the order of From. -/
def leO (l : List S47) (a b : Nat) : Bool := decide ((rd_T47 l (a : Int)).f0 < (rd_T47 l (b : Int)).f0) || (decide ((rd_T47 l (a : Int)).f0 = (rd_T47 l (b : Int)).f0) && decide (a ≤ b))
theorem leO_trans (l : List S47) (a b c : Nat) (h : leO l a b = true) (h' : leO l b c = true) : leO l a c = true := by
  simp only [leO, Bool.or_eq_true, Bool.and_eq_true, decide_eq_true_eq] at *
  omega
theorem leO_total (l : List S47) (a b : Nat) : (leO l a b || leO l b a) = true := by
  simp only [leO, Bool.or_eq_true, Bool.and_eq_true, decide_eq_true_eq]
  omega
theorem leO_anti (l : List S47) (a b : Nat) (h : leO l a b = true) (h' : leO l b a = true) : a = b := by
  simp only [leO, Bool.or_eq_true, Bool.and_eq_true, decide_eq_true_eq] at *
  omega
theorem orderOf_perm (l : List S47) : (orderOf l).Perm (List.range l.length) := List.mergeSort_perm _ _
theorem orderOf_sorted (l : List S47) : (orderOf l).Pairwise (fun a b => leO l a b = true) := List.pairwise_mergeSort (leO_trans l) (leO_total l) _
theorem sorted_unique_list {le : Nat → Nat → Bool} (anti : ∀ a b, le a b = true → le b a = true → a = b) : ∀ (l l' : List Nat), l.Perm l' → l.Pairwise (fun a b => le a b = true) → l'.Pairwise (fun a b => le a b = true) → l = l'
  | [], l', h, _, _ => by rw [List.nil_perm.1 h]
  | a :: l, [], h, _, _ => by simp at h
  | a :: l, b :: l', h, h1, h2 => by
    have e : a = b := by
      have ha := h.mem_iff.1 (List.mem_cons_self (a := a) (l := l))
      have hb := h.mem_iff.2 (List.mem_cons_self (a := b) (l := l'))
      rcases List.mem_cons.1 ha with e | ha
      · exact e
      · rcases List.mem_cons.1 hb with e | hb
        · exact e.symm
        · exact anti a b ((List.pairwise_cons.1 h1).1 b hb) ((List.pairwise_cons.1 h2).1 a ha)
    subst e
    rw [sorted_unique_list anti l l' (List.Perm.cons_inv h) (List.pairwise_cons.1 h1).2 (List.pairwise_cons.1 h2).2]
theorem orderOf_eq {l : List S47} {o : List Nat} (hp : o.Perm (List.range l.length)) (hs : o.Pairwise (fun a b => leO l a b = true)) : orderOf l = o :=
  sorted_unique_list (leO_anti l) _ _ ((orderOf_perm l).trans hp.symm) (orderOf_sorted l) hs
theorem more {α : Type} {f : Nat → Option α} (h : ∀ k, LeO (f k) (f (k + 1))) {k : Nat} {r : α} (e : f k = some r) : ∀ {K : Nat}, k ≤ K → f K = some r := by
  intro K hK
  obtain ⟨d, rfl⟩ := Nat.exists_eq_add_of_le hK
  clear hK
  induction d with
  | zero => exact e
  | succ d ih => exact h _ _ ih
end Go.Proofs.Ytaaonhfaoaabbaa.X
