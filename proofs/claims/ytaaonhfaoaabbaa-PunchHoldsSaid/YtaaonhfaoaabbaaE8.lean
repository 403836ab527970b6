/- The order in which punch puts slots: insertion sort is stable. -/
import Derived.Sort.LotA
import Derived.Sort.WalkA
namespace Go.Proofs.Ytaaonhfaoaabbaa.X
open Go.Sort
section
variable {α : Type} [Inhabited α]
theorem insInner_perm (lt : α → α → Bool) (b : Nat) : ∀ (j : Nat) (d : Array α), j < b → b ≤ d.size → PermIn 0 b d (insInner lt 0 j d)
  | 0, d, _, _ => by unfold insInner; exact permIn_refl d 0 b
  | j + 1, d, hj, hb => by
    unfold insInner
    split
    · exact permIn_trans _ _ _ 0 b (swp_permIn d 0 b (j + 1) j (Nat.zero_le _) hj (Nat.zero_le _) (by omega) hb) (insInner_perm lt b j _ (by omega) (by rw [swp_size]; exact hb))
    · exact permIn_refl d 0 b
theorem insInner_agree (lt lt' : α → α → Bool) : ∀ (j : Nat) (d : Array α), j < d.size → (∀ p, p < j → lt d[j]! d[p]! = lt' d[j]! d[p]!) → insInner lt 0 j d = insInner lt' 0 j d
  | 0, d, _, _ => by simp only [insInner]
  | j + 1, d, hj, h => by
    unfold insInner
    rw [h j (by omega)]
    split
    · refine insInner_agree lt lt' j _ (by rw [swp_size]; omega) (fun p hp => ?_)
      rw [swp_right d (j + 1) j (by omega), swp_other d (j + 1) j p (by omega) (by omega)]
      exact h p (by omega)
    · rfl
end
section
variable {n : Nat}
/-- Before, by a key. -/
def ltK (key : Fin n → Int) (x y : Fin n) : Bool := decide (key x < key y)
/-- Before, by a key, then by number. -/
def ltL (key : Fin n → Int) (x y : Fin n) : Bool := decide (key x < key y) || (decide (key x = key y) && decide (x < y))
theorem swoL (key : Fin n → Int) : SWO (ltL key) := by
  refine ⟨fun x => ?_, fun x y z => ?_, fun x y z => ?_⟩ <;> simp only [ltL, Bool.or_eq_true, Bool.and_eq_true, decide_eq_true_eq, Bool.or_eq_false_iff, Bool.and_eq_false_iff, decide_eq_false_iff_not, Fin.lt_def] <;> omega
theorem totL (key : Fin n → Int) (x y : Fin n) (h : ltL key x y = false) (h' : ltL key y x = false) : x = y := by
  simp only [ltL, Bool.or_eq_false_iff, Bool.and_eq_false_iff, decide_eq_false_iff_not, Fin.lt_def] at h h'
  apply Fin.ext
  omega
theorem agreeK (key : Fin n → Int) {x y : Fin n} (h : y.val < x.val) : ltK key x y = ltL key x y := by
  unfold ltK ltL
  rw [show decide (x < y) = false from decide_eq_false (by rw [Fin.lt_def]; omega)]
  simp
variable [Inhabited (Fin n)]
theorem outer_agree (key : Fin n → Int) : ∀ (m i : Nat) (d : Array (Fin n)), n - i = m → d.size = n → (∀ p, i ≤ p → p < n → (d[p]!).val = p) → (∀ p, p < i → p < n → (d[p]!).val < i) → insOuter (ltK key) 0 n i d = insOuter (ltL key) 0 n i d
  | 0, i, d, hm, hs, hi, lo => by rw [insOuter_stop _ _ _ _ _ (by omega), insOuter_stop _ _ _ _ _ (by omega)]
  | m + 1, i, d, hm, hs, hi, lo => by
    have hin : i < n := by omega
    rw [insOuter_go _ _ _ _ _ hin, insOuter_go _ _ _ _ _ hin]
    have he : insInner (ltK key) 0 i d = insInner (ltL key) 0 i d := insInner_agree _ _ i d (by omega) (fun p hp => agreeK key (by rw [hi i (Nat.le_refl _) hin]; exact lo p hp (by omega)))
    rw [he]
    have hp := insInner_perm (ltL key) (i + 1) i d (by omega) (by omega)
    refine outer_agree key m (i + 1) _ (by omega) (by rw [hp.1]; exact hs) (fun p h1 h2 => ?_) (fun p h1 h2 => ?_)
    · rw [hp.2.1 p (Or.inr h1)]; exact hi p (by omega) h2
    · refine permIn_all d _ 0 (i + 1) (fun x => x.val < i + 1) (by omega) hp (fun q _ hq => ?_) p (Nat.zero_le _) h1
      rcases Nat.lt_or_ge q i with h | h
      · have := lo q h (by omega); omega
      · obtain rfl : q = i := by omega
        rw [hi q (Nat.le_refl _) hin]; omega
/-- Insertion sort by a key puts the numbers below n in the order of the key, equals in their own order. -/
theorem sort_stable (key : Fin n → Int) (d : Array (Fin n)) (hs : d.size = n) (hd : ∀ p, p < n → (d[p]!).val = p) : (insertionSort (ltK key) d 0 n).toList = d.toList.mergeSort (fun x y => !ltL key y x) := by
  have h1 : insertionSort (ltK key) d 0 n = insertionSort (ltL key) d 0 n := by
    unfold insertionSort
    refine outer_agree key (n - (0 + 1)) (0 + 1) d rfl hs (fun p _ hp => hd p hp) (fun p hp hp' => by rw [hd p hp']; omega)
  rw [h1]
  have h2 := insertionSort_holds (lt := ltL key) (swoL key) d 0 d.size (Nat.zero_le _) (Nat.le_refl _)
  rw [show insertionSort (ltL key) d 0 n = insertionSort (ltL key) d 0 d.size from by rw [hs]]
  exact sorted_unique_holds (swoL key) (totL key) d _ h2.1 h2.2
theorem sort_stable_nat (key : Nat → Int) (d : Array (Fin n)) (hs : d.size = n) (hd : ∀ p, p < n → (d[p]!).val = p) :
    (insertionSort (ltK (fun x : Fin n => key x.val)) d 0 n).toList.map (·.val) = (List.range n).mergeSort (fun a b => decide (key a < key b) || (decide (key a = key b) && decide (a ≤ b))) := by
  rw [sort_stable _ d hs hd, List.map_mergeSort (s := fun a b => decide (key a < key b) || (decide (key a = key b) && decide (a ≤ b)))]
  · congr 1
    apply List.ext_getElem
    · simp [hs]
    · intro i h1 h2
      have h3 : i < n := by simpa using h2
      have h4 := hd i h3
      rw [getElem!_pos d i (by omega)] at h4
      simpa using h4
  · intro a _ b _
    unfold ltL
    rw [Bool.eq_iff_iff]
    simp only [Bool.not_eq_true', Bool.or_eq_false_iff, Bool.and_eq_false_iff, decide_eq_false_iff_not, Bool.or_eq_true, Bool.and_eq_true, decide_eq_true_eq, Fin.lt_def]
    omega
end
end Go.Proofs.Ytaaonhfaoaabbaa.X
