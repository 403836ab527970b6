/- Passes and crowds: the plan has as many passes as the largest crowd has slots. Plain. -/
import Derived.Test.YtaaonhfaoaabbaaG1
namespace Go.Proofs.Ytaaonhfaoaabbaa.X
open Go.RowKit Go.Proofs.YtaaonhfaoaabbaaW.PrintWords Go.Proofs.YtaaonhfaoaabbaaW.PrintLast
/-- The numbers of the slots of a crowd. -/
def idx (rest : Int) (l : List S47) (m : Int) : List Nat := (List.range l.length).filter fun i => inCrowd rest m (l.getD i z47)
theorem crowdOf_idx (rest : Int) (l : List S47) (m : Int) : crowdOf rest l m = (idx rest l m).map (fun i : Nat => (i : Int)) := rfl
theorem list_by_index (l : List S47) : l = (List.range l.length).map fun i => l.getD i z47 := by
  apply List.ext_getElem
  · simp
  · intro i h1 h2
    simp [h1]
theorem crowdN_idx (rest : Int) (l : List S47) (m : Int) : crowdN rest l m = ((idx rest l m).length : Int) := by
  unfold crowdN idx
  congr 1
  have e : (l.filter (inCrowd rest m)).length = (((List.range l.length).map fun i => l.getD i z47).filter (inCrowd rest m)).length := by rw [← list_by_index l]
  rw [e, List.filter_map, List.length_map]
  rfl
theorem mem_idx {rest : Int} {l : List S47} {m : Int} {i : Nat} : i ∈ idx rest l m ↔ i < l.length ∧ inCrowd rest m (l.getD i z47) = true := by
  unfold idx
  rw [List.mem_filter, List.mem_range]
theorem inCrowd_iff {rest m : Int} {x : S47} : inCrowd rest m x = true ↔ x.f0 ≤ m ∧ m < x.f1 + rest := by
  unfold inCrowd
  simp
theorem clashB_iff {rest : Int} {o s : S47} : clashB rest o s = true ↔ o.f0 < s.f1 + rest ∧ s.f0 < o.f1 + rest := by
  unfold clashB
  simp
theorem nodup_bd : ∀ (n : Nat) (xs : List Int), xs.Nodup → (∀ x ∈ xs, 0 ≤ x ∧ x < (n : Int)) → xs.length ≤ n
  | 0, xs, _, h => by
    cases xs with
    | nil => simp
    | cons a xs => have := h a (by simp); omega
  | n + 1, xs, hn, h => by
    have h1 := nodup_bd n (xs.erase (n : Int)) (hn.erase _) (fun x hx => by
      have h2 := (hn.mem_erase_iff).1 hx
      have h3 := h x h2.2
      have h4 := h2.1
      omega)
    rw [List.length_erase] at h1
    split at h1 <;> omega
theorem noBad_iff {rest : Int} {l : List S47} {p : List Int} : badPair rest l p = false ↔ ∀ i < l.length, ∀ k < i, ¬ (p.getD k 0 = p.getD i 0 ∧ clashB rest (l.getD k z47) (l.getD i z47) = true) := by
  unfold badPair
  simp only [List.any_eq_false, List.mem_range, Bool.not_eq_true, Bool.and_eq_false_iff, decide_eq_false_iff_not, List.any_eq_false]
  constructor
  · intro h i hi k hk ⟨h1, h2⟩
    rcases h i hi k hk with h3 | h3
    · exact h3 h1
    · rw [h2] at h3; cases h3
  · intro h i hi k hk
    by_cases h1 : p.getD k 0 = p.getD i 0
    · refine .inr ?_
      cases h2 : clashB rest (l.getD k z47) (l.getD i z47) with
      | false => rfl
      | true => exact absurd ⟨h1, h2⟩ (h i hi k hk)
    · exact .inl h1
/-- Slots of a crowd clash. -/
theorem crowd_clash {rest m : Int} {a b : S47} (ha : inCrowd rest m a = true) (hb : inCrowd rest m b = true) : clashB rest a b = true := by
  rw [inCrowd_iff] at ha hb
  rw [clashB_iff]
  omega
/-- A plan that keeps slots apart has no fewer passes than a crowd has slots. -/
theorem crowd_le {rest : Int} {l : List S47} {p : List Int} {n : Nat} (hp : ∀ i < l.length, 0 ≤ p.getD i 0 ∧ p.getD i 0 < (n : Int)) (hb : badPair rest l p = false) (m : Int) : (idx rest l m).length ≤ n := by
  rw [noBad_iff] at hb
  have h1 : ((idx rest l m).map fun i => p.getD i 0).Nodup := by
    unfold List.Nodup
    rw [List.pairwise_map]
    have h2 : (idx rest l m).Pairwise (fun a b => a < b) := (List.pairwise_lt_range).filter _
    refine (List.pairwise_iff_forall_sublist.2 fun {a b} hs => ?_)
    have hlt := List.pairwise_iff_forall_sublist.1 h2 hs
    have ha : a ∈ idx rest l m := hs.subset (by simp)
    have hb' : b ∈ idx rest l m := hs.subset (by simp)
    rw [mem_idx] at ha hb'
    exact fun e => hb b hb'.1 a hlt ⟨e, crowd_clash ha.2 hb'.2⟩
  have h2 := nodup_bd n _ h1 (fun x hx => by
    obtain ⟨i, hi, rfl⟩ := List.mem_map.1 hx
    exact hp i (mem_idx.1 hi).1)
  simpa using h2
theorem foldmax_ge : ∀ (p : List Int) (a : Int), a ≤ p.foldl (fun n x => max n (x + 1)) a ∧ (∀ x ∈ p, x + 1 ≤ p.foldl (fun n x => max n (x + 1)) a) ∧ (p.foldl (fun n x => max n (x + 1)) a = a ∨ ∃ x ∈ p, p.foldl (fun n x => max n (x + 1)) a = x + 1)
  | [], a => ⟨Int.le_refl _, by simp, .inl rfl⟩
  | y :: p, a => by
    obtain ⟨h1, h2, h3⟩ := foldmax_ge p (max a (y + 1))
    rw [List.foldl_cons]
    refine ⟨by omega, fun x hx => ?_, ?_⟩
    · rcases List.mem_cons.1 hx with rfl | hx
      · omega
      · exact h2 x hx
    · rcases h3 with h3 | ⟨x, hx, h3⟩
      · by_cases h : a ≤ y + 1
        · exact .inr ⟨y, by simp, by omega⟩
        · exact .inl (by omega)
      · exact .inr ⟨x, by simp [hx], h3⟩
theorem passesN_le {p : List Int} {n : Int} (h0 : 0 ≤ n) (h : ∀ x ∈ p, x + 1 ≤ n) : passesN p ≤ n := by
  rcases (foldmax_ge p 0).2.2 with h1 | ⟨x, hx, h1⟩
  · unfold passesN; omega
  · unfold passesN; rw [h1]; exact h x hx
theorem passesN_ge {p : List Int} {x : Int} (hx : x ∈ p) : x + 1 ≤ passesN p := (foldmax_ge p 0).2.1 x hx
theorem passesN_nonneg (p : List Int) : 0 ≤ passesN p := (foldmax_ge p 0).1
/-- A plan in the making: who is done has a pass, no two that clash the same, and none more than its crowd asks. -/
structure Made (rest : Int) (l : List S47) (done : List Nat) (ps : List Int) : Prop where
  len : ps.length = 40
  rest_ : ∀ i, i < l.length → i ∉ done → ps.getD i 0 = -1
  has : ∀ i ∈ done, i < l.length ∧ 0 ≤ ps.getD i 0 ∧ ps.getD i 0 + 1 ≤ crowdN rest l (l.getD i z47).f0
  apart : ∀ i ∈ done, ∀ j ∈ done, i ≠ j → clashB rest (l.getD i z47) (l.getD j z47) = true → ps.getD i 0 ≠ ps.getD j 0
theorem getD_set {ps : List Int} {i j : Nat} {v : Int} (hi : i < ps.length) : (ps.set i v).getD j 0 = if i = j then v else ps.getD j 0 := by
  simp only [List.getD_eq_getElem?_getD, List.getElem?_set]
  by_cases h : i = j
  · subst h; simp [hi]
  · simp [h]
theorem made_step {rest : Int} {l : List S47} {done : List Nat} {ps : List Int} {i : Nat} (h : Made rest l done ps) (r0 : 0 ≤ rest) (hl : l.length ≤ 40) (hi : i < l.length) (hd : i ∉ done) (hok : okSlot (l.getD i z47) = true) (hord : ∀ j ∈ done, (l.getD j z47).f0 ≤ (l.getD i z47).f0) :
    Made rest l (done ++ [i]) (passStep rest l ps i) := by
  obtain ⟨s, hs⟩ : ∃ s, s = l.getD i z47 := ⟨_, rfl⟩
  have hil : i < ps.length := by rw [h.len]; omega
  have hsb := ok_bounds hok
  rw [← hs] at hord hsb
  obtain ⟨hc1, hc2⟩ := leastFree_spec (clashList rest l ps s)
  unfold passStep
  rw [← hs]
  obtain ⟨c, hc⟩ : ∃ c, c = leastFree (clashList rest l ps s) := ⟨_, rfl⟩
  rw [← hc] at hc1 hc2 ⊢
  have hmem : ∀ x : Int, x ∈ clashList rest l ps s → ∃ j, j ∈ done ∧ clashB rest (l.getD j z47) s = true ∧ 0 ≤ ps.getD j 0 ∧ ps.getD j 0 = x := by
    intro x hx
    unfold clashList at hx
    obtain ⟨j, hj, rfl⟩ := List.mem_map.1 hx
    rw [List.mem_filter, List.mem_range, Bool.and_eq_true, decide_eq_true_eq] at hj
    refine ⟨j, ?_, hj.2.1, hj.2.2, rfl⟩
    refine Classical.byContradiction fun hn => ?_
    have := h.rest_ j hj.1 hn
    omega
  refine ⟨by rw [List.length_set]; exact h.len, fun j hj hn => ?_, fun j hj => ?_, fun a ha b hb hab hcl => ?_⟩
  · rw [List.mem_append, not_or] at hn
    rw [getD_set hil, if_neg (by have := hn.2; simp at this; omega)]
    exact h.rest_ j hj hn.1
  · rcases List.mem_append.1 hj with hj | hj
    · have hne : ¬ i = j := fun e => hd (by rw [e]; exact hj)
      rw [getD_set hil, if_neg hne]
      exact h.has j hj
    · obtain rfl : j = i := by simpa using hj
      rw [getD_set hil, if_pos rfl, ← hs]
      refine ⟨hi, by omega, ?_⟩
      rw [crowdN_idx]
      have key := pigeon (c + 1) ((idx rest l s.f0).map fun k => (ps.set j (c : Int)).getD k 0) (fun y hy => by
        rw [List.mem_map]
        rcases Nat.lt_or_ge y c with h1 | h1
        · obtain ⟨k, hk, hk1, hk2, hk3⟩ := hmem _ (hc2 y h1)
          refine ⟨k, mem_idx.2 ⟨(h.has k hk).1, ?_⟩, ?_⟩
          · rw [inCrowd_iff]
            rw [clashB_iff] at hk1
            exact ⟨hord k hk, hk1.2⟩
          · rw [getD_set hil, if_neg (fun e => hd (by rw [e]; exact hk)), hk3]
        · obtain rfl : y = c := by omega
          refine ⟨j, mem_idx.2 ⟨hi, ?_⟩, ?_⟩
          · rw [← hs, inCrowd_iff]
            omega
          · rw [getD_set hil, if_pos rfl])
      rw [List.length_map] at key
      omega
  · have hin : ∀ k, k ∈ done → clashB rest (l.getD k z47) s = true → ps.getD k 0 ≠ (c : Int) := by
      intro k hk hkc e
      refine hc1 ?_
      unfold clashList
      rw [List.mem_map]
      refine ⟨k, ?_, e⟩
      rw [List.mem_filter, List.mem_range, Bool.and_eq_true, decide_eq_true_eq]
      exact ⟨(h.has k hk).1, hkc, (h.has k hk).2.1⟩
    rw [getD_set hil, getD_set hil]
    rcases List.mem_append.1 ha with ha1 | ha1
    · have hne : ¬ i = a := fun e => hd (by rw [e]; exact ha1)
      rw [if_neg hne]
      rcases List.mem_append.1 hb with hb1 | hb1
      · have hne' : ¬ i = b := fun e => hd (by rw [e]; exact hb1)
        rw [if_neg hne']
        exact h.apart a ha1 b hb1 hab hcl
      · obtain rfl : b = i := by simpa using hb1
        rw [if_pos rfl]
        exact hin a ha1 (by rw [hs]; exact hcl)
    · obtain rfl : a = i := by simpa using ha1
      rw [if_pos rfl]
      rcases List.mem_append.1 hb with hb1 | hb1
      · have hne' : ¬ a = b := hab
        rw [if_neg hne']
        exact fun e => hin b hb1 (by rw [hs]; rw [clashB_iff] at hcl ⊢; exact ⟨hcl.2, hcl.1⟩) e.symm
      · obtain rfl : b = a := by simpa using hb1
        exact absurd rfl hab
theorem made_fold {rest : Int} {l : List S47} (r0 : 0 ≤ rest) (hl : l.length ≤ 40) (hok : l.all okSlot = true) : ∀ (o done : List Nat) (ps : List Int), Made rest l done ps → (∀ i ∈ o, i < l.length) → o.Nodup → (∀ i ∈ o, i ∉ done) →
    (∀ i ∈ o, ∀ j ∈ done, (l.getD j z47).f0 ≤ (l.getD i z47).f0) → o.Pairwise (fun a b => (l.getD a z47).f0 ≤ (l.getD b z47).f0) → Made rest l (done ++ o) (o.foldl (passStep rest l) ps)
  | [], done, ps, h, _, _, _, _, _ => by rw [List.append_nil]; exact h
  | i :: o, done, ps, h, h1, h2, h3, h4, h5 => by
    rw [List.nodup_cons] at h2
    rw [List.pairwise_cons] at h5
    have hi := h1 i (by simp)
    have hs := made_step h r0 hl hi (h3 i (by simp)) (by have := all_at hok hi; simpa [rd_T47] using this) (h4 i (by simp))
    rw [List.foldl_cons, show done ++ i :: o = (done ++ [i]) ++ o by simp]
    refine made_fold r0 hl hok o (done ++ [i]) _ hs (fun k hk => h1 k (by simp [hk])) h2.2 (fun k hk hn => ?_) (fun k hk j hj => ?_) h5.2
    · rcases List.mem_append.1 hn with hn | hn
      · exact h3 k (by simp [hk]) hn
      · obtain rfl : k = i := by simpa using hn
        exact h2.1 hk
    · rcases List.mem_append.1 hj with hj | hj
      · exact h4 k (by simp [hk]) j hj
      · obtain rfl : j = i := by simpa using hj
        exact h5.1 k hk
theorem plan_made {rest : Int} {l : List S47} (h : checkE rest l = 0) : Made rest l (orderOf l) ((orderOf l).foldl (passStep rest l) (List.replicate 40 (-1))) := by
  obtain ⟨r0, r1, hl, hok⟩ := check_ok h
  have hp := orderOf_perm l
  have h0 : Made rest l [] (List.replicate 40 (-1)) := ⟨by simp, fun i hi _ => by rw [List.getD_eq_getElem?_getD, List.getElem?_replicate, if_pos (by omega)]; rfl, by simp, by simp⟩
  have hs := orderOf_sorted l
  have := made_fold r0 hl hok (orderOf l) [] _ h0 (fun i hi => by simpa using hp.mem_iff.1 hi) (hp.nodup_iff.2 List.nodup_range) (by simp) (by simp) (hs.imp fun {a b} hab => by
    unfold leO at hab
    simp only [Bool.or_eq_true, Bool.and_eq_true, decide_eq_true_eq] at hab
    have e : ∀ a : Nat, (rd_T47 l (a : Int)).f0 = (l.getD a z47).f0 := fun a => by simp [rd_T47]
    rw [e, e] at hab
    omega)
  rwa [List.nil_append] at this
/-- What the plan is. -/
theorem plan_facts {rest : Int} {l : List S47} (h : checkE rest l = 0) : (planOf rest l).length = l.length ∧ (∀ i < l.length, 0 ≤ (planOf rest l).getD i 0 ∧ (planOf rest l).getD i 0 + 1 ≤ crowdN rest l (l.getD i z47).f0) ∧ badPair rest l (planOf rest l) = false := by
  obtain ⟨r0, r1, hl, hok⟩ := check_ok h
  have hm := plan_made h
  have hp := orderOf_perm l
  have hin : ∀ i < l.length, i ∈ orderOf l := fun i hi => hp.mem_iff.2 (by simpa using hi)
  unfold planOf
  generalize (orderOf l).foldl (passStep rest l) (List.replicate 40 (-1)) = ps at *
  have hg : ∀ i < l.length, (ps.take l.length).getD i 0 = ps.getD i 0 := fun i hi => by simp [hi]
  refine ⟨by rw [List.length_take, hm.len]; omega, fun i hi => ?_, noBad_iff.2 fun i hi k hk hc => ?_⟩
  · rw [hg i hi]
    exact (hm.has i (hin i hi)).2
  · rw [hg i hi, hg k (by omega)] at hc
    exact hm.apart k (hin k (by omega)) i (hin i hi) (by omega) hc.2 hc.1
theorem foldcr_ge (c : S47 → Int) : ∀ (l : List S47) (a : Int), a ≤ l.foldl (fun a s => max a (c s)) a ∧ (∀ s ∈ l, c s ≤ l.foldl (fun a s => max a (c s)) a) ∧ (l.foldl (fun a s => max a (c s)) a = a ∨ ∃ s ∈ l, l.foldl (fun a s => max a (c s)) a = c s)
  | [], a => ⟨Int.le_refl _, by simp, .inl rfl⟩
  | y :: p, a => by
    obtain ⟨h1, h2, h3⟩ := foldcr_ge c p (max a (c y))
    rw [List.foldl_cons]
    refine ⟨by omega, fun x hx => ?_, ?_⟩
    · rcases List.mem_cons.1 hx with rfl | hx
      · omega
      · exact h2 x hx
    · rcases h3 with h3 | ⟨x, hx, h3⟩
      · by_cases h : a ≤ c y
        · exact .inr ⟨y, by simp, by omega⟩
        · exact .inl (by omega)
      · exact .inr ⟨x, by simp [hx], h3⟩
theorem mostN_ge {rest : Int} {l : List S47} {s : S47} (hs : s ∈ l) : crowdN rest l s.f0 ≤ mostN rest l := (foldcr_ge (fun s => crowdN rest l s.f0) l 0).2.1 s hs
theorem mostN_nonneg (rest : Int) (l : List S47) : 0 ≤ mostN rest l := (foldcr_ge (fun s => crowdN rest l s.f0) l 0).1
theorem mostN_at (rest : Int) (l : List S47) : mostN rest l = 0 ∨ ∃ s ∈ l, mostN rest l = crowdN rest l s.f0 := (foldcr_ge (fun s => crowdN rest l s.f0) l 0).2.2
theorem getD_mem' {l : List S47} {i : Nat} (h : i < l.length) : l.getD i z47 ∈ l := by
  rw [List.getD_eq_getElem?_getD, List.getElem?_eq_getElem h]
  exact List.getElem_mem h
theorem mem_getD {l : List Int} {x : Int} (h : x ∈ l) : ∃ i < l.length, l.getD i 0 = x := by
  obtain ⟨i, hi, rfl⟩ := List.getElem_of_mem h
  exact ⟨i, hi, by simp [hi]⟩
theorem getD_memI {l : List Int} {i : Nat} (h : i < l.length) : l.getD i 0 ∈ l := by
  rw [List.getD_eq_getElem?_getD, List.getElem?_eq_getElem h]
  exact List.getElem_mem h
/-- No crowd is larger than the number of passes of a plan that keeps slots apart. -/
theorem crowdN_le {rest : Int} {l : List S47} {p : List Int} (hlen : p.length = l.length) (hp : ∀ x ∈ p, 0 ≤ x) (hb : badPair rest l p = false) (m : Int) : crowdN rest l m ≤ passesN p := by
  rw [crowdN_idx]
  have := crowd_le (n := (passesN p).toNat) (fun i hi => ?_) hb m
  · have := passesN_nonneg p; omega
  · have hm := getD_memI (show i < p.length by omega)
    have h1 := hp _ hm
    have h2 := passesN_ge hm
    omega
/-- The plan has as many passes as the largest crowd has slots. -/
theorem passes_most {rest : Int} {l : List S47} (h : checkE rest l = 0) : passesN (planOf rest l) = mostN rest l := by
  obtain ⟨h1, h2, h3⟩ := plan_facts h
  apply Int.le_antisymm
  · refine passesN_le (mostN_nonneg _ _) fun x hx => ?_
    obtain ⟨i, hi, rfl⟩ := mem_getD hx
    have := (h2 i (by omega)).2
    have := mostN_ge (rest := rest) (getD_mem' (l := l) (show i < l.length by omega))
    omega
  · rcases mostN_at rest l with h4 | ⟨s, hs, h4⟩
    · rw [h4]; exact passesN_nonneg _
    · rw [h4]
      refine crowdN_le h1 (fun x hx => ?_) h3 _
      obtain ⟨i, hi, rfl⟩ := mem_getD hx
      exact (h2 i (by omega)).1
theorem crowdN_most {rest : Int} {l : List S47} (h : checkE rest l = 0) (m : Int) : crowdN rest l m ≤ mostN rest l := by
  obtain ⟨h1, h2, h3⟩ := plan_facts h
  rw [← passes_most h]
  refine crowdN_le h1 (fun x hx => ?_) h3 _
  obtain ⟨i, hi, rfl⟩ := mem_getD hx
  exact (h2 i (by omega)).1
theorem crowdN_pos {rest : Int} {l : List S47} (h : checkE rest l = 0) {s : S47} (hs : s ∈ l) : 1 ≤ crowdN rest l s.f0 := by
  obtain ⟨r0, r1, hl, hok⟩ := check_ok h
  have hb := ok_bounds (List.all_eq_true.1 hok s hs)
  unfold crowdN
  have : 0 < (l.filter (inCrowd rest s.f0)).length := List.length_pos_of_mem (List.mem_filter.2 ⟨hs, inCrowd_iff.2 (by omega)⟩)
  omega
theorem mostN_zero {rest : Int} {l : List S47} (h : checkE rest l = 0) : mostN rest l = 0 ↔ l = [] := by
  constructor
  · intro h0
    cases l with
    | nil => rfl
    | cons s l =>
      have h1 := crowdN_pos h (show s ∈ s :: l by simp)
      have h2 := mostN_ge (rest := rest) (show s ∈ s :: l by simp)
      omega
  · rintro rfl; rfl
theorem foldmin_le : ∀ (xs : List Int) (a : Int), xs.foldl min a ≤ a ∧ (∀ x ∈ xs, xs.foldl min a ≤ x) ∧ (xs.foldl min a = a ∨ xs.foldl min a ∈ xs)
  | [], a => ⟨Int.le_refl _, by simp, .inl rfl⟩
  | y :: xs, a => by
    obtain ⟨h1, h2, h3⟩ := foldmin_le xs (min a y)
    rw [List.foldl_cons]
    refine ⟨by omega, fun x hx => ?_, ?_⟩
    · rcases List.mem_cons.1 hx with rfl | hx
      · omega
      · exact h2 x hx
    · rcases h3 with h3 | h3
      · by_cases h : a ≤ y
        · exact .inl (by omega)
        · exact .inr (by rw [List.mem_cons]; exact .inl (by omega))
      · exact .inr (by simp [h3])
/-- The moment that is told: the begin of a slot, with the largest crowd. -/
theorem moment_at {rest : Int} {l : List S47} (h : checkE rest l = 0) (hne : l ≠ []) : ∃ s ∈ l, momentOf rest l = s.f0 ∧ crowdN rest l s.f0 = mostN rest l := by
  obtain ⟨r0, r1, hl, hok⟩ := check_ok h
  have hz : mostN rest l ≠ 0 := fun e => hne ((mostN_zero h).1 e)
  rcases mostN_at rest l with h4 | ⟨s, hs, h4⟩
  · exact absurd h4 hz
  · have hm : s.f0 ∈ (l.filter (fun s => decide (crowdN rest l s.f0 = mostN rest l))).map (·.f0) := List.mem_map.2 ⟨s, List.mem_filter.2 ⟨hs, by simp [h4]⟩, rfl⟩
    obtain ⟨f1, f2, f3⟩ := foldmin_le ((l.filter (fun s => decide (crowdN rest l s.f0 = mostN rest l))).map (·.f0)) 1000000
    have hb := ok_bounds (List.all_eq_true.1 hok s hs)
    rcases f3 with f3 | f3
    · have := f2 _ hm
      omega
    · obtain ⟨s', hs', e⟩ := List.mem_map.1 f3
      have := List.mem_filter.1 hs'
      exact ⟨s', this.1, e.symm, by simpa using this.2⟩
theorem moment_le {rest : Int} {l : List S47} {s : S47} (hs : s ∈ l) (h : crowdN rest l s.f0 = mostN rest l) : momentOf rest l ≤ s.f0 :=
  (foldmin_le ((l.filter (fun s => decide (crowdN rest l s.f0 = mostN rest l))).map (·.f0)) 1000000).2.1 _ (List.mem_map.2 ⟨s, List.mem_filter.2 ⟨hs, by simp [h]⟩, rfl⟩)
theorem exists_last : ∀ (l : List S47), l ≠ [] → ∃ s ∈ l, ∀ s' ∈ l, s'.f0 ≤ s.f0
  | [], h => absurd rfl h
  | a :: l, _ => by
    by_cases h : l = []
    · subst h; exact ⟨a, by simp, by simp⟩
    · obtain ⟨s, hs, h1⟩ := exists_last l h
      by_cases h2 : a.f0 ≤ s.f0
      · exact ⟨s, by simp [hs], fun s' hs' => by rcases List.mem_cons.1 hs' with rfl | hs'; exact h2; exact h1 s' hs'⟩
      · exact ⟨a, by simp, fun s' hs' => by
          rcases List.mem_cons.1 hs' with rfl | hs'
          · omega
          · have := h1 s' hs'; omega⟩
theorem filter_len_le {f g : S47 → Bool} : ∀ (l : List S47), (∀ s ∈ l, f s = true → g s = true) → (l.filter f).length ≤ (l.filter g).length
  | [], _ => by simp
  | a :: l, h => by
    have ih := filter_len_le l (fun s hs => h s (by simp [hs]))
    have ha := h a (by simp)
    rw [List.filter_cons, List.filter_cons]
    by_cases hf : f a = true
    · rw [if_pos hf, if_pos (ha hf)]; simpa using ih
    · rw [if_neg hf]
      split
      · simp; omega
      · exact ih
/-- No earlier moment has the largest crowd. -/
theorem moment_first {rest : Int} {l : List S47} (h : checkE rest l = 0) (hne : l ≠ []) {t : Int} (ht : crowdN rest l t = mostN rest l) : momentOf rest l ≤ t := by
  have hz : mostN rest l ≠ 0 := fun e => hne ((mostN_zero h).1 e)
  have hnn := mostN_nonneg rest l
  have hpos : l.filter (inCrowd rest t) ≠ [] := by
    intro e
    unfold crowdN at ht
    rw [e] at ht
    simp at ht
    omega
  obtain ⟨s, hs, hlast⟩ := exists_last _ hpos
  rw [List.mem_filter] at hs
  have hsc := inCrowd_iff.1 hs.2
  have hle : crowdN rest l t ≤ crowdN rest l s.f0 := by
    unfold crowdN
    have := filter_len_le (f := inCrowd rest t) (g := inCrowd rest s.f0) l (fun s' hs' hf => by
      have h1 := hlast s' (List.mem_filter.2 ⟨hs', hf⟩)
      have h2 := inCrowd_iff.1 hf
      exact inCrowd_iff.2 (by omega))
    omega
  have h2 := mostN_ge (rest := rest) hs.1
  have := moment_le hs.1 (show crowdN rest l s.f0 = mostN rest l by omega)
  omega
end Go.Proofs.Ytaaonhfaoaabbaa.X
