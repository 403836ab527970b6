/- The reference's passes, Verify, smallest, Add, told plainly. -/
import Derived.Test.YtaaonhfaoaabbaaXx18
import Derived.Test.YtaaonhfaoaabbaaG3
namespace Go.Proofs.Ytaaonhfaoaabbaa.X
open Go.RowKit Go.Proofs.YtaaonhfaoaabbaaW.PrintWords Go.Proofs.YtaaonhfaoaabbaaW.PrintLast
theorem refpasses_l0 {l : List Int} (hp : ∀ x ∈ l, -1 ≤ x ∧ x ≤ 39) (hl : l.length ≤ 80) : ∀ (d j : Nat) (x : Int), j + d = l.length → pianolaref03_passes.l0 (d + 1) l x j = some ((l.drop j).foldl (fun n x => max n (x + 1)) x)
  | 0, j, x, h => by
    unfold pianolaref03_passes.l0
    rw [if_neg (by omega), List.drop_eq_nil_of_le (by omega)]
    rfl
  | d + 1, j, x, h => by
    have hj : j < l.length := by omega
    have hb := hp l[j] (List.getElem_mem hj)
    rw [← rdi_get hj] at hb
    unfold pianolaref03_passes.l0
    rw [if_pos (by omega), if_pos (by omega), wrap_in (x := rd l (j : Int) + 1) (by omega), wrap_in (x := (j : Int) + 1) (by omega), mx_max, show (j : Int) + 1 = ((j + 1 : Nat) : Int) from by omega, refpasses_l0 hp hl d (j + 1) _ (by omega), List.drop_eq_getElem_cons hj, rdi_get hj]
    rfl
theorem refpasses_ex {l : List Int} (hp : ∀ x ∈ l, -1 ≤ x ∧ x ≤ 39) (hl : l.length ≤ 80) : ∃ k, pianolaref03_passes.f k l = some (passesN l) :=
  ⟨l.length + 1, by unfold pianolaref03_passes.f passesN; exact refpasses_l0 hp hl l.length 0 0 (by omega)⟩
theorem clashB_comm (r : Int) (a b : S47) : clashB r a b = clashB r b a := by unfold clashB; rw [Bool.and_comm]
theorem refclash_eq {rest : Int} {a b : S47} (r0 : 0 ≤ rest ∧ rest ≤ 1000) (ha : okSlot a = true) (hb : okSlot b = true) : pianolaref03_clash.f a.f0 a.f1 b.f0 b.f1 rest = some (clashB rest a b) := by
  have h1 := ok_bounds ha
  have h2 := ok_bounds hb
  unfold pianolaref03_clash.f clashB
  rw [wrap_in (x := b.f1 + rest) (by omega), wrap_in (x := a.f1 + rest) (by omega)]
  by_cases h : a.f0 < b.f1 + rest <;> simp [h]
/-- A pair that clashes in one pass, its second slot from i on. -/
def badFrom (rest : Int) (l : List S47) (p : List Int) (i : Nat) : Prop := ∃ i' j', i ≤ i' ∧ i' < l.length ∧ j' < i' ∧ rd p (i' : Int) = rd p (j' : Int) ∧ clashB rest (rd_T47 l (i' : Int)) (rd_T47 l (j' : Int)) = true
section
variable {rest : Int} {l : List S47} {p : List Int} (h : checkE rest l = 0) (hlen : p.length = l.length) (hp : ∀ x ∈ p, 0 ≤ x ∧ x ≤ 39)
include h hlen hp
theorem ver_l2 (i : Nat) (hi : i < l.length) (r : Int × Int) (hr : ∃ k, pianolaref03_Verify.l1 k p ((i + 1 : Nat) : Int) rest (conv l) = some r) : ∀ (d j : Nat), j + d = i →
    ((∃ j', j ≤ j' ∧ j' < i ∧ rd p (i : Int) = rd p (j' : Int) ∧ clashB rest (rd_T47 l (i : Int)) (rd_T47 l (j' : Int)) = true) → ∃ k, pianolaref03_Verify.l2 k p i j rest (conv l) = some (0, 14)) ∧
    ((¬ ∃ j', j ≤ j' ∧ j' < i ∧ rd p (i : Int) = rd p (j' : Int) ∧ clashB rest (rd_T47 l (i : Int)) (rd_T47 l (j' : Int)) = true) → ∃ k, pianolaref03_Verify.l2 k p i j rest (conv l) = some r)
  | 0, j, hd => by
    have _ := hp
    obtain ⟨r0, r1, hl, hok⟩ := check_ok h
    refine ⟨fun ⟨j', h1, h2, _⟩ => by omega, fun _ => ?_⟩
    obtain ⟨k, hk⟩ := hr
    refine ⟨k + 1, ?_⟩
    unfold pianolaref03_Verify.l2
    rw [if_neg (by omega), wrap_in (by omega)]
    exact hk
  | d + 1, j, hd => by
    obtain ⟨r0, r1, hl, hok⟩ := check_ok h
    have hji : j < i := by omega
    obtain ⟨ih1, ih2⟩ := ver_l2 i hi r hr d (j + 1) (by omega)
    have hcl := refclash_eq ⟨r0, r1⟩ (all_at hok hi) (all_at hok (show j < l.length by omega))
    have step : ∀ k, pianolaref03_Verify.l2 (k + 1) p i j rest (conv l) = if rd p (i : Int) = rd p (j : Int) then (if clashB rest (rd_T47 l (i : Int)) (rd_T47 l (j : Int)) = true then some (0, 14) else pianolaref03_Verify.l2 k p i ((j + 1 : Nat) : Int) rest (conv l)) else pianolaref03_Verify.l2 k p i ((j + 1 : Nat) : Int) rest (conv l) := by
      intro k
      rw [pianolaref03_Verify.l2, if_pos (by omega), if_pos (by omega), if_pos (by omega), if_pos (by omega), if_pos (by omega), wrap_in (x := (j : Int) + 1) (by omega)]
      by_cases he : rd p (i : Int) = rd p (j : Int)
      · rw [if_pos he, if_pos he, if_pos (by rw [conv_len]; omega), if_pos (by rw [conv_len]; omega), rd_conv hi, rd_conv (show j < l.length by omega), hcl, Option.bind_some]
        rfl
      · rw [if_neg he, if_neg he]
        rfl
    by_cases he : rd p (i : Int) = rd p (j : Int) ∧ clashB rest (rd_T47 l (i : Int)) (rd_T47 l (j : Int)) = true
    · refine ⟨fun _ => ⟨1, by rw [step, if_pos he.1, if_pos he.2]⟩, fun hn => absurd ⟨j, Nat.le_refl _, hji, he.1, he.2⟩ hn⟩
    · have step' : ∀ k, pianolaref03_Verify.l2 (k + 1) p i j rest (conv l) = pianolaref03_Verify.l2 k p i ((j + 1 : Nat) : Int) rest (conv l) := by
        intro k
        rw [step]
        by_cases h1 : rd p (i : Int) = rd p (j : Int)
        · rw [if_pos h1, if_neg (fun h2 => he ⟨h1, h2⟩)]
        · rw [if_neg h1]
      refine ⟨fun ⟨j', h1, h2, h3⟩ => ?_, fun hn => ?_⟩
      · have h4 : j + 1 ≤ j' := by
          rcases Nat.lt_or_ge j j' with h4 | h4
          · exact h4
          · obtain rfl : j' = j := by omega
            exact absurd h3 he
        obtain ⟨k, hk⟩ := ih1 ⟨j', h4, h2, h3⟩
        exact ⟨k + 1, by rw [step']; exact hk⟩
      · obtain ⟨k, hk⟩ := ih2 (fun ⟨j', h1, h2, h3⟩ => hn ⟨j', by omega, h2, h3⟩)
        exact ⟨k + 1, by rw [step']; exact hk⟩
theorem ver_l1 : ∀ (d i : Nat), i + d = l.length → (badFrom rest l p i → ∃ k, pianolaref03_Verify.l1 k p i rest (conv l) = some (0, 14)) ∧ (¬ badFrom rest l p i → ∃ k, pianolaref03_Verify.l1 k p i rest (conv l) = some (passesN p, 0))
  | 0, i, hd => by
    obtain ⟨r0, r1, hl, hok⟩ := check_ok h
    refine ⟨fun ⟨i', j', h1, h2, _⟩ => by omega, fun _ => ?_⟩
    obtain ⟨k, hk⟩ := refpasses_ex (l := p) (fun x hx => by have := hp x hx; omega) (by omega)
    refine ⟨k + 1, ?_⟩
    rw [pianolaref03_Verify.l1, if_neg (by omega), hk]
    rfl
  | d + 1, i, hd => by
    have hi : i < l.length := by omega
    obtain ⟨ih1, ih2⟩ := ver_l1 d (i + 1) (by omega)
    have split : badFrom rest l p i ↔ (badFrom rest l p (i + 1) ∨ ∃ j', 0 ≤ j' ∧ j' < i ∧ rd p (i : Int) = rd p (j' : Int) ∧ clashB rest (rd_T47 l (i : Int)) (rd_T47 l (j' : Int)) = true) := by
      constructor
      · rintro ⟨i', j', h1, h2, h3, h4⟩
        rcases Nat.lt_or_ge i i' with h5 | h5
        · exact .inl ⟨i', j', h5, h2, h3, h4⟩
        · obtain rfl : i' = i := by omega
          exact .inr ⟨j', Nat.zero_le _, h3, h4⟩
      · rintro (⟨i', j', h1, h2, h3, h4⟩ | ⟨j', _, h3, h4⟩)
        · exact ⟨i', j', by omega, h2, h3, h4⟩
        · exact ⟨i, j', Nat.le_refl _, hi, h3, h4⟩
    have st : ∀ k, pianolaref03_Verify.l1 (k + 1) p i rest (conv l) = pianolaref03_Verify.l2 k p i ((0 : Nat) : Int) rest (conv l) := fun k => by
      rw [pianolaref03_Verify.l1, if_pos (by omega)]
      rfl
    have lift : ∀ r, (∃ k, pianolaref03_Verify.l2 k p i ((0 : Nat) : Int) rest (conv l) = some r) → ∃ k, pianolaref03_Verify.l1 k p i rest (conv l) = some r := fun r ⟨k, hk⟩ => ⟨k + 1, by rw [st]; exact hk⟩
    by_cases hrow : ∃ j', 0 ≤ j' ∧ j' < i ∧ rd p (i : Int) = rd p (j' : Int) ∧ clashB rest (rd_T47 l (i : Int)) (rd_T47 l (j' : Int)) = true
    · refine ⟨fun _ => lift _ ?_, fun hn => absurd (split.2 (.inr hrow)) hn⟩
      by_cases hb : badFrom rest l p (i + 1)
      · exact (ver_l2 h hlen hp i hi _ (ih1 hb) i 0 (by omega)).1 hrow
      · exact (ver_l2 h hlen hp i hi _ (ih2 hb) i 0 (by omega)).1 hrow
    · refine ⟨fun hb => lift _ ?_, fun hn => lift _ ?_⟩
      · rcases split.1 hb with hb | hb
        · exact (ver_l2 h hlen hp i hi _ (ih1 hb) i 0 (by omega)).2 hrow
        · exact absurd hb hrow
      · exact (ver_l2 h hlen hp i hi _ (ih2 (fun hb => hn (split.2 (.inl hb)))) i 0 (by omega)).2 hrow
end
theorem badFrom_iff {rest : Int} {l : List S47} {p : List Int} : badFrom rest l p 0 ↔ badPair rest l p = true := by
  unfold badFrom badPair
  simp only [List.any_eq_true, List.mem_range, Bool.and_eq_true, decide_eq_true_eq]
  constructor
  · rintro ⟨i, j, _, hi, hj, h1, h2⟩
    exact ⟨i, hi, j, hj, by simpa [rd] using h1.symm, by rw [clashB_comm]; simpa [rd_T47] using h2⟩
  · rintro ⟨i, hi, j, hj, h1, h2⟩
    exact ⟨i, j, Nat.zero_le _, hi, hj, by simpa [rd] using h1.symm, by rw [clashB_comm]; simpa [rd_T47] using h2⟩
theorem ver_l0 {rest : Int} {l : List S47} {p : List Int} (hl : p.length ≤ 80) : ∀ (d j : Nat), j + d = p.length →
    ((p.drop j).all okPass = true → ∀ r, (∃ k, pianolaref03_Verify.l1 k p ((0 : Nat) : Int) rest (conv l) = some r) → ∃ k, pianolaref03_Verify.l0 k p j rest (conv l) = some r) ∧
    ((p.drop j).all okPass = false → ∃ k, pianolaref03_Verify.l0 k p j rest (conv l) = some (0, 3))
  | 0, j, hd => by
    rw [List.drop_eq_nil_of_le (by omega)]
    refine ⟨fun _ r ⟨k, hk⟩ => ⟨k + 1, ?_⟩, fun h => absurd h (by simp)⟩
    rw [pianolaref03_Verify.l0, if_neg (by omega)]
    exact hk
  | d + 1, j, hd => by
    have hj : j < p.length := by omega
    obtain ⟨ih1, ih2⟩ := ver_l0 (rest := rest) (l := l) hl d (j + 1) (by omega)
    have st : ∀ k, pianolaref03_Verify.l0 (k + 1) p j rest (conv l) = if okPass (rd p j) = true then pianolaref03_Verify.l0 k p ((j + 1 : Nat) : Int) rest (conv l) else some (0, 3) := fun k => by
      rw [pianolaref03_Verify.l0, if_pos (by omega), if_pos (by omega), is_eq, Option.bind_some, wrap_in (x := (j : Int) + 1) (by omega)]
      rfl
    rw [List.drop_eq_getElem_cons hj, List.all_cons, ← rdi_get hj]
    cases hg : okPass (rd p (j : Int)) with
    | true =>
      refine ⟨fun h r hr => ?_, fun h => ?_⟩
      · obtain ⟨k, hk⟩ := ih1 (by simpa using h) r hr
        exact ⟨k + 1, by rw [st, if_pos hg]; exact hk⟩
      · obtain ⟨k, hk⟩ := ih2 (by simpa using h)
        exact ⟨k + 1, by rw [st, if_pos hg]; exact hk⟩
    | false =>
      refine ⟨fun h => absurd h (by simp), fun _ => ⟨1, ?_⟩⟩
      rw [st, if_neg (by rw [hg]; simp)]
theorem okPass_iff {p : List Int} (h : p.all okPass = true) : ∀ x ∈ p, 0 ≤ x ∧ x ≤ 39 := fun x hx => by
  have := List.all_eq_true.1 h x hx
  unfold okPass at this
  simpa using this
theorem refVerify_ex {rest : Int} {l : List S47} {p : List Int} (hl : l.length ≤ 80) (hp : p.length ≤ 80) :
    ∃ k, pianolaref03_Verify.f k rest (conv l) p = some (if planE rest l p = 0 then (passesN p, 0) else (0, planE rest l p)) := by
  by_cases h : checkE rest l = 0
  · by_cases hlen : p.length = l.length
    · obtain ⟨A, B⟩ := ver_l0 (rest := rest) (l := l) hp p.length 0 (by omega)
      rw [List.drop_zero] at A B
      have key : ∃ k, pianolaref03_Verify.l0 k p ((0 : Nat) : Int) rest (conv l) = some (if planE rest l p = 0 then (passesN p, 0) else (0, planE rest l p)) := by
        cases hg : p.all okPass with
        | true =>
          obtain ⟨C, D⟩ := ver_l1 h hlen (okPass_iff hg) l.length 0 (by omega)
          have e : planE rest l p = if badPair rest l p then 14 else 0 := by
            unfold planE
            rw [if_pos h, if_neg (by simpa using hlen), if_pos (by exact hg)]
          by_cases hb : badPair rest l p = true
          · rw [e, if_pos hb]
            exact A hg _ (C (badFrom_iff.2 hb))
          · rw [e, if_neg hb]
            exact A hg _ (D (fun h => hb (badFrom_iff.1 h)))
        | false =>
          have e : planE rest l p = 3 := by
            unfold planE
            rw [if_pos h, if_neg (by simpa using hlen), if_neg (by rw [show p.all (fun x => decide (0 ≤ x) && decide (x ≤ 39)) = false from hg]; simp)]
          rw [e]
          exact B hg
      obtain ⟨k, hk⟩ := key
      have m1 := fun K hK => more (f := fun k => pianolaref03_Check.f k rest (conv l)) (pianolaref03_Check.mono _ _) (refCheck_eq hl rest) (K := K) hK
      refine ⟨max k (l.length + 1), ?_⟩
      unfold pianolaref03_Verify.f
      rw [m1 _ (Nat.le_max_right _ _), Option.bind_some, if_pos h, conv_len, if_pos (by omega)]
      have m2 : ∀ k, LeO (pianolaref03_Verify.l0 k p ((0 : Nat) : Int) rest (conv l)) (pianolaref03_Verify.l0 (k + 1) p ((0 : Nat) : Int) rest (conv l)) := fun k => (pianolaref03_Verify.mono_l k).1 _ _ _ _
      exact more m2 hk (Nat.le_max_left _ _)
    · have e : planE rest l p = 6 := by
        unfold planE
        rw [if_pos h, if_pos (by simpa using hlen)]
      refine ⟨l.length + 1, ?_⟩
      unfold pianolaref03_Verify.f
      rw [refCheck_eq hl rest, Option.bind_some, if_pos h, conv_len, if_neg (by omega), e]
      rfl
  · have e : planE rest l p = checkE rest l := by
      unfold planE
      rw [if_neg h]
    refine ⟨l.length + 1, ?_⟩
    unfold pianolaref03_Verify.f
    rw [refCheck_eq hl rest, Option.bind_some, if_neg h, e, if_neg h]
/-- No slot from j on that clashes with s has the number n. -/
def freeB (rest : Int) (l : List S47) (p : List Int) (s : S47) (n : Nat) (j d : Nat) : Bool := (List.range' j d).all fun i => !(decide (rd p (i : Int) = (n : Int)) && clashB rest (rd_T47 l (i : Int)) s)
section
variable {rest : Int} {l : List S47} {p : List Int} {s : S47} (h : checkE rest l = 0) (hlen : p.length = l.length) (hs : okSlot s = true)
include h hlen hs
theorem sm_l1 (n : Nat) (hn : n ≤ 100) : ∀ (d j : Nat) (b : Bool), j + d = l.length →
    ((b && freeB rest l p s n j d) = true → ∃ k, pianolaref03_smallest.l1 k p n b j rest (conv l) s.f0 s.f1 = some (n : Int)) ∧
    ((b && freeB rest l p s n j d) = false → ∀ r, (∃ k, pianolaref03_smallest.l0 k p ((n + 1 : Nat) : Int) rest (conv l) s.f0 s.f1 = some r) → ∃ k, pianolaref03_smallest.l1 k p n b j rest (conv l) s.f0 s.f1 = some r)
  | 0, j, b, hd => by
    obtain ⟨r0, r1, hl, hok⟩ := check_ok h
    have e : freeB rest l p s n j 0 = true := rfl
    rw [e, Bool.and_true]
    refine ⟨fun hb => ⟨1, ?_⟩, fun hb r ⟨k, hk⟩ => ⟨k + 1, ?_⟩⟩
    · rw [pianolaref03_smallest.l1, if_neg (by omega), if_pos hb]
    · rw [pianolaref03_smallest.l1, if_neg (by omega), if_neg (by rw [hb]; simp), wrap_in (by omega)]
      exact hk
  | d + 1, j, b, hd => by
    obtain ⟨r0, r1, hl, hok⟩ := check_ok h
    have hj : j < l.length := by omega
    have hcl := refclash_eq ⟨r0, r1⟩ (all_at hok hj) hs
    obtain ⟨b', hb'⟩ : ∃ b', b' = (b && !(decide (rd p (j : Int) = (n : Int)) && clashB rest (rd_T47 l (j : Int)) s)) := ⟨_, rfl⟩
    have e : (b && freeB rest l p s n j (d + 1)) = (b' && freeB rest l p s n (j + 1) d) := by
      unfold freeB
      rw [List.range'_succ, List.all_cons, hb', Bool.and_assoc]
    have st : ∀ k, pianolaref03_smallest.l1 (k + 1) p n b j rest (conv l) s.f0 s.f1 = pianolaref03_smallest.l1 k p n b' ((j + 1 : Nat) : Int) rest (conv l) s.f0 s.f1 := fun k => by
      rw [pianolaref03_smallest.l1, if_pos (by omega), if_pos (show (0 : Int) ≤ (j : Int) by omega), if_pos (show (j : Int) < ((conv l).length : Int) by rw [conv_len]; omega), rd_conv hj, wrap_in (x := (j : Int) + 1) (by omega)]
      dsimp only
      rw [hcl, Option.bind_some, hb', show (j : Int) + 1 = ((j + 1 : Nat) : Int) from by omega]
      cases b with
      | false => rw [if_neg (by simp), Bool.false_and]
      | true =>
        rw [if_pos rfl]
        by_cases he : rd p (j : Int) = (n : Int)
        · rw [if_pos he, decide_eq_true he]; simp
        · rw [if_neg he, decide_eq_false he]; simp
    obtain ⟨ih1, ih2⟩ := sm_l1 n hn d (j + 1) b' (by omega)
    rw [e]
    refine ⟨fun hb => ?_, fun hb r hr => ?_⟩
    · obtain ⟨k, hk⟩ := ih1 hb
      exact ⟨k + 1, by rw [st]; exact hk⟩
    · obtain ⟨k, hk⟩ := ih2 hb r hr
      exact ⟨k + 1, by rw [st]; exact hk⟩
omit h hs in
theorem free_iff (n : Nat) : freeB rest l p s n 0 l.length = true ↔ (n : Int) ∉ clashList rest l p s := by
  have _ := hlen
  unfold freeB clashList
  rw [List.all_eq_true]
  simp only [List.mem_map, List.mem_filter, List.mem_range, List.mem_range'_1, Bool.and_eq_true, decide_eq_true_eq, Bool.not_eq_true', Bool.and_eq_false_iff, decide_eq_false_iff_not]
  have rdp : ∀ i : Nat, rd p (i : Int) = p.getD i 0 := fun i => by simp [rd]
  have rdl : ∀ i : Nat, rd_T47 l (i : Int) = l.getD i z47 := fun i => by simp [rd_T47]
  constructor
  · rintro ha ⟨i, ⟨hi, hc, hge⟩, hx⟩
    rcases ha i (by omega) with h1 | h1
    · exact h1 (by rw [rdp]; exact hx)
    · rw [rdl, hc] at h1; cases h1
  · intro ha i hi
    by_cases h1 : rd p (i : Int) = (n : Int)
    · refine .inr ?_
      cases hc : clashB rest (rd_T47 l (i : Int)) s with
      | false => rfl
      | true =>
        refine absurd ⟨i, ⟨by omega, by rw [← rdl]; exact hc, by rw [← rdp, h1]; omega⟩, by rw [← rdp]; exact h1⟩ ha
    · exact .inl h1
theorem smallest_ex (hp : p.length ≤ 40) : ∃ k, pianolaref03_smallest.f k rest (conv l) p s.f0 s.f1 = some (leastFree (clashList rest l p s) : Int) := by
  obtain ⟨hm1, hm2⟩ := leastFree_spec (clashList rest l p s)
  obtain ⟨m, hm⟩ : ∃ m, m = leastFree (clashList rest l p s) := ⟨_, rfl⟩
  rw [← hm] at hm1 hm2 ⊢
  have hle : m ≤ 40 := by
    have := pigeon m _ hm2
    unfold clashList at this
    rw [List.length_map] at this
    have h2 := List.length_filter_le (fun i => clashB rest (l.getD i z47) s && decide (0 ≤ p.getD i 0)) (List.range l.length)
    rw [List.length_range] at h2
    omega
  have key : ∀ (d n : Nat), n + d = m → ∃ k, pianolaref03_smallest.l0 k p (n : Int) rest (conv l) s.f0 s.f1 = some (m : Int) := by
    intro d
    induction d with
    | zero =>
      intro n hn
      obtain rfl : n = m := by omega
      obtain ⟨k, hk⟩ := (sm_l1 h hlen hs n (by omega) l.length 0 true (by omega)).1 (by rw [Bool.true_and, free_iff hlen]; exact hm1)
      exact ⟨k + 1, by rw [pianolaref03_smallest.l0]; exact hk⟩
    | succ d ih =>
      intro n hn
      obtain ⟨k, hk⟩ := (sm_l1 h hlen hs n (by omega) l.length 0 true (by omega)).2 (by
        rw [Bool.true_and]
        refine Bool.eq_false_iff.2 (fun hf => ?_)
        exact (free_iff hlen n).1 hf (hm2 n (by omega))) (m : Int) (ih (n + 1) (by omega))
      exact ⟨k + 1, by rw [pianolaref03_smallest.l0]; exact hk⟩
  exact key m 0 (by omega)
end
theorem refAdd_ex {rest : Int} {l : List S47} {p : List Int} {a b : Int} (hl : l.length ≤ 80) (hp : p.length ≤ 80) :
    ∃ k, pianolaref03_Add.f k rest (conv l) p a b = punch_Add.f rest l p a b := by
  obtain ⟨k, hk⟩ := refVerify_ex (rest := rest) (l := l) (p := p) hl hp
  unfold punch_Add.f
  by_cases h : planE rest l p = 0
  · rw [if_pos h] at hk ⊢
    obtain ⟨h1, h2, h3, h4⟩ := planE_ok h
    cases hg : okSlot ⟨a, b⟩ with
    | true =>
      obtain ⟨k2, hk2⟩ := smallest_ex (s := ⟨a, b⟩) h1 h2 hg (by have := (check_ok h1).2.2.1; omega)
      refine ⟨max k k2, ?_⟩
      unfold pianolaref03_Add.f
      rw [more (f := fun k => pianolaref03_Verify.f k rest (conv l) p) (pianolaref03_Verify.mono _ _ _) hk (Nat.le_max_left k k2), Option.bind_some]
      dsimp only
      rw [if_pos rfl, slot_eq ⟨a, b⟩, Option.bind_some, hg, if_pos rfl, more (f := fun k => pianolaref03_smallest.f k rest (conv l) p a b) (pianolaref03_smallest.mono _ _ _ _ _) hk2 (Nat.le_max_right k k2)]
      rfl
    | false =>
      refine ⟨k, ?_⟩
      unfold pianolaref03_Add.f
      rw [hk, Option.bind_some]
      dsimp only
      rw [if_pos rfl, slot_eq ⟨a, b⟩, Option.bind_some, hg, if_neg (by simp), if_neg (by simp)]
  · rw [if_neg h] at hk ⊢
    refine ⟨k, ?_⟩
    unfold pianolaref03_Add.f
    rw [hk, Option.bind_some]
    dsimp only
    rw [if_neg h]
theorem punchVerifies_pure (a0 : Int) (l : List S47) (p : List Int) (a b : Int) : ∃ k, pianolalaw03_PunchVerifies.f k a0 l p a b = some true := by
  by_cases hl : (l.length : Int) > 80
  · refine ⟨101, ?_⟩
    unfold pianolalaw03_PunchVerifies.f
    rw [if_pos hl, pianolalaw03_PunchVerifies.j0, if_pos rfl, works_at]
    rfl
  · by_cases hp : (p.length : Int) > 80
    · refine ⟨101, ?_⟩
      unfold pianolalaw03_PunchVerifies.f
      rw [if_neg hl, pianolalaw03_PunchVerifies.j0, if_pos (by simpa using hp), works_at]
      rfl
    · have hl' : l.length ≤ 80 := by omega
      have hp' : p.length ≤ 80 := by omega
      obtain ⟨k1, h1⟩ := refVerify_ex (rest := a0) (l := l) (p := p) hl' hp'
      obtain ⟨k2, h2⟩ := refAdd_ex (rest := a0) (l := l) (p := p) (a := a) (b := b) hl' hp'
      have hv : punch_Verify.f a0 l p = some (if planE a0 l p = 0 then (passesN p, 0) else (0, planE a0 l p)) := by
        unfold punch_Verify.f
        split <;> rfl
      obtain ⟨v, hvv⟩ : ∃ v, v = (if planE a0 l p = 0 then (passesN p, 0) else (0, planE a0 l p)) := ⟨_, rfl⟩
      obtain ⟨w, hw⟩ : ∃ w, punch_Add.f a0 l p a b = some w := by
        unfold punch_Add.f
        split
        · split <;> exact ⟨_, rfl⟩
        · exact ⟨_, rfl⟩
      rw [← hvv] at hv h1
      rw [hw] at h2
      refine ⟨k1 + k2 + 200 + 1, ?_⟩
      unfold pianolalaw03_PunchVerifies.f
      rw [if_neg hl, pianolalaw03_PunchVerifies.j0, if_neg (by simpa using hp), hv, Option.bind_some, given_more hl' a0 (by omega)]
      simp only [Option.bind_some]
      rw [more (f := fun k => pianolaref03_Verify.f k a0 (conv l) p) (pianolaref03_Verify.mono _ _ _) h1 (show k1 ≤ k1 + k2 + 200 by omega), Option.bind_some, hw]
      simp only [Option.bind_some]
      rw [more (f := fun k => pianolaref03_Add.f k a0 (conv l) p a b) (pianolaref03_Add.mono _ _ _ _ _) h2 (show k2 ≤ k1 + k2 + 200 by omega), Option.bind_some]
      simp [works_more (K := k1 + k2 + 200) (by omega)]
end Go.Proofs.Ytaaonhfaoaabbaa.X
