/- The calls of Verify and Add. -/
import Derived.Test.YtaaonhfaoaabbaaE5
namespace Go.Proofs.Ytaaonhfaoaabbaa.X
open Go.Shelf Go.Proofs.YtaaonhfaoaabbaaF Go.RowKit Go.Proofs.YtaaonhfaoaabbaaW.PrintWords Go.Proofs.YtaaonhfaoaabbaaW.PrintLast Go.Proofs.YtaaonhfaoaabbaaW.PrintMore
theorem okPass_bounds {x : Int} (h : okPass x = true) : 0 ≤ x ∧ x ≤ 39 := by unfold okPass at h; simpa using h
theorem wrap_in {x : Int} (h : -9223372036854775808 ≤ x ∧ x < 9223372036854775808) : wrap64 x = x := by
  unfold wrap64
  omega
theorem mx_max (a b : Int) : mx a b = max a b := by
  unfold mx
  rw [Int.max_def]
  split <;> split <;> omega
theorem passes_l0 {l : List Int} (hp : ∀ x ∈ l, -1 ≤ x ∧ x ≤ 39) (hl : l.length ≤ 40) : ∀ (d j : Nat) (x : Int), j + d = l.length → punch_passes.l0 (d + 1) x l (l.length : Int) j = some ((l.drop j).foldl (fun n x => max n (x + 1)) x)
  | 0, j, x, h => by
    unfold punch_passes.l0
    rw [if_neg (by omega), List.drop_eq_nil_of_le (by omega)]
    rfl
  | d + 1, j, x, h => by
    have hj : j < l.length := by omega
    have hb := hp l[j] (List.getElem_mem hj)
    rw [← rdi_get hj] at hb
    unfold punch_passes.l0
    rw [if_pos (by omega), if_pos (by omega), if_pos (by omega), wrap_in (by omega), wrap_in (by omega), mx_max, show (j : Int) + 1 = ((j + 1 : Nat) : Int) from by omega, passes_l0 hp hl d (j + 1) _ (by omega), List.drop_eq_getElem_cons hj, rdi_get hj]
    rfl
theorem passes_eq' {l : List Int} (hp : ∀ x ∈ l, -1 ≤ x ∧ x ≤ 39) (hl : l.length ≤ 40) : punch_passes.f (l.length + 1) l = some (passesN l) := by
  unfold punch_passes.f passesN
  exact passes_l0 hp hl l.length 0 0 (by omega)
theorem passes_eq {l : List Int} (hp : l.all okPass = true) (hl : l.length ≤ 40) : punch_passes.f (l.length + 1) l = some (passesN l) :=
  passes_eq' (fun x hx => by have := okPass_bounds (List.all_eq_true.1 hp x hx); omega) hl
/-- What planned hands back. -/
def PlannedAll (rest : Int) (A : Option Addr) (c : Nat) (l : List S47) (p : List Int) (z : Int) (w : World) (e : Ending) (w' : World) : Prop :=
  ((z ≠ 0 ∧ e = .returned (.tuple #[.pointer none, .int .i64 z])) ∨ (z = 0 ∧ ∃ g, e = .returned (.tuple #[.pointer (some ⟨g, 0, none⟩), .int .i64 0]) ∧ w.heap.size ≤ g ∧ w'.heap[g]? = some (.cells (sheetCells rest A l.length c (partTo p l.length)) 108 (0, 0)))) ∧ Below w.heap.size w w'
theorem okPass_all (p : List Int) : (p.all fun x => decide (0 ≤ x) && decide (x ≤ 39)) = p.all okPass := rfl
theorem planned_calls (a0_0 : Int) (A0_1 : Option Addr) (c0_1 : Nat) (l0_1 : List S47) (A1 : Option Addr) (c1 : Nat) (l1 : List Int) (w : World) (hr0_1 : Kd.C k47 w A0_1 l0_1.length l0_1) (hc0_1 : l0_1.length ≤ c0_1) (hr1 : Kd.C (Kd.int .i64) w A1 l1.length l1) :
    Calls Try.prog 68 #[.agg #[.int .i64 a0_0, .slice A0_1 l0_1.length c0_1], .slice A1 l1.length c1] w (PlannedAll a0_0 A0_1 c0_1 l0_1 l1 (planE a0_0 l0_1 l1) w) := by
  by_cases h : checkE a0_0 l0_1 = 0
  · obtain ⟨r0, r1, hl, hok⟩ := check_ok h
    by_cases hlen : l1.length = l0_1.length
    · have hb : ((l1.length : Int) != (l0_1.length : Int)) = false := by rw [bne_eq_false_iff_eq]; omega
      cases hall : l1.all okPass with
      | true =>
        refine (planned_main a0_0 A0_1 c0_1 l0_1 A1 c1 l1 w hr0_1 hc0_1 hr1 h hlen hall).mono ?_
        rintro e w' ⟨h1, h2⟩
        refine ⟨?_, h2⟩
        unfold planE
        rw [if_pos h, if_neg (by omega), okPass_all, if_pos hall]
        cases hbd : badPair a0_0 l0_1 l1 with
        | true => rw [hbd] at h1; exact .inl ⟨by decide, h1⟩
        | false => rw [hbd] at h1; exact .inr ⟨rfl, h1⟩
      | false =>
        refine (planned_range a0_0 A0_1 c0_1 l0_1 A1 c1 l1 w hr0_1 hc0_1 hr1 h hb (by omega) hall).mono ?_
        rintro e w' ⟨h1, h2⟩
        refine ⟨.inl ?_, h2⟩
        unfold planE
        rw [if_pos h, if_neg (by omega), okPass_all, hall]
        exact ⟨by simp, h1⟩
    · refine (planned_len a0_0 A0_1 c0_1 l0_1 A1 c1 l1 w hr0_1 hc0_1 h (by rw [bne_iff_ne]; omega)).mono ?_
      rintro e w' ⟨h1, h2⟩
      refine ⟨.inl ?_, h2⟩
      unfold planE
      rw [if_pos h, if_pos hlen]
      exact ⟨by decide, h1⟩
  · refine (planned_check a0_0 A0_1 c0_1 l0_1 A1 c1 l1 w hr0_1 hc0_1 h).mono ?_
    rintro e w' ⟨h1, h2⟩
    refine ⟨.inl ?_, h2⟩
    unfold planE
    rw [if_neg h]
    exact ⟨h, h1⟩
theorem planE_ok {rest : Int} {l : List S47} {p : List Int} (h : planE rest l p = 0) : checkE rest l = 0 ∧ p.length = l.length ∧ p.all okPass = true ∧ badPair rest l p = false := by
  unfold planE at h
  by_cases h1 : checkE rest l = 0
  · rw [if_pos h1] at h
    by_cases h2 : p.length = l.length
    · rw [if_neg (by omega), okPass_all] at h
      cases h3 : p.all okPass
      · rw [h3] at h; exact absurd h (by simp)
      · rw [h3] at h
        cases h4 : badPair rest l p
        · exact ⟨h1, h2, rfl, rfl⟩
        · rw [h4] at h; exact absurd h (by decide)
    · rw [if_pos h2] at h; exact absurd h (by decide)
  · rw [if_neg h1] at h; exact absurd h h1
theorem clash_part {rest : Int} {l : List S47} {p : List Int} (s : S47) (hlen : p.length = l.length) : clashTo rest l (partTo p l.length) s l.length = clashList rest l p s := by
  unfold clashTo clashList
  have hg : ∀ i : Nat, i < l.length → (partTo p l.length).getD i 0 = p.getD i 0 := fun i hi => by rw [partTo_lo (by omega) hi]; rfl
  rw [List.filter_congr (q := fun i => clashB rest (l.getD i z47) s && decide (0 ≤ p.getD i 0)) (fun i hi => by rw [hg i (List.mem_range.1 hi)])]
  exact List.map_congr_left (fun i hi => hg i (List.mem_range.1 (List.mem_filter.1 hi).1))
set_option maxHeartbeats 1000000 in
theorem punch_Verify.calls (a0_0 : Int) (A0_1 : Option Addr) (c0_1 : Nat) (l0_1 : List (S47)) (A1 : Option Addr) (c1 : Nat) (l1 : List Int) (r1 r2 : Int) (w : World) (hr0_1 : Kd.C k47 w A0_1 l0_1.length l0_1) (hc0_1 : l0_1.length ≤ c0_1) (hr1 : Kd.C (Kd.int .i64) w A1 l1.length l1) (hc1 : l1.length ≤ c1) (h : punch_Verify.f a0_0 l0_1 l1 = some (r1, r2)) :
    Calls Try.prog 26 #[.agg #[.int .i64 a0_0, .slice A0_1 l0_1.length c0_1], .slice A1 l1.length c1] w fun e w' => e = .returned (.tuple #[.int .i64 r1, .int .i64 r2]) ∧ Below w.heap.size w w' := by
  have hcon := fun W (hb : Below w.heap.size w W) => planned_calls a0_0 A0_1 c0_1 l0_1 A1 c1 l1 W (Kd.C_below hr0_1 hb) hc0_1 (Kd.C_below hr1 hb)
  have hpas := fun (hp : planE a0_0 l0_1 l1 = 0) W (hb : Below w.heap.size w W) => punch_passes.calls (l1.length + 1) A1 c1 l1 _ W (Kd.C_below hr1 hb) hc1 (passes_eq (planE_ok hp).2.2.1 (by rw [(planE_ok hp).2.1]; exact (check_ok (planE_ok hp).1).2.2.1))
  unfold punch_Verify.f at h
  generalize planE a0_0 l0_1 l1 = z at *
  have hB0 := Aside0.mk (below_alloc (Below.refl w.heap.size w) (.cells #[.int .i64 a0_0, .slice A0_1 l0_1.length c0_1] 24))
  have H := Aside0.mk h
  clear h
  go_enter Try.func26, Try.ntmps26
  go_wp2_with fail
  refine (hcon _ hB0.out).mono ?_
  rintro e w' ⟨hh, hb⟩
  rcases hh with ⟨hz, rfl⟩ | ⟨rfl, g, rfl, hg, hgb⟩
  · have hzb : (z != 0) = true := by simpa using hz
    have hh := H.out
    rw [if_neg hz] at hh
    obtain ⟨rfl, rfl⟩ : 0 = r1 ∧ z = r2 := by simpa using hh
    have HB := Aside0.mk (below_step hB0.out hb)
    clear hh hz hb
    go_wp2
    go_ret2
    exact ⟨rfl, HB.out⟩
  · have hh := H.out
    rw [if_pos rfl] at hh
    obtain ⟨rfl, rfl⟩ : passesN l1 = r1 ∧ 0 = r2 := by simpa using hh
    have HB := Aside0.mk (below_step hB0.out hb)
    clear hh hgb hb
    go_wp2_with (go_at_call 63; go_loud (refine (hpas trivial _ HB.out).mono ?_; rintro e w'' ⟨rfl, hb2⟩))
    go_ret2
    exact ⟨rfl, below_step HB.out hb2⟩
set_option maxHeartbeats 1000000 in
theorem punch_Add.calls (a0_0 : Int) (A0_1 : Option Addr) (c0_1 : Nat) (l0_1 : List (S47)) (A1 : Option Addr) (c1 : Nat) (l1 : List Int) (a2_0 a2_1 : Int) (r1 r2 : Int) (w : World) (hr0_1 : Kd.C k47 w A0_1 l0_1.length l0_1) (hc0_1 : l0_1.length ≤ c0_1) (hr1 : Kd.C (Kd.int .i64) w A1 l1.length l1) (hc1 : l1.length ≤ c1) (h : punch_Add.f a0_0 l0_1 l1 a2_0 a2_1 = some (r1, r2)) :
    Calls Try.prog 28 #[.agg #[.int .i64 a0_0, .slice A0_1 l0_1.length c0_1], .slice A1 l1.length c1, .agg #[.int .i64 a2_0, .int .i64 a2_1]] w fun e w' => e = .returned (.tuple #[.int .i64 r1, .int .i64 r2]) ∧ Below w.heap.size w w' := by
  have hcon := fun W (hb : Below w.heap.size w W) => planned_calls a0_0 A0_1 c0_1 l0_1 A1 c1 l1 W (Kd.C_below hr0_1 hb) hc0_1 (Kd.C_below hr1 hb)
  have hsm := fun (hp : planE a0_0 l0_1 l1 = 0) (hs : okSlot ⟨a2_0, a2_1⟩ = true) W (hb : Below w.heap.size w W) g hg => smallest_calls g a0_0 A0_1 c0_1 l0_1 (partTo l1 l0_1.length) a2_0 a2_1 W (check_ok (planE_ok hp).1).2.2.1 (partTo_len (Nat.le_of_eq (planE_ok hp).2.1.symm) (by rw [(planE_ok hp).2.1]; exact (check_ok (planE_ok hp).1).2.2.1)) (check_ok (planE_ok hp).1).1 (check_ok (planE_ok hp).1).2.1 (check_ok (planE_ok hp).1).2.2.2 (by have := ok_bounds hs; simp at this; omega) (by have := ok_bounds hs; simp at this; omega) hg (Kd.C_below hr0_1 hb)
  have hcl := fun (hp : planE a0_0 l0_1 l1 = 0) => clash_part (rest := a0_0) (l := l0_1) (p := l1) ⟨a2_0, a2_1⟩ (planE_ok hp).2.1
  unfold punch_Add.f at h
  generalize planE a0_0 l0_1 l1 = z at *
  obtain ⟨b3, b5, hB0⟩ : ((w.alloc (.cells #[.int .i64 a0_0, .slice A0_1 l0_1.length c0_1] 24)).alloc (.cells #[.int .i64 a2_0, .int .i64 a2_1] 47)).heap[w.heap.size]? = some (.cells #[.int .i64 a0_0, .slice A0_1 l0_1.length c0_1] 24 (0, 0)) ∧
      ((w.alloc (.cells #[.int .i64 a0_0, .slice A0_1 l0_1.length c0_1] 24)).alloc (.cells #[.int .i64 a2_0, .int .i64 a2_1] 47)).heap[w.heap.size + 1]? = some (.cells #[.int .i64 a2_0, .int .i64 a2_1] 47 (0, 0)) ∧
      Below w.heap.size w ((w.alloc (.cells #[.int .i64 a0_0, .slice A0_1 l0_1.length c0_1] 24)).alloc (.cells #[.int .i64 a2_0, .int .i64 a2_1] 47)) := by
    refine ⟨blk_alloc (blk_new w _) _, ?_, below_alloc (below_alloc (Below.refl _ _) _) _⟩
    have h_ := blk_new (w.alloc (.cells #[.int .i64 a0_0, .slice A0_1 l0_1.length c0_1] 24)) (.cells #[.int .i64 a2_0, .int .i64 a2_1] 47)
    rwa [World.size_alloc] at h_
  have H := Aside0.mk h
  clear h
  go_enter Try.func28, Try.ntmps28
  go_wp2_with fail
  obtain ⟨W0, hW0⟩ : ∃ W0, (w.alloc (.cells #[.int .i64 a0_0, .slice A0_1 l0_1.length c0_1] 24)).alloc (.cells #[.int .i64 a2_0, .int .i64 a2_1] 47) = W0 := ⟨_, rfl⟩
  rw [hW0] at b3 b5 hB0 ⊢
  clear hW0
  refine (hcon _ hB0).mono ?_
  rintro e w' ⟨hh, hb⟩
  have HB := Aside0.mk (below_step hB0 hb)
  have B5 := Aside0.mk (blk_below b5 hb)
  have c50 : w'.cell? ⟨w.heap.size + 1, 0, none⟩ = some (.int .i64 a2_0) := (blk_cell B5.out 0).trans rfl
  have c51 : w'.cell? ⟨w.heap.size + 1, 1, none⟩ = some (.int .i64 a2_1) := (blk_cell B5.out 1).trans rfl
  have l5 := blk_lt B5.out
  clear b3 b5 hB0 hb
  rcases hh with ⟨hz, rfl⟩ | ⟨rfl, g, rfl, hg, hgb⟩
  · have hzb : (z != 0) = true := by simpa using hz
    have hh := H.out
    rw [if_neg hz] at hh
    obtain ⟨rfl, rfl⟩ : 0 = r1 ∧ z = r2 := by simpa using hh
    clear hh hz
    go_wp2
    go_ret2
    exact ⟨rfl, HB.out⟩
  · have hh := H.out
    rw [if_pos rfl] at hh
    have HG := Aside0.mk hgb
    clear hgb
    cases hs : okSlot ⟨a2_0, a2_1⟩ with
    | true =>
      rw [hs, if_pos rfl] at hh
      obtain ⟨rfl, rfl⟩ : (leastFree (clashList a0_0 l0_1 l1 ⟨a2_0, a2_1⟩) : Int) = r1 ∧ 0 = r2 := by simpa using hh
      clear hh
      go_wp2_with (go_at_call 54; refine (punch_Slot_good.calls _ _ _ _ (good_eq _ _)).mono ?_; rw [hs]; clear c50 c51 l5; rintro e w'' ⟨rfl, hb2⟩; have HB2 := Aside0.mk (below_step HB.out hb2); have B5' := Aside0.mk (blk_below B5.out hb2); have c50 : w''.cell? ⟨w.heap.size + 1, 0, none⟩ = some (.int .i64 a2_0) := (blk_cell B5'.out 0).trans rfl; have c51 : w''.cell? ⟨w.heap.size + 1, 1, none⟩ = some (.int .i64 a2_1) := (blk_cell B5'.out 1).trans rfl; have l5 := blk_lt B5'.out; have HG2 := Aside0.mk (blk_below HG.out hb2); clear hb2)
      go_wp2_with (go_at_call 61; go_loud (refine (hsm trivial hs _ HB2.out g HG2.out).mono ?_; rw [hcl trivial]; rintro e w3 ⟨rfl, hb3⟩))
      go_ret2
      exact ⟨rfl, below_step HB2.out hb3⟩
    | false =>
      rw [hs, if_neg (by simp)] at hh
      obtain ⟨rfl, rfl⟩ : 0 = r1 ∧ 3 = r2 := by simpa using hh
      clear hh
      go_wp2_with (go_at_call 54; refine (punch_Slot_good.calls _ _ _ _ (good_eq _ _)).mono ?_; rw [hs]; rintro e w'' ⟨rfl, hb2⟩)
      go_ret2
      exact ⟨rfl, below_step HB.out hb2⟩
end Go.Proofs.Ytaaonhfaoaabbaa.X
