/- The calls of punch.Check and punch.Crowd come to their pure functions. -/
import Derived.Test.YtaaonhfaoaabbaaE0
import Derived.Test.YtaaonhfaoaabbaaXx1
namespace Go.Proofs.Ytaaonhfaoaabbaa.X
open Go.RowKit Go.Proofs.YtaaonhfaoaabbaaW.PrintWords Go.Proofs.YtaaonhfaoaabbaaW.PrintLast Go.Proofs.YtaaonhfaoaabbaaW.PrintMore
theorem good_eq (a b : Int) : punch_Slot_good.f a b = some (okSlot ⟨a, b⟩) := by
  unfold punch_Slot_good.f okSlot
  by_cases h1 : 0 ≤ a <;> by_cases h2 : a < b <;> simp [h1, h2]
theorem between_eq (a b c : Int) : punch_between.f a b c = some (decide (a ≤ b) && decide (b ≤ c)) := by
  unfold punch_between.f
  by_cases h1 : a ≤ b <;> simp [h1]
set_option maxHeartbeats 400000 in
theorem bad_calls (a b : Int) (w : World) : Calls Try.prog 53 #[.agg #[.int .i64 a, .int .i64 b]] w fun e w' => e = .returned (.bool (!okSlot ⟨a, b⟩)) ∧ Below w.heap.size w w' := by
  go_enter Try.func53, Try.ntmps53
  go_wp2_with (go_at_call 54; refine (punch_Slot_good.calls _ _ _ _ (good_eq a b)).mono ?_; rintro e w' ⟨rfl, hb⟩)
  go_ret
  exact ⟨rfl, ((Below.refl _ _).alloc (Nat.le_refl _) _).trans (hb.mono (by simp))⟩
/-- What IndexFunc says of slots: some number, not negative just if one of them is not as stated. -/
def Bads (l : List S47) (w : World) (e : Ending) (w' : World) : Prop := ∃ n : Int, e = .returned (.int .i64 n) ∧ decide (n ≥ 0) = !l.all okSlot ∧ Below w.heap.size w w'
theorem rd_get {l : List S47} {k : Nat} (hk : k < l.length) : rd_T47 l k = l[k] := by unfold rd_T47; simp [List.getD_eq_getElem?_getD, hk]
theorem all_false {l : List S47} {k : Nat} (hk : k < l.length) (h : okSlot (rd_T47 l k) = false) : l.all okSlot = false := by
  rw [List.all_eq_false]
  refine ⟨l[k], List.getElem_mem _, ?_⟩
  rw [← rd_get hk]; simp [h]
theorem all_true {l : List S47} (h : ∀ j : Nat, j < l.length → okSlot (rd_T47 l j) = true) : l.all okSlot = true := by
  rw [List.all_eq_true]
  intro x hx
  obtain ⟨j, hj, rfl⟩ := List.getElem_of_mem hx
  have := h j hj
  rwa [rd_get hj] at this
theorem all_at {l : List S47} (h : l.all okSlot = true) {j : Nat} (hj : j < l.length) : okSlot (rd_T47 l j) = true := by
  rw [rd_get hj]; exact List.all_eq_true.1 h _ (List.getElem_mem _)
set_option maxHeartbeats 1000000 in
theorem index_calls (A : Option Addr) (c : Nat) (l : List S47) (w : World) (hr : Kd.C k47 w A l.length l) (hl : l.length ≤ 9223372036854775807) :
    Calls Try.prog 77 #[.slice A l.length c, .func (.func 53) #[] #[]] w (Bads l w) := by
  go_enter Try.func77, Try.ntmps77
  go_wp2
  go_loopw [8] (fun i wr => ∃ k : Nat, k ≤ l.length ∧ i = .int .i64 k ∧ Aside0 (∀ j : Nat, j < k → okSlot (rd_T47 l j) = true) ∧ Aside0 (Below w.heap.size w wr)) (fun i _ => l.length - (intOf i).toNat)
  case atStart => exact ⟨0, Nat.zero_le _, rfl, ⟨fun j h => by omega⟩, ⟨Below.refl _ _⟩⟩
  case round =>
    obtain ⟨k, hk, rfl, HA, HB⟩ := hrel
    by_cases hlt : k < l.length
    · have hlz : (k : Int) < (l.length : Int) := by omega
      obtain ⟨ad, rfl, h0, h1⟩ := at_T47 hr (k : Int) (by omega) (by omega)
      replace h0 := (HB.out.cell (World.block_lt_of_cell? w _ h0)).trans h0
      replace h1 := (HB.out.cell (World.block_lt_of_cell? w _ h1)).trans h1
      simp only [Int.toNat_natCast] at h0 h1
      cases hg : okSlot (rd_T47 l (k : Int)) with
      | true =>
        have hg' : okSlot ⟨(rd_T47 l k).f0, (rd_T47 l k).f1⟩ = true := hg
        go_wp2_with (go_at_call 53; refine (bad_calls _ _ _).mono ?_; rw [hg']; rintro e w' ⟨rfl, hb⟩)
        go_roundw
        case rel => exact ⟨k + 1, by omega, by go_num, ⟨fun j h => by rcases Nat.lt_or_ge j k with h' | h'; exact HA.out j h'; have : j = k := by omega
                                                                      subst this; exact hg⟩, ⟨HB.out.trans (hb.mono HB.out.size)⟩⟩
        case measure => simp [intOf]; omega
      | false =>
        have hg' : okSlot ⟨(rd_T47 l k).f0, (rd_T47 l k).f1⟩ = false := hg
        go_wp2_with (go_at_call 53; refine (bad_calls _ _ _).mono ?_; rw [hg']; rintro e w' ⟨rfl, hb⟩)
        go_ret
        exact ⟨k, rfl, by rw [all_false hlt hg]; simp, HB.out.trans (hb.mono HB.out.size)⟩
    · have hlz : ¬ (k : Int) < (l.length : Int) := by omega
      go_wp2
      go_ret
      exact ⟨-1, rfl, by rw [all_true (fun j h => HA.out j (by omega))]; rfl, HB.out⟩
set_option maxHeartbeats 400000 in
theorem contains_calls (A : Option Addr) (c : Nat) (l : List S47) (w : World) (hr : Kd.C k47 w A l.length l) (hl : l.length ≤ 9223372036854775807) :
    Calls Try.prog 52 #[.slice A l.length c, .func (.func 53) #[] #[]] w fun e w' => e = .returned (.bool (!l.all okSlot)) ∧ Below w.heap.size w w' := by
  have hh := index_calls A c l w hr hl
  go_enter Try.func52, Try.ntmps52
  go_wp2_with (go_at_call 77; refine hh.mono ?_; rintro e w' ⟨n, rfl, hn, hb⟩)
  go_ret
  exact ⟨by rw [← hn]; rfl, hb⟩

set_option maxHeartbeats 1000000 in
theorem punch_Check.calls (a0_0 : Int) (A0_1 : Option Addr) (c0_1 : Nat) (l0_1 : List (S47)) (r : Int) (w : World) (hr0_1 : Kd.C k47 w A0_1 l0_1.length l0_1) (_hc0_1 : l0_1.length ≤ c0_1) (h : punch_Check.f a0_0 l0_1 = some r) :
    Calls Try.prog 20 #[.agg #[.int .i64 a0_0, .slice A0_1 l0_1.length c0_1]] w fun e w' => e = .returned (.int .i64 r) ∧ Below w.heap.size w w' := by
  obtain rfl : checkE a0_0 l0_1 = r := Option.some.inj h
  clear h
  unfold checkE
  by_cases h1 : 0 ≤ a0_0 ∧ a0_0 ≤ 1000
  · rw [if_pos h1]
    have hb1 : punch_between.f 0 a0_0 1000 = some true := by rw [between_eq]; simp [h1]
    clear h1
    by_cases h2 : 40 < l0_1.length
    · rw [if_pos h2]
      have h2' : decide (l0_1.length > 40) = true := by simpa using h2
      have h2'' : (40 : Int) < (l0_1.length : Int) := by omega
      go_enter Try.func20, Try.ntmps20
      go_wp2_with (go_at_call 51; refine (punch_between.calls _ _ _ _ _ hb1).mono ?_; rintro e w' ⟨rfl, ⟨q, rfl⟩⟩)
      go_ret
      exact ⟨rfl, pw_below_drewN (below_alloc (Below.refl _ _) _) _⟩
    · rw [if_neg h2]
      have h2' : decide (l0_1.length > 40) = false := by simpa using h2
      have h2'' : ¬ (40 : Int) < (l0_1.length : Int) := by omega
      have hcon := fun W (hb : Below w.heap.size w W) => contains_calls A0_1 c0_1 l0_1 W (Kd.C_below hr0_1 hb) (by omega)
      cases hg : l0_1.all okSlot with
      | true =>
        rw [hg] at hcon
        go_enter Try.func20, Try.ntmps20
        go_wp2_with (first | (go_at_call 51; refine (punch_between.calls _ _ _ _ _ hb1).mono ?_; rintro e w' ⟨rfl, ⟨q, rfl⟩⟩) | (go_at_call 52; refine (hcon _ (pw_below_drewN (below_alloc (Below.refl _ _) _) _)).mono ?_; rintro e w' ⟨rfl, hb⟩))
        go_ret
        exact ⟨rfl, below_step (pw_below_drewN (below_alloc (Below.refl _ _) _) _) hb⟩
      | false =>
        rw [hg] at hcon
        go_enter Try.func20, Try.ntmps20
        go_wp2_with (first | (go_at_call 51; refine (punch_between.calls _ _ _ _ _ hb1).mono ?_; rintro e w' ⟨rfl, ⟨q, rfl⟩⟩) | (go_at_call 52; refine (hcon _ (pw_below_drewN (below_alloc (Below.refl _ _) _) _)).mono ?_; rintro e w' ⟨rfl, hb⟩))
        go_ret
        exact ⟨rfl, below_step (pw_below_drewN (below_alloc (Below.refl _ _) _) _) hb⟩
  · rw [if_neg h1]
    have hb1 : punch_between.f 0 a0_0 1000 = some false := by rw [between_eq]; simp; omega
    clear h1
    go_enter Try.func20, Try.ntmps20
    go_wp2_with (go_at_call 51; refine (punch_between.calls _ _ _ _ _ hb1).mono ?_; rintro e w' ⟨rfl, ⟨q, rfl⟩⟩)
    go_ret
    exact ⟨rfl, pw_below_drewN (below_alloc (Below.refl _ _) _) _⟩

/-! ### crowds -/
/-- What crowd hands back: a closure over the moment and the job. -/
def CrowdFn (rest m : Int) (A : Option Addr) (n c : Nat) (w : World) (e : Ending) (w' : World) : Prop :=
  ∃ g1 g2 : Nat, e = .returned (.func (.func 76) #[] #[.pointer (some ⟨g2, 0, none⟩), .pointer (some ⟨g1, 0, none⟩)]) ∧ w.heap.size ≤ g1 ∧ w.heap.size ≤ g2 ∧
    w'.heap[g1]? = some (.cells #[.int .i64 rest, .slice A n c] 24 (0, 0)) ∧ w'.heap[g2]? = some (.cells #[.int .i64 m] 3 (0, 0)) ∧ Below w.heap.size w w'
set_option maxHeartbeats 400000 in
theorem crowd_calls (rest m : Int) (A : Option Addr) (n c : Nat) (w : World) :
    Calls Try.prog 49 #[.agg #[.int .i64 rest, .slice A n c], .int .i64 m] w (CrowdFn rest m A n c w) := by
  go_enter Try.func49, Try.ntmps49
  go_wp2
  go_ret
  exact ⟨w.heap.size, w.heap.size + 1, rfl, Nat.le_refl _, by omega, blk_alloc (blk_new w _) _, by have := blk_new (w.alloc (.cells #[.int .i64 rest, .slice A n c] 24)) (.cells #[.int .i64 m] 3); simpa using this, below_alloc (below_alloc (Below.refl _ _) _) _⟩
set_option maxHeartbeats 1000000 in
theorem in_calls (rest m a b : Int) (A : Option Addr) (n c g1 g2 : Nat) (w : World) (h1 : w.heap[g1]? = some (.cells #[.int .i64 rest, .slice A n c] 24 (0, 0))) (h2 : w.heap[g2]? = some (.cells #[.int .i64 m] 3 (0, 0)))
    (r0 : 0 ≤ rest) (r1 : rest ≤ 1000) (b0 : 0 ≤ b) (b1 : b ≤ 1000000) :
    Calls Try.prog 76 #[.agg #[.int .i64 a, .int .i64 b], .pointer (some ⟨g2, 0, none⟩), .pointer (some ⟨g1, 0, none⟩)] w fun e w' => e = .returned (.bool (inCrowd rest m ⟨a, b⟩)) ∧ Below w.heap.size w w' := by
  have c1 : w.cell? ⟨g1, 0, none⟩ = some (.int .i64 rest) := (blk_cell h1 0).trans rfl
  have c2 : w.cell? ⟨g2, 0, none⟩ = some (.int .i64 m) := (blk_cell h2 0).trans rfl
  have l1 := blk_lt h1
  have l2 := blk_lt h2
  by_cases ha : a ≤ m
  · have hd : inCrowd rest m ⟨a, b⟩ = decide (m < b + rest) := by simp [inCrowd, ha]
    go_enter Try.func76, Try.ntmps76
    go_wp2
    go_ret
    exact ⟨by rw [hd]; rfl, below_alloc (Below.refl _ _) _⟩
  · have hd : inCrowd rest m ⟨a, b⟩ = false := by simp [inCrowd, ha]
    have ha' : decide (a ≤ m) = false := by simpa using ha
    go_enter Try.func76, Try.ntmps76
    go_wp2
    go_ret
    exact ⟨rfl, below_alloc (Below.refl _ _) _⟩
theorem check_ok {rest : Int} {l : List S47} (h : checkE rest l = 0) : 0 ≤ rest ∧ rest ≤ 1000 ∧ l.length ≤ 40 ∧ l.all okSlot = true := by
  unfold checkE at h
  split at h
  · rename_i h1
    split at h
    · omega
    · split at h
      · exact ⟨h1.1, h1.2, by omega, by assumption⟩
      · omega
  · omega
theorem ok_bounds {x : S47} (h : okSlot x = true) : 0 ≤ x.f0 ∧ x.f0 < x.f1 ∧ x.f1 ≤ 1000000 := by
  unfold okSlot at h
  simp at h
  omega
/-- The crowd's numbers below k. -/
def crowdTo (rest : Int) (l : List S47) (m : Int) (k : Nat) : List Int := ((List.range k).filter (fun i => inCrowd rest m (l.getD i z47))).map (fun i : Nat => (i : Int))
theorem crowdTo_yes {rest : Int} {l : List S47} {m : Int} {k : Nat} (h : inCrowd rest m (rd_T47 l k) = true) : crowdTo rest l m (k + 1) = crowdTo rest l m k ++ [(k : Int)] := by
  have h' : inCrowd rest m (l[k]?.getD z47) = true := by simpa [rd_T47] using h
  unfold crowdTo
  rw [List.range_succ, List.filter_append, List.map_append]
  simp [h']
theorem crowdTo_no {rest : Int} {l : List S47} {m : Int} {k : Nat} (h : inCrowd rest m (rd_T47 l k) = false) : crowdTo rest l m (k + 1) = crowdTo rest l m k := by
  have h' : inCrowd rest m (l[k]?.getD z47) = false := by simpa [rd_T47] using h
  unfold crowdTo
  rw [List.range_succ, List.filter_append, List.map_append]
  simp [h']
theorem crowdTo_len (rest : Int) (l : List S47) (m : Int) (k : Nat) : (crowdTo rest l m k).length ≤ k := by
  unfold crowdTo
  rw [List.length_map]
  exact Nat.le_trans (List.length_filter_le _ _) (by simp)

set_option maxHeartbeats 2000000 in
theorem crowd_no (a0_0 : Int) (A0_1 : Option Addr) (c0_1 : Nat) (l0_1 : List (S47)) (a1 : Int) (w : World) (hr0_1 : Kd.C k47 w A0_1 l0_1.length l0_1) (hc0_1 : l0_1.length ≤ c0_1) (h : ¬ checkE a0_0 l0_1 = 0) :
    Calls Try.prog 16 #[.agg #[.int .i64 a0_0, .slice A0_1 l0_1.length c0_1], .int .i64 a1] w fun e w' => ∃ v0_ : Value, e = .returned (.tuple #[v0_, .int .i64 (checkE a0_0 l0_1)]) ∧ Kd.R (Kd.int .i64) 3 w' w.heap.size (fun _ => True) v0_ [] ∧ Below w.heap.size w w' := by
  have hcon := fun W (hb : Below w.heap.size w W) => punch_Check.calls a0_0 A0_1 c0_1 l0_1 _ W (Kd.C_below hr0_1 hb) hc0_1 rfl
  have hne : (checkE a0_0 l0_1 != 0) = true := by simpa using h
  clear h
  generalize checkE a0_0 l0_1 = z at *
  go_enter Try.func16, Try.ntmps16
  go_wp2_with (go_at_call 20; refine (hcon _ (below_alloc (Below.refl _ _) _)).mono ?_; rintro e w' ⟨rfl, hb⟩)
  go_ret2
  exact ⟨_, rfl, Kd.R_nil _ _ _ _ _, below_step (below_alloc (Below.refl _ _) _) hb⟩
set_option maxHeartbeats 4000000 in
theorem crowd_yes (a0_0 : Int) (A0_1 : Option Addr) (c0_1 : Nat) (l0_1 : List (S47)) (a1 : Int) (w : World) (hr0_1 : Kd.C k47 w A0_1 l0_1.length l0_1) (hc0_1 : l0_1.length ≤ c0_1) (h : checkE a0_0 l0_1 = 0) :
    Calls Try.prog 16 #[.agg #[.int .i64 a0_0, .slice A0_1 l0_1.length c0_1], .int .i64 a1] w fun e w' => ∃ v0_ : Value, e = .returned (.tuple #[v0_, .int .i64 0]) ∧ Kd.R (Kd.int .i64) 3 w' w.heap.size (fun _ => True) v0_ (crowdOf a0_0 l0_1 a1) ∧ Below w.heap.size w w' := by
  obtain ⟨r0, r1, hl, hok⟩ := check_ok h
  have hcon := fun W (hb : Below w.heap.size w W) => punch_Check.calls a0_0 A0_1 c0_1 l0_1 _ W (Kd.C_below hr0_1 hb) hc0_1 (congrArg some h)
  clear h
  have HOK := Aside0.mk hok
  clear hok
  go_enter Try.func16, Try.ntmps16
  have hbx := blk_new w (.cells #[.int .i64 a0_0, .slice A0_1 l0_1.length c0_1] 24)
  have HX := Aside0.mk hbx
  clear hbx
  go_wp2_with (first | (go_at_call 20; refine (hcon _ (below_alloc (Below.refl _ _) _)).mono ?_; rintro e w1 ⟨rfl, hb⟩; have HB1 := Aside0.mk (below_step (below_alloc (Below.refl w.heap.size w) _) hb); have HX1 := Aside0.mk (blk_below HX.out hb); have hc0 : w1.cell? ⟨w.heap.size, 0, none⟩ = some (.int .i64 a0_0) := (blk_cell HX1.out 0).trans rfl; have hc1 : w1.cell? ⟨w.heap.size, 1, none⟩ = some (.slice A0_1 l0_1.length c0_1) := (blk_cell HX1.out 1).trans rfl; clear hb HX) | (go_at_call 49; refine (crowd_calls _ _ _ _ _ _).mono ?_; rintro e w2 ⟨g1, g2, rfl, hg1, hg2, h1, h2, hb2⟩; have HX2 := Aside0.mk (blk_below HX1.out hb2); have HB2 := Aside0.mk (below_step HB1.out hb2); have HG1 := Aside0.mk h1; have HG2 := Aside0.mk h2; have hd1 : w2.cell? ⟨w.heap.size, 1, none⟩ = some (.slice A0_1 l0_1.length c0_1) := (blk_cell HX2.out 1).trans rfl; clear h1 h2 hb2 HX1))
  go_loopw [8, 22] (fun v8 v22 wr => ∃ k : Nat, k ≤ l0_1.length ∧ v22 = .int .i64 k ∧ Aside0 (Kd.R (Kd.int .i64) 3 wr w.heap.size (fun b => b ≠ g2) v8 (crowdTo a0_0 l0_1 a1 k)) ∧ Aside0 (wr.heap[g1]? = some (.cells #[.int .i64 a0_0, .slice A0_1 l0_1.length c0_1] 24 (0, 0))) ∧ Aside0 (wr.heap[g2]? = some (.cells #[.int .i64 a1] 3 (0, 0))) ∧ Aside0 (Below w.heap.size w wr)) (fun _ v22 _ => l0_1.length - (intOf v22).toNat)
  case atStart => exact ⟨0, Nat.zero_le _, rfl, ⟨Kd.R_nil _ _ _ _ _⟩, HG1, HG2, HB2⟩
  case round =>
    clear HG1 HG2 HB2 hd1 hc0 hc1
    obtain ⟨k, hk, rfl, HO, HG1, HG2, HB⟩ := hrel
    by_cases hlt : k < l0_1.length
    · have hlz : (k : Int) < (l0_1.length : Int) := by omega
      obtain ⟨ad, rfl, h0, h1⟩ := at_T47 hr0_1 (k : Int) (by omega) (by omega)
      replace h0 := (HB.out.cell (World.block_lt_of_cell? w _ h0)).trans h0
      replace h1 := (HB.out.cell (World.block_lt_of_cell? w _ h1)).trans h1
      simp only [Int.toNat_natCast] at h0 h1
      have hbd := ok_bounds (all_at HOK.out hlt)
      have hcl := fun W hA hB => in_calls a0_0 a1 (rd_T47 l0_1 (k : Int)).f0 (rd_T47 l0_1 (k : Int)).f1 (some ad) l0_1.length c0_1 g1 g2 W hA hB r0 r1 (by omega) hbd.2.2
      cases hg : inCrowd a0_0 a1 (rd_T47 l0_1 (k : Int)) with
      | true =>
        have hy := Aside0.mk (crowdTo_yes hg)
        have hln := crowdTo_len a0_0 l0_1 a1 k
        replace hcl := fun W hA hB => (show Calls _ _ _ W (fun e w' => e = .returned (.bool true) ∧ _) from hg ▸ hcl W hA hB)
        go_wp2_with (first | (go_at_call 76; refine (hcl _ (blk_alloc HG1.out _) (blk_alloc HG2.out _)).mono ?_; rintro e w3 ⟨rfl, hb3⟩; have HB3 := Aside0.mk (below_step (below_alloc HB.out _) hb3); have HO3 := Aside0.mk (Kd.R_below (Kd.R_alloc HO.out _) hb3); have HG13 := Aside0.mk (blk_below (blk_alloc HG1.out _) hb3); have HG23 := Aside0.mk (blk_below (blk_alloc HG2.out _) hb3); clear hb3 HB HO HG1 HG2) | ((with_reducible refine gate_builtin (b := .append) (xs := #[.tmp 30, .tmp 32]) rfl ?_); at_builtin; refine Kd.R_append (Kd.int .i64) (w0 := w) w.heap.size rfl (.tmp 30) (.tmp 32) 26 3 (.int .i64 0) 8 rfl Try.underlying26 info3 rfl (by decide) (by omega) u8 (crowdTo a0_0 l0_1 a1 k) (k : Int) [.int .i64 k] (fun b => b ≠ g2) (fun _ => False) rfl rfl ?aP (fun _ hk => hk.elim) ?aF ?aO ?aB ?aS ?aL ?_; (case aP => exact rfl); (case aB => exact HB3.out); (case aF => exact fun q hq => by have := blk_lt HG23.out; omega); (case aO => exact HO3.out); (case aS => exact HB3.out.size); (case aL => omega); intro v4 w4 ho hb hgr hat; have HO4 := Aside0.mk ho; have HB4 := Aside0.mk hb; have HG14 := Aside0.mk (blk_grown HG13.out hgr (Kd.R_ne HO3.out HG13.out (by decide))); have HG24 := Aside0.mk (blk_grown HG23.out hgr (fun e => HO3.out.1 g2 e.symm rfl)); clear ho hb hgr hat HO3 HB3 HG13 HG23))
        go_roundw
        case rel => exact ⟨k + 1, by omega, by go_num, ⟨by rw [hy.out]; exact HO4.out⟩, HG14, HG24, HB4⟩
        case measure => simp [intOf]; omega
      | false =>
        have hy := Aside0.mk (crowdTo_no hg)
        replace hcl := fun W hA hB => (show Calls _ _ _ W (fun e w' => e = .returned (.bool false) ∧ _) from hg ▸ hcl W hA hB)
        go_wp2_with (go_at_call 76; refine (hcl _ (blk_alloc HG1.out _) (blk_alloc HG2.out _)).mono ?_; rintro e w3 ⟨rfl, hb3⟩; have HB3 := Aside0.mk (below_step (below_alloc HB.out _) hb3); have HO3 := Aside0.mk (Kd.R_below (Kd.R_alloc HO.out _) hb3); have HG13 := Aside0.mk (blk_below (blk_alloc HG1.out _) hb3); have HG23 := Aside0.mk (blk_below (blk_alloc HG2.out _) hb3); clear hb3 HB HO HG1 HG2)
        go_roundw
        case rel => exact ⟨k + 1, by omega, by go_num, ⟨by rw [hy.out]; exact HO3.out⟩, HG13, HG23, HB3⟩
        case measure => simp [intOf]; omega
    · have hlz : ¬ (k : Int) < (l0_1.length : Int) := by omega
      go_wp2
      go_ret2
      exact ⟨_, rfl, Kd.R_mono (by rw [show k = l0_1.length from by omega] at HO; exact HO.out) (fun _ _ => trivial), HB.out⟩
theorem punch_Crowd.calls (a0_0 : Int) (A0_1 : Option Addr) (c0_1 : Nat) (l0_1 : List (S47)) (a1 : Int) (r1 : List Int) (r2 : Int) (w : World) (hr0_1 : Kd.C k47 w A0_1 l0_1.length l0_1) (hc0_1 : l0_1.length ≤ c0_1) (h : punch_Crowd.f a0_0 l0_1 a1 = some (r1, r2)) :
    Calls Try.prog 16 #[.agg #[.int .i64 a0_0, .slice A0_1 l0_1.length c0_1], .int .i64 a1] w fun e w' => ∃ v0_ : Value, e = .returned (.tuple #[v0_, .int .i64 r2]) ∧ Kd.R (Kd.int .i64) 3 w' w.heap.size (fun _ => True) v0_ r1 ∧ Below w.heap.size w w' := by
  unfold punch_Crowd.f at h
  split at h
  · simp only [Option.some.injEq, Prod.mk.injEq] at h
    obtain ⟨rfl, rfl⟩ := h
    exact crowd_yes a0_0 A0_1 c0_1 l0_1 a1 w hr0_1 hc0_1 (by assumption)
  · simp only [Option.some.injEq, Prod.mk.injEq] at h
    obtain ⟨rfl, rfl⟩ := h
    exact crowd_no a0_0 A0_1 c0_1 l0_1 a1 w hr0_1 hc0_1 (by assumption)
end Go.Proofs.Ytaaonhfaoaabbaa.X
