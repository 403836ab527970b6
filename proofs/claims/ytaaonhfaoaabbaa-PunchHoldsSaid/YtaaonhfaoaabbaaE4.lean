/- The calls of planned, and of what asks whether numbers are passes. -/
import Derived.Test.YtaaonhfaoaabbaaE3
namespace Go.Proofs.Ytaaonhfaoaabbaa.X
open Go.Shelf Go.Proofs.YtaaonhfaoaabbaaF Go.RowKit Go.Proofs.YtaaonhfaoaabbaaW.PrintWords Go.Proofs.YtaaonhfaoaabbaaW.PrintLast Go.Proofs.YtaaonhfaoaabbaaW.PrintMore
attribute [local go_sem] Oper.semAt_some
/-- A number is a pass. -/
def okPass (x : Int) : Bool := decide (0 ≤ x) && decide (x ≤ 39)
set_option maxHeartbeats 400000 in
theorem badp_calls (a : Int) (w : World) : Calls Try.prog 86 #[.int .i64 a] w fun e w' => e = .returned (.bool (!okPass a)) ∧ ∃ n, w' = w.drewN n := by
  go_enter Try.func86, Try.ntmps86
  go_wp2_with (go_at_call 51; refine (punch_between.calls _ _ _ _ _ (between_eq _ _ _)).mono ?_; rintro e w' ⟨rfl, ⟨q, rfl⟩⟩)
  go_ret
  exact ⟨by unfold okPass; simp, q, rfl⟩
def Badps (l : List Int) (w : World) (e : Ending) (w' : World) : Prop := ∃ n : Int, e = .returned (.int .i64 n) ∧ decide (n ≥ 0) = !l.all okPass ∧ Below w.heap.size w w'
theorem rdi_get {l : List Int} {k : Nat} (hk : k < l.length) : rd l k = l[k] := by unfold rd; simp [List.getD_eq_getElem?_getD, hk]
theorem allp_false {l : List Int} {k : Nat} (hk : k < l.length) (h : okPass (rd l k) = false) : l.all okPass = false := by
  rw [List.all_eq_false]
  refine ⟨l[k], List.getElem_mem _, ?_⟩
  rw [← rdi_get hk]; simp [h]
theorem allp_true {l : List Int} (h : ∀ j : Nat, j < l.length → okPass (rd l j) = true) : l.all okPass = true := by
  rw [List.all_eq_true]
  intro x hx
  obtain ⟨j, hj, rfl⟩ := List.getElem_of_mem hx
  have := h j hj
  rwa [rdi_get hj] at this
theorem allp_at {l : List Int} (h : l.all okPass = true) {j : Nat} (hj : j < l.length) : okPass (rd l j) = true := by
  rw [rdi_get hj]; exact List.all_eq_true.1 h _ (List.getElem_mem _)
set_option maxHeartbeats 1000000 in
theorem indexp_calls (A : Option Addr) (c : Nat) (l : List Int) (w : World) (hr : Kd.C (Kd.int .i64) w A l.length l) (hl : l.length ≤ 9223372036854775807) :
    Calls Try.prog 94 #[.slice A l.length c, .func (.func 86) #[] #[]] w (Badps l w) := by
  go_enter Try.func94, Try.ntmps94
  go_wp2
  go_loopw [8] (fun i wr => ∃ k : Nat, k ≤ l.length ∧ i = .int .i64 k ∧ Aside0 (∀ j : Nat, j < k → okPass (rd l j) = true) ∧ Aside0 (Below w.heap.size w wr)) (fun i _ => l.length - (intOf i).toNat)
  case atStart => exact ⟨0, Nat.zero_le _, rfl, ⟨fun j h => by omega⟩, ⟨Below.refl _ _⟩⟩
  case round =>
    obtain ⟨k, hk, rfl, HA, HB⟩ := hrel
    by_cases hlt : k < l.length
    · have hlz : (k : Int) < (l.length : Int) := by omega
      obtain ⟨ad, rfl, h0⟩ := Kd.at_int hr (k : Int) (by omega) (by omega)
      replace h0 := (HB.out.cell (World.block_lt_of_cell? w _ h0)).trans h0
      simp only [Int.toNat_natCast] at h0
      cases hg : okPass (rd l (k : Int)) with
      | true =>
        go_wp2_with (go_at_call 86; refine (badp_calls _ _).mono ?_; rw [hg]; rintro e w' ⟨rfl, q, rfl⟩)
        go_roundw
        case rel => exact ⟨k + 1, by omega, by go_num, ⟨fun j h => by rcases Nat.lt_or_ge j k with h' | h'; exact HA.out j h'; have : j = k := by omega
                                                                      subst this; exact hg⟩, ⟨pw_below_drewN HB.out _⟩⟩
        case measure => simp [intOf]; omega
      | false =>
        go_wp2_with (go_at_call 86; refine (badp_calls _ _).mono ?_; rw [hg]; rintro e w' ⟨rfl, q, rfl⟩)
        go_ret
        exact ⟨k, rfl, by rw [allp_false hlt hg]; simp, pw_below_drewN HB.out _⟩
    · have hlz : ¬ (k : Int) < (l.length : Int) := by omega
      go_wp2
      go_ret
      exact ⟨-1, rfl, by rw [allp_true (fun j h => HA.out j (by omega))]; rfl, HB.out⟩
set_option maxHeartbeats 400000 in
theorem containsp_calls (A : Option Addr) (c : Nat) (l : List Int) (w : World) (hr : Kd.C (Kd.int .i64) w A l.length l) (hl : l.length ≤ 9223372036854775807) :
    Calls Try.prog 85 #[.slice A l.length c, .func (.func 86) #[] #[]] w fun e w' => e = .returned (.bool (!l.all okPass)) ∧ Below w.heap.size w w' := by
  have hh := indexp_calls A c l w hr hl
  go_enter Try.func85, Try.ntmps85
  go_wp2_with (go_at_call 94; refine hh.mono ?_; rintro e w' ⟨n, rfl, hn, hb⟩)
  go_ret
  exact ⟨by rw [← hn]; rfl, hb⟩
theorem three_allocs (w : World) (o1 o2 o3 : Obj) : (((w.alloc o1).alloc o2).alloc o3).heap[w.heap.size]? = some o1 ∧ (((w.alloc o1).alloc o2).alloc o3).heap[w.heap.size + 1]? = some o2 ∧
    (((w.alloc o1).alloc o2).alloc o3).heap[w.heap.size + 1 + 1]? = some o3 ∧ Below w.heap.size w (((w.alloc o1).alloc o2).alloc o3) := by
  refine ⟨blk_alloc (blk_alloc (blk_new w o1) _) _, ?_, ?_, below_alloc (below_alloc (below_alloc (Below.refl _ _) _) _) _⟩
  · have h := blk_alloc (blk_new (w.alloc o1) o2) o3
    rwa [World.size_alloc] at h
  · have h := blk_new ((w.alloc o1).alloc o2) o3
    rwa [World.size_alloc, World.size_alloc] at h
theorem two_put {w : World} {g g' t t' : Nat} {x y : Value} (u v : Value) (hne : g ≠ g') (b : w.heap[g]? = some (.cells #[x] t (0, 0))) (b' : w.heap[g']? = some (.cells #[y] t' (0, 0))) :
    ((w.setCell ⟨g, 0, none⟩ u).setCell ⟨g', 0, none⟩ v).cell? ⟨g, 0, none⟩ = some u ∧ ((w.setCell ⟨g, 0, none⟩ u).setCell ⟨g', 0, none⟩ v).cell? ⟨g', 0, none⟩ = some v := by
  have h1 := blk_put b 0 u (show _ = #[u] from rfl)
  have h2 := (Below.heap_setCell (w.setCell ⟨g, 0, none⟩ u) ⟨g', 0, none⟩ v g hne).trans h1
  have h3 := (Below.heap_setCell w ⟨g, 0, none⟩ u g' (Ne.symm hne)).trans b'
  have h4 := blk_put h3 0 v (show _ = #[v] from rfl)
  exact ⟨(blk_cell h2 0).trans rfl, (blk_cell h4 0).trans rfl⟩
theorem results_cell2 {fn : Func} {tmps : Array Value} {w : World} {a b : Nat} {g g' : Nat} {u v : Value} (h : fn.results = #[.cell a 104, .cell b 27]) (h1 : tmps[a]?.getD undef = .pointer (some ⟨g, 0, none⟩)) (h2 : tmps[b]?.getD undef = .pointer (some ⟨g', 0, none⟩))
    (h4 : w.cell? ⟨g, 0, none⟩ = some u) (h5 : w.cell? ⟨g', 0, none⟩ = some v) : (results fn tmps).run Try.prog w = .ok (.tuple #[u, v]) w := by
  have i1 : (Sem.run Try.prog (isAgg 104) w) = .ok false w := by simp [go_sem]
  simp [results, h, h1, h2, go_sem, h4, h5, i1]
/-- What planned hands back where the plan is refused. -/
def Refused (er : Int) (w : World) (e : Ending) (w' : World) : Prop := e = .returned (.tuple #[.pointer none, .int .i64 er]) ∧ Below w.heap.size w w'
set_option maxHeartbeats 2000000 in
theorem planned_check (a0_0 : Int) (A0_1 : Option Addr) (c0_1 : Nat) (l0_1 : List S47) (A1 : Option Addr) (c1 : Nat) (l1 : List Int) (w : World) (hr0_1 : Kd.C k47 w A0_1 l0_1.length l0_1) (hc0_1 : l0_1.length ≤ c0_1) (h : ¬ checkE a0_0 l0_1 = 0) :
    Calls Try.prog 68 #[.agg #[.int .i64 a0_0, .slice A0_1 l0_1.length c0_1], .slice A1 l1.length c1] w (Refused (checkE a0_0 l0_1) w) := by
  have hcon := fun W (hb : Below w.heap.size w W) => punch_Check.calls a0_0 A0_1 c0_1 l0_1 _ W (Kd.C_below hr0_1 hb) hc0_1 rfl
  have hne : (checkE a0_0 l0_1 != 0) = true := by simpa using h
  clear h
  generalize checkE a0_0 l0_1 = z at *
  obtain ⟨b2, b4, b5, hb0⟩ := three_allocs w (.cells #[.int .i64 a0_0, .slice A0_1 l0_1.length c0_1] 24) (.cells #[.pointer none] 104) (.cells #[.int .i64 0] 27)
  go_enter Try.func68, Try.ntmps68
  go_wp2_with fail
  obtain ⟨W0, hW0⟩ : ∃ W0, ((w.alloc (.cells #[.int .i64 a0_0, .slice A0_1 l0_1.length c0_1] 24)).alloc (.cells #[.pointer none] 104)).alloc (.cells #[.int .i64 0] 27) = W0 := ⟨_, rfl⟩
  rw [hW0] at b2 b4 b5 hb0 ⊢
  clear hW0
  refine (hcon W0 hb0).mono ?_
  rintro e w1 ⟨rfl, hb⟩
  have B4 := Aside0.mk (blk_below b4 hb)
  have B5 := Aside0.mk (blk_below b5 hb)
  have HB := Aside0.mk (below_step hb0 hb)
  have c4 : w1.cell? ⟨w.heap.size + 1, 0, none⟩ = some (.pointer none) := (blk_cell B4.out 0).trans rfl
  have c5 : w1.cell? ⟨w.heap.size + 1 + 1, 0, none⟩ = some (.int .i64 0) := (blk_cell B5.out 0).trans rfl
  have f4 := blk_frozen B4.out 0
  have f5 := blk_frozen B5.out 0
  clear b2 b4 b5 hb0 hb
  go_wp2
  obtain ⟨e4, e5⟩ := two_put (Value.pointer none) (Value.int .i64 z) (by omega) B4.out B5.out
  refine bodyPost_ret (v := .tuple #[.pointer none, .int .i64 z]) (results_cell2 rfl rfl rfl e4 e5) rfl ⟨rfl, below_set (below_set HB.out (by omega)) (by omega)⟩
set_option maxHeartbeats 2000000 in
theorem planned_len (a0_0 : Int) (A0_1 : Option Addr) (c0_1 : Nat) (l0_1 : List S47) (A1 : Option Addr) (c1 : Nat) (l1 : List Int) (w : World) (hr0_1 : Kd.C k47 w A0_1 l0_1.length l0_1) (hc0_1 : l0_1.length ≤ c0_1) (h : checkE a0_0 l0_1 = 0) (hlen : ((l1.length : Int) != (l0_1.length : Int)) = true) :
    Calls Try.prog 68 #[.agg #[.int .i64 a0_0, .slice A0_1 l0_1.length c0_1], .slice A1 l1.length c1] w (Refused 6 w) := by
  have hcon := fun W (hb : Below w.heap.size w W) => punch_Check.calls a0_0 A0_1 c0_1 l0_1 _ W (Kd.C_below hr0_1 hb) hc0_1 rfl
  rw [h] at hcon
  clear h
  obtain ⟨b2, b4, b5, hb0⟩ := three_allocs w (.cells #[.int .i64 a0_0, .slice A0_1 l0_1.length c0_1] 24) (.cells #[.pointer none] 104) (.cells #[.int .i64 0] 27)
  go_enter Try.func68, Try.ntmps68
  go_wp2_with fail
  obtain ⟨W0, hW0⟩ : ∃ W0, ((w.alloc (.cells #[.int .i64 a0_0, .slice A0_1 l0_1.length c0_1] 24)).alloc (.cells #[.pointer none] 104)).alloc (.cells #[.int .i64 0] 27) = W0 := ⟨_, rfl⟩
  rw [hW0] at b2 b4 b5 hb0 ⊢
  clear hW0
  refine (hcon W0 hb0).mono ?_
  rintro e w1 ⟨rfl, hb⟩
  have B2 := Aside0.mk (blk_below b2 hb)
  have B4 := Aside0.mk (blk_below b4 hb)
  have B5 := Aside0.mk (blk_below b5 hb)
  have HB := Aside0.mk (below_step hb0 hb)
  have c2 : w1.cell? ⟨w.heap.size, 1, none⟩ = some (.slice A0_1 l0_1.length c0_1) := (blk_cell B2.out 1).trans rfl
  have c4 : w1.cell? ⟨w.heap.size + 1, 0, none⟩ = some (.pointer none) := (blk_cell B4.out 0).trans rfl
  have c5 : w1.cell? ⟨w.heap.size + 1 + 1, 0, none⟩ = some (.int .i64 0) := (blk_cell B5.out 0).trans rfl
  have f4 := blk_frozen B4.out 0
  have f5 := blk_frozen B5.out 0
  have l2 := blk_lt B2.out
  clear b2 b4 b5 hb0 hb
  go_wp2
  obtain ⟨e4, e5⟩ := two_put (Value.pointer none) (Value.int .i64 6) (by omega) B4.out B5.out
  refine bodyPost_ret (v := .tuple #[.pointer none, .int .i64 6]) (results_cell2 rfl rfl rfl e4 e5) rfl ⟨rfl, below_set (below_set HB.out (by omega)) (by omega)⟩
set_option maxHeartbeats 2000000 in
theorem planned_range (a0_0 : Int) (A0_1 : Option Addr) (c0_1 : Nat) (l0_1 : List S47) (A1 : Option Addr) (c1 : Nat) (l1 : List Int) (w : World) (hr0_1 : Kd.C k47 w A0_1 l0_1.length l0_1) (hc0_1 : l0_1.length ≤ c0_1) (hr1 : Kd.C (Kd.int .i64) w A1 l1.length l1) (h : checkE a0_0 l0_1 = 0) (hlen : ((l1.length : Int) != (l0_1.length : Int)) = false) (hl : l1.length ≤ 40) (hall : l1.all okPass = false) :
    Calls Try.prog 68 #[.agg #[.int .i64 a0_0, .slice A0_1 l0_1.length c0_1], .slice A1 l1.length c1] w (Refused 3 w) := by
  have hcon := fun W (hb : Below w.heap.size w W) => punch_Check.calls a0_0 A0_1 c0_1 l0_1 _ W (Kd.C_below hr0_1 hb) hc0_1 rfl
  have hcon2 := fun W (hb : Below w.heap.size w W) => containsp_calls A1 c1 l1 W (Kd.C_below hr1 hb) (by omega)
  rw [h] at hcon
  rw [hall] at hcon2
  clear h hall
  obtain ⟨b2, b4, b5, hb0⟩ := three_allocs w (.cells #[.int .i64 a0_0, .slice A0_1 l0_1.length c0_1] 24) (.cells #[.pointer none] 104) (.cells #[.int .i64 0] 27)
  go_enter Try.func68, Try.ntmps68
  go_wp2_with fail
  obtain ⟨W0, hW0⟩ : ∃ W0, ((w.alloc (.cells #[.int .i64 a0_0, .slice A0_1 l0_1.length c0_1] 24)).alloc (.cells #[.pointer none] 104)).alloc (.cells #[.int .i64 0] 27) = W0 := ⟨_, rfl⟩
  rw [hW0] at b2 b4 b5 hb0 ⊢
  clear hW0
  refine (hcon W0 hb0).mono ?_
  rintro e w1 ⟨rfl, hb⟩
  have B2 := Aside0.mk (blk_below b2 hb)
  have B4 := Aside0.mk (blk_below b4 hb)
  have B5 := Aside0.mk (blk_below b5 hb)
  have HB := Aside0.mk (below_step hb0 hb)
  have c2 : w1.cell? ⟨w.heap.size, 1, none⟩ = some (.slice A0_1 l0_1.length c0_1) := (blk_cell B2.out 1).trans rfl
  have l2 := blk_lt B2.out
  clear b2 b4 b5 hb0 hb
  go_wp2_with fail
  refine (hcon2 _ HB.out).mono ?_
  rintro e w2 ⟨rfl, hb⟩
  have B4' := Aside0.mk (blk_below B4.out hb)
  have B5' := Aside0.mk (blk_below B5.out hb)
  have HB' := Aside0.mk (below_step HB.out hb)
  have c4 : w2.cell? ⟨w.heap.size + 1, 0, none⟩ = some (.pointer none) := (blk_cell B4'.out 0).trans rfl
  have c5 : w2.cell? ⟨w.heap.size + 1 + 1, 0, none⟩ = some (.int .i64 0) := (blk_cell B5'.out 0).trans rfl
  have f4 := blk_frozen B4'.out 0
  have f5 := blk_frozen B5'.out 0
  clear B4 B5 HB B2 c2 l2 hb
  go_wp2
  obtain ⟨e4, e5⟩ := two_put (Value.pointer none) (Value.int .i64 3) (by omega) B4'.out B5'.out
  refine bodyPost_ret (v := .tuple #[.pointer none, .int .i64 3]) (results_cell2 rfl rfl rfl e4 e5) rfl ⟨rfl, below_set (below_set HB'.out (by omega)) (by omega)⟩
end Go.Proofs.Ytaaonhfaoaabbaa.X
