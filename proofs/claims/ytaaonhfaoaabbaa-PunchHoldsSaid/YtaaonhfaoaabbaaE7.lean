/- The calls of Bars. -/
import Derived.Test.YtaaonhfaoaabbaaE4
import Derived.RegionTactic
namespace Go.Proofs.Ytaaonhfaoaabbaa.X
open Go.Shelf Go.Proofs.YtaaonhfaoaabbaaF Go.RowKit Go.Proofs.YtaaonhfaoaabbaaW.PrintWords Go.Proofs.YtaaonhfaoaabbaaW.PrintLast Go.Proofs.YtaaonhfaoaabbaaW.PrintMore
attribute [local go_sem] Oper.semAt_some
theorem paper_eq (a b c d e : Int) : punch_Paper_good.f a b c d e = some (goodPaper a b c d e) := by
  unfold punch_Paper_good.f goodPaper
  simp only [between_eq]
  by_cases h1 : 900 ≤ a <;> by_cases h2 : a ≤ b <;> by_cases h3 : b ≤ 1100 <;> by_cases h4 : 1 ≤ c <;> by_cases h5 : c ≤ 1000 <;> by_cases h6 : 1 ≤ d <;> by_cases h7 : d ≤ 1000 <;> simp [h1, h2, h3, h4, h5, h6, h7, Option.bind]
theorem pair_put {w : World} {g t : Nat} {x y : Value} (u v : Value) (b : w.heap[g]? = some (.cells #[x, y] t (0, 0))) :
    ((w.setCell ⟨g, 0, none⟩ u).setCell ⟨g, 1, none⟩ v).heap[g]? = some (.cells #[u, v] t (0, 0)) ∧ ∀ (k : Nat) (o : Obj), k ≠ g → w.heap[k]? = some o → ((w.setCell ⟨g, 0, none⟩ u).setCell ⟨g, 1, none⟩ v).heap[k]? = some o := by
  have h1 := blk_put b 0 u (show _ = #[u, y] from rfl)
  have h2 := blk_put h1 1 v (show _ = #[u, v] from rfl)
  exact ⟨h2, fun k o hk ho => (Below.heap_setCell (w.setCell ⟨g, 0, none⟩ u) ⟨g, 1, none⟩ v k hk).trans ((Below.heap_setCell w ⟨g, 0, none⟩ u k hk).trans ho)⟩
theorem pair_below {w W : World} {g : Nat} (u v : Value) (h : Below w.heap.size w W) (hg : w.heap.size ≤ g) : Below w.heap.size w ((W.setCell ⟨g, 0, none⟩ u).setCell ⟨g, 1, none⟩ v) := below_set (below_set h hg) hg
theorem results_bars {fn : Func} {tmps : Array Value} {w : World} {a b c : Nat} {g g' t t' : Nat} {x y u v z : Value} (h : fn.results = #[.cell a 55, .cell b 55, .tmp c]) (h1 : tmps[a]?.getD undef = .pointer (some ⟨g, 0, none⟩)) (h2 : tmps[b]?.getD undef = .pointer (some ⟨g', 0, none⟩)) (h3 : tmps[c]?.getD undef = z)
    (h4 : w.heap[g]? = some (.cells #[x, y] t (0, 0))) (h5 : w.heap[g']? = some (.cells #[u, v] t' (0, 0))) : (results fn tmps).run Try.prog w = .ok (.tuple #[.agg #[x, y], .agg #[u, v], z]) w := by
  have i1 : (Sem.run Try.prog (isAgg 55) w) = .ok true w := by simp [go_sem]
  have c1 : w.cell? ⟨g, 0, none⟩ = some x := (blk_cell h4 0).trans rfl
  have c2 : w.cell? ⟨g, 1, none⟩ = some y := (blk_cell h4 1).trans rfl
  have c3 : w.cell? ⟨g', 0, none⟩ = some u := (blk_cell h5 0).trans rfl
  have c4 : w.cell? ⟨g', 1, none⟩ = some v := (blk_cell h5 1).trans rfl
  simp [results, h, h1, h2, h3, go_sem, c1, c2, c3, c4, i1]
set_option maxHeartbeats 4000000 in
set_option maxRecDepth 100000 in
theorem bars_bad (a0 a1 a2 a3 a4 : Int) (w : World) (h : goodPaper a0 a1 a2 a3 a4 = false) :
    Calls Try.prog 30 #[.agg #[.int .i64 a0, .int .i64 a1, .int .i64 a2, .int .i64 a3, .int .i64 a4]] w fun e w' => e = .returned (.tuple #[.agg #[.int .i64 0, .int .i64 0], .agg #[.int .i64 0, .int .i64 0], .int .i64 3]) ∧ Below w.heap.size w w' := by
  have hcon := fun W => punch_Paper_good.calls a0 a1 a2 a3 a4 _ W (paper_eq a0 a1 a2 a3 a4)
  rw [h] at hcon
  clear h
  obtain ⟨b1, b2, b3, hb0⟩ := three_allocs w (.cells #[.int .i64 a0, .int .i64 a1, .int .i64 a2, .int .i64 a3, .int .i64 a4] 57) (.cells #[.int .i64 0, .int .i64 0] 55) (.cells #[.int .i64 0, .int .i64 0] 55)
  go_enter Try.func30, Try.ntmps30
  go_wp2_with fail
  obtain ⟨W0, hW0⟩ : ∃ W0, ((w.alloc (.cells #[.int .i64 a0, .int .i64 a1, .int .i64 a2, .int .i64 a3, .int .i64 a4] 57)).alloc (.cells #[.int .i64 0, .int .i64 0] 55)).alloc (.cells #[.int .i64 0, .int .i64 0] 55) = W0 := ⟨_, rfl⟩
  rw [hW0] at b1 b2 b3 hb0 ⊢
  clear hW0
  refine (hcon W0).mono ?_
  rintro e w1 ⟨rfl, hb⟩
  have B2 := Aside0.mk (blk_below b2 hb)
  have B3 := Aside0.mk (blk_below b3 hb)
  have HB := Aside0.mk (below_step hb0 hb)
  have c20 : w1.cell? ⟨w.heap.size + 1, 0, none⟩ = some (.int .i64 0) := (blk_cell B2.out 0).trans rfl
  have c21 : w1.cell? ⟨w.heap.size + 1, 1, none⟩ = some (.int .i64 0) := (blk_cell B2.out 1).trans rfl
  have c30 : w1.cell? ⟨w.heap.size + 1 + 1, 0, none⟩ = some (.int .i64 0) := (blk_cell B3.out 0).trans rfl
  have c31 : w1.cell? ⟨w.heap.size + 1 + 1, 1, none⟩ = some (.int .i64 0) := (blk_cell B3.out 1).trans rfl
  have f20 := blk_frozen B2.out 0
  have f21 := blk_frozen B2.out 1
  have f30 := blk_frozen B3.out 0
  have f31 := blk_frozen B3.out 1
  clear b1 b2 b3 hb0 hb
  go_wp2
  obtain ⟨p2, k2⟩ := pair_put (Value.int .i64 0) (Value.int .i64 0) B2.out
  obtain ⟨p3, k3⟩ := pair_put (Value.int .i64 0) (Value.int .i64 0) (k2 _ _ (by omega) B3.out)
  exact bodyPost_ret (results_bars rfl rfl rfl rfl (k3 _ _ (by omega) p2) p3) rfl ⟨rfl, pair_below _ _ (pair_below _ _ HB.out (by omega)) (by omega)⟩
set_option maxHeartbeats 4000000 in
set_option maxRecDepth 100000 in
theorem bars_good (a0 a1 a2 a3 a4 r1 r2 r3 r4 r5 : Int) (w : World) (h : goodPaper a0 a1 a2 a3 a4 = true) (h2 : punch_Bars.f a0 a1 a2 a3 a4 = some (r1, r2, r3, r4, r5)) :
    Calls Try.prog 30 #[.agg #[.int .i64 a0, .int .i64 a1, .int .i64 a2, .int .i64 a3, .int .i64 a4]] w fun e w' => e = .returned (.tuple #[.agg #[.int .i64 r1, .int .i64 r2], .agg #[.int .i64 r3, .int .i64 r4], .int .i64 r5]) ∧ Below w.heap.size w w' := by
  have hcon := fun W => punch_Paper_good.calls a0 a1 a2 a3 a4 _ W (paper_eq a0 a1 a2 a3 a4)
  unfold punch_Bars.f at h2
  rw [h] at hcon h2
  rw [if_pos rfl] at h2
  unfold goodPaper at h
  simp only [Bool.and_eq_true, decide_eq_true_eq] at h
  obtain ⟨⟨⟨⟨⟨q0, q1⟩, q2⟩, q3, q4⟩, q5, q6⟩, q7, q8⟩ := h
  obtain ⟨b1, b2, b3, hb0⟩ := three_allocs w (.cells #[.int .i64 a0, .int .i64 a1, .int .i64 a2, .int .i64 a3, .int .i64 a4] 57) (.cells #[.int .i64 0, .int .i64 0] 55) (.cells #[.int .i64 0, .int .i64 0] 55)
  go_enter Try.func30, Try.ntmps30
  go_wp2_with fail
  obtain ⟨W0, hW0⟩ : ∃ W0, ((w.alloc (.cells #[.int .i64 a0, .int .i64 a1, .int .i64 a2, .int .i64 a3, .int .i64 a4] 57)).alloc (.cells #[.int .i64 0, .int .i64 0] 55)).alloc (.cells #[.int .i64 0, .int .i64 0] 55) = W0 := ⟨_, rfl⟩
  rw [hW0] at b1 b2 b3 hb0 ⊢
  clear hW0
  refine (hcon W0).mono ?_
  rintro e w1 ⟨rfl, hb⟩
  have B1 := Aside0.mk (blk_below b1 hb)
  have B2 := Aside0.mk (blk_below b2 hb)
  have B3 := Aside0.mk (blk_below b3 hb)
  have HB := Aside0.mk (below_step hb0 hb)
  have c10 : w1.cell? ⟨w.heap.size, 0, none⟩ = some (.int .i64 a0) := (blk_cell B1.out 0).trans rfl
  have c11 : w1.cell? ⟨w.heap.size, 1, none⟩ = some (.int .i64 a1) := (blk_cell B1.out 1).trans rfl
  have c12 : w1.cell? ⟨w.heap.size, 2, none⟩ = some (.int .i64 a2) := (blk_cell B1.out 2).trans rfl
  have c13 : w1.cell? ⟨w.heap.size, 3, none⟩ = some (.int .i64 a3) := (blk_cell B1.out 3).trans rfl
  have c14 : w1.cell? ⟨w.heap.size, 4, none⟩ = some (.int .i64 a4) := (blk_cell B1.out 4).trans rfl
  have f20 := blk_frozen B2.out 0
  have f21 := blk_frozen B2.out 1
  have l1 := blk_lt B1.out
  have l2 := blk_lt B2.out
  have l3 := blk_lt B3.out
  have c20 : w1.cell? ⟨w.heap.size + 1, 0, none⟩ = some (.int .i64 0) := (blk_cell B2.out 0).trans rfl
  have c21 : w1.cell? ⟨w.heap.size + 1, 1, none⟩ = some (.int .i64 0) := (blk_cell B2.out 1).trans rfl
  have H2 := Aside0.mk h2
  clear b1 b2 b3 hb0 hb h2
  go_wp2
  generalize 1000 * a2 / a1 = mo at H2 ⊢
  clear c20 c21 f20 f21 c12 c10 c11 c13 c14 l1 l2 l3
  obtain ⟨p2, k2⟩ := pair_put (Value.int .i64 1) (Value.int .i64 mo) B2.out
  have p1 := k2 _ _ (by omega) B1.out
  have p3 := k2 _ _ (by omega) B3.out
  have pB := pair_below (Value.int .i64 1) (Value.int .i64 mo) HB.out (show w.heap.size ≤ w.heap.size + 1 by omega)
  obtain ⟨W1, hW1⟩ : ∃ W1, ((w1.setCell { block := w.heap.size + 1, off := 0 } (Value.int IntKind.i64 1)).setCell { block := w.heap.size + 1, off := 1 } (Value.int IntKind.i64 mo)) = W1 := ⟨_, rfl⟩
  rw [hW1] at p1 p2 p3 pB ⊢
  clear hW1 k2 B1 B2 B3 HB
  have B1 := Aside0.mk p1
  have B2 := Aside0.mk p2
  have B3 := Aside0.mk p3
  have HB := Aside0.mk pB
  clear p1 p2 p3 pB
  have c10 : W1.cell? ⟨w.heap.size, 0, none⟩ = some (.int .i64 a0) := (blk_cell B1.out 0).trans rfl
  have c11 : W1.cell? ⟨w.heap.size, 1, none⟩ = some (.int .i64 a1) := (blk_cell B1.out 1).trans rfl
  have c13 : W1.cell? ⟨w.heap.size, 3, none⟩ = some (.int .i64 a3) := (blk_cell B1.out 3).trans rfl
  have c14 : W1.cell? ⟨w.heap.size, 4, none⟩ = some (.int .i64 a4) := (blk_cell B1.out 4).trans rfl
  have c30 : W1.cell? ⟨w.heap.size + 1 + 1, 0, none⟩ = some (.int .i64 0) := (blk_cell B3.out 0).trans rfl
  have c31 : W1.cell? ⟨w.heap.size + 1 + 1, 1, none⟩ = some (.int .i64 0) := (blk_cell B3.out 1).trans rfl
  have f30 := blk_frozen B3.out 0
  have f31 := blk_frozen B3.out 1
  have l1 := blk_lt B1.out
  have l2 := blk_lt B2.out
  have l3 := blk_lt B3.out
  have m1 : IntKind.i64.wrap (1000 * a3) = 1000 * a3 := IntWalk.i64_in _ (by omega)
  have m2 : IntKind.i64.wrap (1000 * a3 + a0) = 1000 * a3 + a0 := IntWalk.i64_in _ (by omega)
  have m3 : IntKind.i64.wrap (1000 * a3 + a0 - 1) = 1000 * a3 + a0 - 1 := IntWalk.i64_in _ (by omega)
  have m5 : IntKind.i64.wrap (1000 * a4) = 1000 * a4 := IntWalk.i64_in _ (by omega)
  have m6 : IntKind.i64.wrap (1000 * a4 - 1) = 1000 * a4 - 1 := IntWalk.i64_in _ (by omega)
  have z0 : (a0 == 0) = false := by rw [beq_eq_false_iff_ne]; omega
  have z1 : (a1 == 0) = false := by rw [beq_eq_false_iff_ne]; omega
  have z0' : ¬ a0 = 0 := by omega
  have z1' : ¬ a1 = 0 := by omega
  refine wpIn_wide.1 (wideIn_still_tail (n := 3) 21 mixed (by kernel_rfl) ?_)
  simp only [List.take_succ_cons, List.take_zero, List.drop_succ_cons, List.drop_zero]
  repeat still_step
  refine wpStill_nil ?_
  gi_wp2
  generalize (1000 * a3 + a0 - 1) / a0 = nl at H2 ⊢
  generalize (1000 * a4 - 1) / a1 = nh at H2 ⊢
  generalize IntKind.i64.wrap ((1000 * a3 + a0 - 1).tdiv a0) = x1
  generalize IntKind.i64.wrap ((1000 * a4 - 1).tdiv a1) = x2
  clear c10 c11 c13 c14 c30 c31 f30 f31 l1 l2 l3
  obtain ⟨p3, k3⟩ := pair_put (Value.int .i64 nl) (Value.int .i64 nh) B3.out
  have p2 := k3 _ _ (by omega) B2.out
  have pB := below_drew (pair_below (Value.int .i64 nl) (Value.int .i64 nh) HB.out (show w.heap.size ≤ w.heap.size + 1 + 1 by omega))
  obtain ⟨W2, hW2⟩ : ∃ W2, ((W1.setCell { block := w.heap.size + 1 + 1, off := 0 } (Value.int IntKind.i64 nl)).setCell { block := w.heap.size + 1 + 1, off := 1 } (Value.int IntKind.i64 nh)).drew = W2 := ⟨_, rfl⟩
  have p3' : W2.heap[w.heap.size + 1 + 1]? = some (.cells #[.int .i64 nl, .int .i64 nh] 55 (0, 0)) := by rw [← hW2]; exact p3
  have p2' : W2.heap[w.heap.size + 1]? = some (.cells #[.int .i64 1, .int .i64 mo] 55 (0, 0)) := by rw [← hW2]; exact p2
  rw [hW2] at pB ⊢
  clear hW2 k3 B1 B2 B3 HB p2 p3
  have B2 := Aside0.mk p2'
  have B3 := Aside0.mk p3'
  have HB := Aside0.mk pB
  have l2 := blk_lt p2'
  have l3 := blk_lt p3'
  clear p2' p3' pB
  have c20 : W2.cell? ⟨w.heap.size + 1, 0, none⟩ = some (.int .i64 1) := (blk_cell B2.out 0).trans rfl
  have c21 : W2.cell? ⟨w.heap.size + 1, 1, none⟩ = some (.int .i64 mo) := (blk_cell B2.out 1).trans rfl
  have c30 : W2.cell? ⟨w.heap.size + 1 + 1, 0, none⟩ = some (.int .i64 nl) := (blk_cell B3.out 0).trans rfl
  have c31 : W2.cell? ⟨w.heap.size + 1 + 1, 1, none⟩ = some (.int .i64 nh) := (blk_cell B3.out 1).trans rfl
  have f20 := blk_frozen B2.out 0
  have f21 := blk_frozen B2.out 1
  have f30 := blk_frozen B3.out 0
  have f31 := blk_frozen B3.out 1
  by_cases t1 : mo < 1
  · have hh := H2.out
    rw [if_pos t1] at hh
    obtain ⟨rfl, rfl, rfl, rfl, rfl⟩ : 0 = r1 ∧ 0 = r2 ∧ 0 = r3 ∧ 0 = r4 ∧ 20 = r5 := by simpa using hh
    clear hh
    go_wp2
    obtain ⟨p2, k2⟩ := pair_put (Value.int .i64 0) (Value.int .i64 0) B2.out
    obtain ⟨p3, k3⟩ := pair_put (Value.int .i64 0) (Value.int .i64 0) (k2 _ _ (by omega) B3.out)
    exact bodyPost_ret (results_bars rfl rfl rfl rfl (k3 _ _ (by omega) p2) p3) rfl ⟨rfl, pair_below _ _ (pair_below _ _ HB.out (by omega)) (by omega)⟩
  · by_cases t2 : nh < nl
    · have hh := H2.out
      rw [if_neg t1, if_pos t2] at hh
      obtain ⟨rfl, rfl, rfl, rfl, rfl⟩ : 1 = r1 ∧ mo = r2 ∧ 0 = r3 ∧ 0 = r4 ∧ 0 = r5 := by simpa using hh
      clear hh
      go_wp2
      clear c20 c21 f20 f21 c30 c31 f30 f31
      obtain ⟨p3, k3⟩ := pair_put (Value.int .i64 0) (Value.int .i64 0) B3.out
      have p2 := k3 _ _ (by omega) B2.out
      have pB := pair_below (Value.int .i64 0) (Value.int .i64 0) HB.out (show w.heap.size ≤ w.heap.size + 1 + 1 by omega)
      obtain ⟨W3, hW3⟩ : ∃ W3, ((W2.setCell { block := w.heap.size + 1 + 1, off := 0 } (Value.int IntKind.i64 0)).setCell { block := w.heap.size + 1 + 1, off := 1 } (Value.int IntKind.i64 0)) = W3 := ⟨_, rfl⟩
      rw [hW3] at p2 p3 pB ⊢
      clear hW3 k3 B2 B3 HB
      have B2 := Aside0.mk p2
      have B3 := Aside0.mk p3
      have HB := Aside0.mk pB
      have c20 : W3.cell? ⟨w.heap.size + 1, 0, none⟩ = some (.int .i64 1) := (blk_cell p2 0).trans rfl
      have c21 : W3.cell? ⟨w.heap.size + 1, 1, none⟩ = some (.int .i64 mo) := (blk_cell p2 1).trans rfl
      have c30 : W3.cell? ⟨w.heap.size + 1 + 1, 0, none⟩ = some (.int .i64 0) := (blk_cell p3 0).trans rfl
      have c31 : W3.cell? ⟨w.heap.size + 1 + 1, 1, none⟩ = some (.int .i64 0) := (blk_cell p3 1).trans rfl
      have f20 := blk_frozen p2 0
      have f21 := blk_frozen p2 1
      have f30 := blk_frozen p3 0
      have f31 := blk_frozen p3 1
      clear p2 p3 pB
      go_region
      go_wp2
      obtain ⟨p2, k2⟩ := pair_put (Value.int .i64 1) (Value.int .i64 mo) B2.out
      obtain ⟨p3, k3⟩ := pair_put (Value.int .i64 0) (Value.int .i64 0) (k2 _ _ (by omega) B3.out)
      exact bodyPost_ret (results_bars (w := World.drew _) rfl rfl rfl rfl (k3 _ _ (by omega) p2) p3) rfl ⟨rfl, below_drew (pair_below _ _ (pair_below _ _ HB.out (by omega)) (by omega))⟩
    · have hh := H2.out
      rw [if_neg t1, if_neg t2] at hh
      obtain ⟨rfl, rfl, rfl, rfl, rfl⟩ : 1 = r1 ∧ mo = r2 ∧ nl = r3 ∧ nh = r4 ∧ 0 = r5 := by simpa using hh
      clear hh
      go_wp2
      go_region
      go_wp2
      obtain ⟨p2, k2⟩ := pair_put (Value.int .i64 1) (Value.int .i64 mo) B2.out
      obtain ⟨p3, k3⟩ := pair_put (Value.int .i64 nl) (Value.int .i64 nh) (k2 _ _ (by omega) B3.out)
      exact bodyPost_ret (results_bars (w := World.drew _) rfl rfl rfl rfl (k3 _ _ (by omega) p2) p3) rfl ⟨rfl, below_drew (pair_below _ _ (pair_below _ _ HB.out (by omega)) (by omega))⟩
theorem punch_Bars.calls (a0_0 a0_1 a0_2 a0_3 a0_4 : Int) (r1 r2 r3 r4 r5 : Int) (w : World) (h : punch_Bars.f a0_0 a0_1 a0_2 a0_3 a0_4 = some (r1, r2, r3, r4, r5)) :
    Calls Try.prog 30 #[.agg #[.int .i64 a0_0, .int .i64 a0_1, .int .i64 a0_2, .int .i64 a0_3, .int .i64 a0_4]] w fun e w' => e = .returned (.tuple #[.agg #[.int .i64 r1, .int .i64 r2], .agg #[.int .i64 r3, .int .i64 r4], .int .i64 r5]) ∧ Below w.heap.size w w' := by
  cases hg : goodPaper a0_0 a0_1 a0_2 a0_3 a0_4 with
  | true => exact bars_good _ _ _ _ _ _ _ _ _ _ w hg h
  | false =>
    unfold punch_Bars.f at h
    rw [hg] at h
    obtain ⟨rfl, rfl, rfl, rfl, rfl⟩ : 0 = r1 ∧ 0 = r2 ∧ 0 = r3 ∧ 0 = r4 ∧ 3 = r5 := by simpa using h
    exact bars_bad _ _ _ _ _ w hg
end Go.Proofs.Ytaaonhfaoaabbaa.X
