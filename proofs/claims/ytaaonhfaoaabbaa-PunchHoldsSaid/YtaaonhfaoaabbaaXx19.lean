-- Written by a program (the kit's print, some functions told as proved by hand). Not trusted: Lean checks it.
import Derived.Test.YtaaonhfaoaabbaaXx0
import Derived.Test.YtaaonhfaoaabbaaWs
import Derived.Test.YtaaonhfaoaabbaaXx35
namespace Go.Proofs.Ytaaonhfaoaabbaa.X
open Go.RowKit Go.Proofs.YtaaonhfaoaabbaaW.PrintWords Go.Proofs.YtaaonhfaoaabbaaW.PrintLast Go.Proofs.YtaaonhfaoaabbaaW.PrintMore
attribute [local go_sem] max2_int min2_int max_two min_two max_three min_three max_four min_four   -- for this text's walks alone
set_option linter.unusedVariables false
set_option linter.unusedSimpArgs false

/-! ### pianolaref03_Bars: function 31 -/
mutual
def pianolaref03_Bars.l0 : Nat → Int → Int → Int → Int → Int → Int → Int → Int → Int → Int → Option (Int × Int × Int × Int × Int)
 | 0, _, _, _, _, _, _, _, _, _, _ => none
 | k + 1, x8, x397000, x397001, x397002, x397003, x397004, x401000, x401001, x402000, x402001 => if x8 ≤ 1200 then ((pianolaref03_hole.f x397000 x397001 x397002 x397003 x397004 x8).bind fun t402 => (if t402 = true then (pianolaref03_Bars.j1 k x8 x397000 x397001 x397002 x397003 x397004 1 x8 x402000 x402001) else (pianolaref03_Bars.j1 k x8 x397000 x397001 x397002 x397003 x397004 x401000 x401001 x402000 x402001))) else (if x401001 = 0 then (some (0, 0, 0, 0, 20)) else (some (x401000, x401001, x402000, x402001, 0)))
def pianolaref03_Bars.j1 : Nat → Int → Int → Int → Int → Int → Int → Int → Int → Int → Int → Option (Int × Int × Int × Int × Int)
 | 0, _, _, _, _, _, _, _, _, _, _ => none
 | k + 1, x8, x397000, x397001, x397002, x397003, x397004, x401000, x401001, x402000, x402001 => (pianolaref03_bridge.f x397000 x397001 x397002 x397003 x397004 x8).bind fun t403 => (if t403 = true then (if x402000 = 0 then (pianolaref03_Bars.l0 k (wrap64 (x8 + 1)) x397000 x397001 x397002 x397003 x397004 x401000 x401001 x8 x8) else (pianolaref03_Bars.l0 k (wrap64 (x8 + 1)) x397000 x397001 x397002 x397003 x397004 x401000 x401001 x402000 x8)) else (pianolaref03_Bars.l0 k (wrap64 (x8 + 1)) x397000 x397001 x397002 x397003 x397004 x401000 x401001 x402000 x402001))
end
def pianolaref03_Bars.f (k : Nat) (a0_0 : Int) (a0_1 : Int) (a0_2 : Int) (a0_3 : Int) (a0_4 : Int) : Option (Int × Int × Int × Int × Int) := (pianolaref03_paper.f a0_0 a0_1 a0_2 a0_3 a0_4).bind fun t399 => (if t399 = 0 then (pianolaref03_Bars.l0 k 1 a0_0 a0_1 a0_2 a0_3 a0_4 0 0 0 0) else (some (0, 0, 0, 0, t399)))
theorem pianolaref03_Bars.mono_l : ∀ k, (∀ y0 y1 y2 y3 y4 y5 y6 y7 y8 y9, LeO (pianolaref03_Bars.l0 k y0 y1 y2 y3 y4 y5 y6 y7 y8 y9) (pianolaref03_Bars.l0 (k + 1) y0 y1 y2 y3 y4 y5 y6 y7 y8 y9)) ∧ (∀ y0 y1 y2 y3 y4 y5 y6 y7 y8 y9, LeO (pianolaref03_Bars.j1 k y0 y1 y2 y3 y4 y5 y6 y7 y8 y9) (pianolaref03_Bars.j1 (k + 1) y0 y1 y2 y3 y4 y5 y6 y7 y8 y9))
 | 0 => ⟨fun _ _ _ _ _ _ _ _ _ _ r h => by simp [pianolaref03_Bars.l0] at h, fun _ _ _ _ _ _ _ _ _ _ r h => by simp [pianolaref03_Bars.j1] at h⟩
 | k + 1 => by
  obtain ⟨ih0, ih1⟩ := pianolaref03_Bars.mono_l k
  refine ⟨?_, ?_⟩
  · intro y0 y1 y2 y3 y4 y5 y6 y7 y8 y9
    unfold pianolaref03_Bars.l0
    repeat' first
    | (with_reducible exact ih0 _ _ _ _ _ _ _ _ _ _)
    | (with_reducible exact ih1 _ _ _ _ _ _ _ _ _ _)
    | (with_reducible exact LeO.refl _)
    | (with_reducible exact LeO.none _)
    | (with_reducible refine LeO.ite ?_ ?_)
    | (with_reducible refine LeO.bind ?_ (fun _ => ?_))
    | exact ih0 _ _ _ _ _ _ _ _ _ _
    | exact ih1 _ _ _ _ _ _ _ _ _ _
    | exact LeO.none _
    | refine LeO.ite ?_ ?_
    | refine LeO.bind ?_ (fun _ => ?_)
  · intro y0 y1 y2 y3 y4 y5 y6 y7 y8 y9
    unfold pianolaref03_Bars.j1
    repeat' first
    | (with_reducible exact ih0 _ _ _ _ _ _ _ _ _ _)
    | (with_reducible exact ih1 _ _ _ _ _ _ _ _ _ _)
    | (with_reducible exact LeO.refl _)
    | (with_reducible exact LeO.none _)
    | (with_reducible refine LeO.ite ?_ ?_)
    | (with_reducible refine LeO.bind ?_ (fun _ => ?_))
    | exact ih0 _ _ _ _ _ _ _ _ _ _
    | exact ih1 _ _ _ _ _ _ _ _ _ _
    | exact LeO.none _
    | refine LeO.ite ?_ ?_
    | refine LeO.bind ?_ (fun _ => ?_)
theorem pianolaref03_Bars.mono : ∀ a0 a1 a2 a3 a4 k, LeO (pianolaref03_Bars.f k a0 a1 a2 a3 a4) (pianolaref03_Bars.f (k + 1) a0 a1 a2 a3 a4) := by
 intro a0 a1 a2 a3 a4 k
 obtain ⟨ih0, ih1⟩ := pianolaref03_Bars.mono_l k
 unfold pianolaref03_Bars.f
 repeat' first
  | (with_reducible exact ih0 _ _ _ _ _ _ _ _ _ _)
  | (with_reducible exact ih1 _ _ _ _ _ _ _ _ _ _)
  | (with_reducible exact LeO.refl _)
  | (with_reducible exact LeO.none _)
  | (with_reducible refine LeO.ite ?_ ?_)
  | (with_reducible refine LeO.bind ?_ (fun _ => ?_))
  | exact ih0 _ _ _ _ _ _ _ _ _ _
  | exact ih1 _ _ _ _ _ _ _ _ _ _
  | exact LeO.none _
  | refine LeO.ite ?_ ?_
  | refine LeO.bind ?_ (fun _ => ?_)
set_option maxHeartbeats 8000000 in
set_option maxRecDepth 100000 in
theorem pianolaref03_Bars.calls (k : Nat) (a0_0 : Int) (a0_1 : Int) (a0_2 : Int) (a0_3 : Int) (a0_4 : Int) (r1 : Int) (r2 : Int) (r3 : Int) (r4 : Int) (r5 : Int) (w : World) (h : pianolaref03_Bars.f k a0_0 a0_1 a0_2 a0_3 a0_4 = some (r1, r2, r3, r4, r5)) :
 Calls Try.prog 31 #[.agg #[.int .i64 a0_0, .int .i64 a0_1, .int .i64 a0_2, .int .i64 a0_3, .int .i64 a0_4]] w fun e w' => e = .returned (.tuple #[.agg #[.int .i64 r1, .int .i64 r2], .agg #[.int .i64 r3, .int .i64 r4], .int .i64 r5]) ∧ Below w.heap.size w w' := by
 have hu58 := Try.underlying58
 have hu55 := Try.underlying55
 have HB := Aside0.mk (Below.refl w.heap.size w)
 have H : ((pianolaref03_paper.f a0_0 a0_1 a0_2 a0_3 a0_4).bind fun t399 => (if t399 = 0 then (pianolaref03_Bars.l0 k 1 a0_0 a0_1 a0_2 a0_3 a0_4 0 0 0 0) else (some (0, 0, 0, 0, t399)))) = some (r1, r2, r3, r4, r5) := h
 clear h
 replace H := Option.bind_eq_some_iff.mp H
 obtain ⟨t399, A20, H⟩ := H
 replace H : (if t399 = 0 then (pianolaref03_Bars.l0 k 1 a0_0 a0_1 a0_2 a0_3 a0_4 0 0 0 0) else (some (0, 0, 0, 0, t399))) = some (r1, r2, r3, r4, r5) := H
 have A2 := Aside0.mk A20
 clear A20
 by_cases c3 : t399 = 0
 · rw [if_pos c3] at H
   have c3b0 : (t399 == 0) = true := beq_iff_eq.mpr c3
   have c3b1 : (t399 != 0) = false := bne_eq_false_iff_eq.mpr c3
   clear c3
   have H' := Aside0.mk H
   clear H
   go_enter Try.func31, Try.ntmps31
   go_wp2_with (first | ((with_reducible refine gate_dst (N := 1) rfl ?_); refine box_event ?hg (N := 1) ?hd (cs := #[.int .i64 a0_0, .int .i64 a0_1, .int .i64 a0_2, .int .i64 a0_3, .int .i64 a0_4]) (t := 58) ?hr ?_; (case hd => rfl); (case hg => rfl); (case hr => first | (go_simp; done) | (go_simp; rfl)); intro gb396 hg w4 hbox hb; have BK396 := Aside0.mk (hbox); have GW396 := bgw_ HB hg; have GE396 := bgw_ HB hg; replace HB := bls_ HB hb; clear hb hbox hg) | ((with_reducible refine gate_dst (N := 2) rfl ?_); refine box_event ?hg (N := 2) ?hd (cs := #[.int .i64 0, .int .i64 0]) (t := 55) ?hr ?_; (case hd => rfl); (case hg => rfl); (case hr => first | (go_simp; done) | (go_simp; rfl)); intro gb397 hg w5 hbox hb; have BK397 := Aside0.mk (hbox); have GW397 := bgw_ HB hg; have GE397 := bgw_ HB hg; have NB396_397 := bnl_ BK396 hg; have NB397_396 := bng_ BK396 hg; replace BK396 := bkb_ BK396 hb; replace HB := bls_ HB hb; clear hb hbox hg) | ((with_reducible refine gate_dst (N := 3) rfl ?_); refine box_event ?hg (N := 3) ?hd (cs := #[.int .i64 0, .int .i64 0]) (t := 55) ?hr ?_; (case hd => rfl); (case hg => rfl); (case hr => first | (go_simp; done) | (go_simp; rfl)); intro gb398 hg w6 hbox hb; have BK398 := Aside0.mk (hbox); have GW398 := bgw_ HB hg; have GE398 := bgw_ HB hg; have NB396_398 := bnl_ BK396 hg; have NB398_396 := bng_ BK396 hg; have NB397_398 := bnl_ BK397 hg; have NB398_397 := bng_ BK397 hg; replace BK396 := bkb_ BK396 hb; replace BK397 := bkb_ BK397 hb; replace HB := bls_ HB hb; clear hb hbox hg; have hnb7 := NB396_397.out; have hnc7 := NB397_396.out; have hnb8 := NB396_398.out; have hnc8 := NB398_396.out; have hcz9_0 := bkc_ BK396 0 (.int .i64 a0_0) rfl; have hcz9_1 := bkc_ BK396 1 (.int .i64 a0_1) rfl; have hcz9_2 := bkc_ BK396 2 (.int .i64 a0_2) rfl; have hcz9_3 := bkc_ BK396 3 (.int .i64 a0_3) rfl; have hcz9_4 := bkc_ BK396 4 (.int .i64 a0_4) rfl; have hfz9_0 := blk_frozen BK396.out 0; have hfz9_1 := blk_frozen BK396.out 1; have hfz9_2 := blk_frozen BK396.out 2; have hfz9_3 := blk_frozen BK396.out 3; have hfz9_4 := blk_frozen BK396.out 4) | ((with_reducible refine gate_callee (f := 71) rfl ?_); refine goesL_ (some 10) rfl rfl Try.func71 (by kernel_rfl) rfl #[.agg #[.int .i64 a0_0, .int .i64 a0_1, .int .i64 a0_2, .int .i64 a0_3, .int .i64 a0_4]] rfl (by (try simp only [List.map_toArray, List.map_cons, List.map_nil]); first | done | rfl | (simp only [List.length_drop, List.length_take]; rfl)) ?_; (with_reducible refine (pianolaref03_paper.calls a0_0 a0_1 a0_2 a0_3 a0_4 t399 _ A2.out).mono ?_); rintro e w10 ⟨rfl, hb⟩; refine ⟨_, rfl, ?_⟩; replace BK396 := bkb_ BK396 hb; replace BK397 := bkb_ BK397 hb; replace BK398 := bkb_ BK398 hb; replace HB := bls_ HB hb; (try clear hb); (try clear hb2); (try clear hk); (try clear hi)) | ((with_reducible refine gate_dst (N := 6) rfl ?_); refine box_event ?hg (N := 6) ?hd (cs := #[.int .i64 0, .int .i64 0]) (t := 55) ?hr ?_; (case hd => rfl); (case hg => rfl); (case hr => first | (go_simp; done) | (go_simp; rfl)); intro gb400 hg w11 hbox hb; have BK400 := Aside0.mk (hbox); have GW400 := bgw_ HB hg; have GE400 := bgw_ HB hg; have NB396_400 := bnl_ BK396 hg; have NB400_396 := bng_ BK396 hg; have NB397_400 := bnl_ BK397 hg; have NB400_397 := bng_ BK397 hg; have NB398_400 := bnl_ BK398 hg; have NB400_398 := bng_ BK398 hg; replace BK396 := bkb_ BK396 hb; replace BK397 := bkb_ BK397 hb; replace BK398 := bkb_ BK398 hb; replace HB := bls_ HB hb; clear hb hbox hg) | ((with_reducible refine gate_dst (N := 7) rfl ?_); refine box_event ?hg (N := 7) ?hd (cs := #[.int .i64 0, .int .i64 0]) (t := 55) ?hr ?_; (case hd => rfl); (case hg => rfl); (case hr => first | (go_simp; done) | (go_simp; rfl)); intro gb401 hg w12 hbox hb; have BK401 := Aside0.mk (hbox); have GW401 := bgw_ HB hg; have GE401 := bgw_ HB hg; have NB396_401 := bnl_ BK396 hg; have NB401_396 := bng_ BK396 hg; have NB397_401 := bnl_ BK397 hg; have NB401_397 := bng_ BK397 hg; have NB398_401 := bnl_ BK398 hg; have NB401_398 := bng_ BK398 hg; have NB400_401 := bnl_ BK400 hg; have NB401_400 := bng_ BK400 hg; replace BK396 := bkb_ BK396 hb; replace BK397 := bkb_ BK397 hb; replace BK398 := bkb_ BK398 hb; replace BK400 := bkb_ BK400 hb; replace HB := bls_ HB hb; clear hb hbox hg))
   go_loopg [8] k (fun kq v8 w' => ∃ (x8_1 : Int) (x401000_1 : Int) (x401001_1 : Int) (x402000_1 : Int) (x402001_1 : Int), v8 = .int .i64 x8_1 ∧ Aside0 (pianolaref03_Bars.l0 kq x8_1 a0_0 a0_1 a0_2 a0_3 a0_4 x401000_1 x401001_1 x402000_1 x402001_1 = some (r1, r2, r3, r4, r5)) ∧ Aside0 (kq ≤ k) ∧ Aside0 (w'.heap[gb396]? = some (.cells #[.int .i64 a0_0, .int .i64 a0_1, .int .i64 a0_2, .int .i64 a0_3, .int .i64 a0_4] 58 (0, 0))) ∧ Aside0 (w'.heap[gb397]? = some (.cells #[.int .i64 0, .int .i64 0] 55 (0, 0))) ∧ Aside0 (w'.heap[gb398]? = some (.cells #[.int .i64 0, .int .i64 0] 55 (0, 0))) ∧ Aside0 (w'.heap[gb400]? = some (.cells #[.int .i64 x401000_1, .int .i64 x401001_1] 55 (0, 0))) ∧ Aside0 (w'.heap[gb401]? = some (.cells #[.int .i64 x402000_1, .int .i64 x402001_1] 55 (0, 0))) ∧ Aside0 (Below w.heap.size w w'))
   case atStart => exact ⟨(1), (0), (0), (0), (0), (by first | rfl | (simp; done) | (simp [*]; done)), H', ⟨Nat.le_refl _⟩, bkx_ BK396, bkx_ BK397, bkx_ BK398, bkx_ BK400, bkx_ BK401, blx_ HB⟩
   case round =>
    clear H'
    try clear p2
    try clear c3
    try clear c3b0
    try clear c3b1
    try clear c7
    try clear c8
    try clear hcz9_0
    try clear hcz9_1
    try clear hcz9_2
    try clear hcz9_3
    try clear hcz9_4
    try clear hfz9_0
    try clear hfz9_1
    try clear hfz9_2
    try clear hfz9_3
    try clear hfz9_4
    obtain ⟨x8_1, x401000_1, x401001_1, x402000_1, x402001_1, rfl, HA, HK1, BK396, BK397, BK398, BK400, BK401, HB⟩ := hrel
    cases gk with
    | zero => exact absurd HA.out (by simp [pianolaref03_Bars.l0])
    | succ k1 =>
     have H := HA.out
     clear HA
     simp only [pianolaref03_Bars.l0] at H
     by_cases c13 : x8_1 ≤ 1200
     · rw [if_pos c13] at H
       have c13b0 : decide (x8_1 ≤ 1200) = true := decide_eq_true c13
       clear c13
       replace H := Option.bind_eq_some_iff.mp H
       obtain ⟨t402, A140, H⟩ := H
       replace H : (if t402 = true then (pianolaref03_Bars.j1 k1 x8_1 a0_0 a0_1 a0_2 a0_3 a0_4 1 x8_1 x402000_1 x402001_1) else (pianolaref03_Bars.j1 k1 x8_1 a0_0 a0_1 a0_2 a0_3 a0_4 x401000_1 x401001_1 x402000_1 x402001_1)) = some (r1, r2, r3, r4, r5) := H
       have A14 := Aside0.mk A140
       clear A140
       have HC15 := Aside0.mk H
       clear H
       have hnb16 := NB396_397.out
       have hnc16 := NB397_396.out
       have hnb17 := NB396_398.out
       have hnc17 := NB398_396.out
       have hnb18 := NB396_400.out
       have hnc18 := NB400_396.out
       have hnb19 := NB396_401.out
       have hnc19 := NB401_396.out
       have hcz20_0 := bkc_ BK396 0 (.int .i64 a0_0) rfl
       have hcz20_1 := bkc_ BK396 1 (.int .i64 a0_1) rfl
       have hcz20_2 := bkc_ BK396 2 (.int .i64 a0_2) rfl
       have hcz20_3 := bkc_ BK396 3 (.int .i64 a0_3) rfl
       have hcz20_4 := bkc_ BK396 4 (.int .i64 a0_4) rfl
       have hfz20_0 := blk_frozen BK396.out 0
       have hfz20_1 := blk_frozen BK396.out 1
       have hfz20_2 := blk_frozen BK396.out 2
       have hfz20_3 := blk_frozen BK396.out 3
       have hfz20_4 := blk_frozen BK396.out 4
       go_upto_if 22 with (first | ((with_reducible refine gate_callee (f := 72) rfl ?_); refine goesL_ (some 22) rfl rfl Try.func72 (by kernel_rfl) rfl #[.agg #[.int .i64 a0_0, .int .i64 a0_1, .int .i64 a0_2, .int .i64 a0_3, .int .i64 a0_4], .int .i64 x8_1] rfl (by (try simp only [List.map_toArray, List.map_cons, List.map_nil]); first | done | rfl | (simp only [List.length_drop, List.length_take]; rfl)) ?_; (with_reducible refine (pianolaref03_hole.calls a0_0 a0_1 a0_2 a0_3 a0_4 x8_1 t402 _ A14.out).mono ?_); rintro e w21 ⟨rfl, hb⟩; refine ⟨_, rfl, ?_⟩; replace BK396 := bkb_ BK396 hb; replace BK397 := bkb_ BK397 hb; replace BK398 := bkb_ BK398 hb; replace BK400 := bkb_ BK400 hb; replace BK401 := bkb_ BK401 hb; replace HB := bls_ HB hb; (try clear hb); (try clear hb2); (try clear hk); (try clear hi)))
       (try simp only [Act.put, List.setIfInBounds_toArray, List.set_cons_zero, List.set_cons_succ])
       go_cut [] (fun wc => ∃ (kq : Nat) (x401000_14 : Int) (x401001_14 : Int), Aside0 (pianolaref03_Bars.j1 kq x8_1 a0_0 a0_1 a0_2 a0_3 a0_4 x401000_14 x401001_14 x402000_1 x402001_1 = some (r1, r2, r3, r4, r5)) ∧ Aside0 (kq ≤ k1) ∧ Aside0 (wc.heap[gb396]? = some (.cells #[.int .i64 a0_0, .int .i64 a0_1, .int .i64 a0_2, .int .i64 a0_3, .int .i64 a0_4] 58 (0, 0))) ∧ Aside0 (wc.heap[gb397]? = some (.cells #[.int .i64 0, .int .i64 0] 55 (0, 0))) ∧ Aside0 (wc.heap[gb398]? = some (.cells #[.int .i64 0, .int .i64 0] 55 (0, 0))) ∧ Aside0 (wc.heap[gb400]? = some (.cells #[.int .i64 x401000_14, .int .i64 x401001_14] 55 (0, 0))) ∧ Aside0 (wc.heap[gb401]? = some (.cells #[.int .i64 x402000_1, .int .i64 x402001_1] 55 (0, 0))) ∧ Aside0 (Below w.heap.size w wc))
       case first =>
        have H := HC15.out
        clear HC15
        by_cases c22 : t402 = true
        · subst c22
          have H1 : (pianolaref03_Bars.j1 k1 x8_1 a0_0 a0_1 a0_2 a0_3 a0_4 1 x8_1 x402000_1 x402001_1) = some (r1, r2, r3, r4, r5) := by rw [if_pos rfl] at H; exact H
          clear H
          have H := H1
          clear H1
          have H' := Aside0.mk H
          clear H
          have hnb23 := NB400_396.out
          have hnc23 := NB396_400.out
          have hnb24 := NB400_397.out
          have hnc24 := NB397_400.out
          have hnb25 := NB400_398.out
          have hnc25 := NB398_400.out
          have hnb26 := NB400_401.out
          have hnc26 := NB401_400.out
          have hcz27_0 := bkc_ BK400 0 (.int .i64 x401000_1) rfl
          have hcz27_1 := bkc_ BK400 1 (.int .i64 x401001_1) rfl
          have hfz27_0 := blk_frozen BK400.out 0
          have hfz27_1 := blk_frozen BK400.out 1
          go_wp2
          go_meet
          case rel => exact ⟨_, (1), (x8_1), H', ⟨by have := HK1.out; first | omega | exact Nat.le_refl _⟩, bkx_ BK396, bkx_ BK397, bkx_ BK398, ⟨by (with_reducible repeat (first | refine blk_drewN ?_ _ | refine blk_drew ?_ | refine blk_alloc ?_ _)); refine blk_put (cs := #[.int .i64 1, .int .i64 x401001_1]) ?_ 1 _ rfl; (with_reducible repeat (first | refine blk_drewN ?_ _ | refine blk_drew ?_ | refine blk_alloc ?_ _)); refine blk_put (cs := #[.int .i64 x401000_1, .int .i64 x401001_1]) ?_ 0 _ rfl; (with_reducible repeat (first | refine blk_drewN ?_ _ | refine blk_drew ?_ | refine blk_alloc ?_ _)); exact BK400.out⟩, bkx_ BK401, blx_ HB⟩
        · replace c22 := Bool.eq_false_iff.mpr c22
          subst c22
          have H1 : (pianolaref03_Bars.j1 k1 x8_1 a0_0 a0_1 a0_2 a0_3 a0_4 x401000_1 x401001_1 x402000_1 x402001_1) = some (r1, r2, r3, r4, r5) := by rw [if_neg (show ¬ (false = true) by decide)] at H; exact H
          clear H
          have H := H1
          clear H1
          have H' := Aside0.mk H
          clear H
          go_wp2
          go_meet
          case rel => exact ⟨_, (x401000_1), (x401001_1), H', ⟨by have := HK1.out; first | omega | exact Nat.le_refl _⟩, bkx_ BK396, bkx_ BK397, bkx_ BK398, bkx_ BK400, bkx_ BK401, blx_ HB⟩
       case rest =>
        clear HC15
        try clear c1
        try clear c2
        try clear p2
        try clear c3
        try clear c3b0
        try clear c3b1
        try clear c7
        try clear c8
        try clear c13
        try clear c13b0
        try clear c16
        try clear c17
        try clear c18
        try clear c19
        try clear c22
        try clear c23
        try clear c24
        try clear c25
        try clear c26
        try clear hcz20_0
        try clear hcz20_1
        try clear hcz20_2
        try clear hcz20_3
        try clear hcz20_4
        try clear hcz27_0
        try clear hcz27_1
        try clear hcz9_0
        try clear hcz9_1
        try clear hcz9_2
        try clear hcz9_3
        try clear hcz9_4
        try clear hfz20_0
        try clear hfz20_1
        try clear hfz20_2
        try clear hfz20_3
        try clear hfz20_4
        try clear hfz27_0
        try clear hfz27_1
        try clear hfz9_0
        try clear hfz9_1
        try clear hfz9_2
        try clear hfz9_3
        try clear hfz9_4
        try clear p2
        obtain ⟨kq, x401000_14, x401001_14, HA, HJ14, BK396, BK397, BK398, BK400, BK401, HB⟩ := hcut
        cases kq with
        | zero => exact absurd HA.out (by simp [pianolaref03_Bars.j1])
        | succ kj14 =>
         have H := HA.out
         clear HA
         simp only [pianolaref03_Bars.j1] at H
         replace H := Option.bind_eq_some_iff.mp H
         obtain ⟨t403, A280, H⟩ := H
         replace H : (if t403 = true then (if x402000_1 = 0 then (pianolaref03_Bars.l0 kj14 (wrap64 (x8_1 + 1)) a0_0 a0_1 a0_2 a0_3 a0_4 x401000_14 x401001_14 x8_1 x8_1) else (pianolaref03_Bars.l0 kj14 (wrap64 (x8_1 + 1)) a0_0 a0_1 a0_2 a0_3 a0_4 x401000_14 x401001_14 x402000_1 x8_1)) else (pianolaref03_Bars.l0 kj14 (wrap64 (x8_1 + 1)) a0_0 a0_1 a0_2 a0_3 a0_4 x401000_14 x401001_14 x402000_1 x402001_1)) = some (r1, r2, r3, r4, r5) := H
         have A28 := Aside0.mk A280
         clear A280
         by_cases c29 : t403 = true
         · subst c29
           have H1 : (if x402000_1 = 0 then (pianolaref03_Bars.l0 kj14 (wrap64 (x8_1 + 1)) a0_0 a0_1 a0_2 a0_3 a0_4 x401000_14 x401001_14 x8_1 x8_1) else (pianolaref03_Bars.l0 kj14 (wrap64 (x8_1 + 1)) a0_0 a0_1 a0_2 a0_3 a0_4 x401000_14 x401001_14 x402000_1 x8_1)) = some (r1, r2, r3, r4, r5) := by rw [if_pos rfl] at H; exact H
           clear H
           have H := H1
           clear H1
           by_cases c30 : x402000_1 = 0
           · rw [if_pos c30] at H
             have c30b0 : (x402000_1 == 0) = true := beq_iff_eq.mpr c30
             have c30b1 : (x402000_1 != 0) = false := bne_eq_false_iff_eq.mpr c30
             clear c30
             have H' := Aside0.mk H
             clear H
             have hnb31 := NB396_397.out
             have hnc31 := NB397_396.out
             have hnb32 := NB396_398.out
             have hnc32 := NB398_396.out
             have hnb33 := NB396_400.out
             have hnc33 := NB400_396.out
             have hnb34 := NB396_401.out
             have hnc34 := NB401_396.out
             have hcz35_0 := bkc_ BK396 0 (.int .i64 a0_0) rfl
             have hcz35_1 := bkc_ BK396 1 (.int .i64 a0_1) rfl
             have hcz35_2 := bkc_ BK396 2 (.int .i64 a0_2) rfl
             have hcz35_3 := bkc_ BK396 3 (.int .i64 a0_3) rfl
             have hcz35_4 := bkc_ BK396 4 (.int .i64 a0_4) rfl
             have hfz35_0 := blk_frozen BK396.out 0
             have hfz35_1 := blk_frozen BK396.out 1
             have hfz35_2 := blk_frozen BK396.out 2
             have hfz35_3 := blk_frozen BK396.out 3
             have hfz35_4 := blk_frozen BK396.out 4
             go_wp2_with (first | ((with_reducible refine gate_callee (f := 73) rfl ?_); refine goesL_ (some 27) rfl rfl Try.func73 (by kernel_rfl) rfl #[.agg #[.int .i64 a0_0, .int .i64 a0_1, .int .i64 a0_2, .int .i64 a0_3, .int .i64 a0_4], .int .i64 x8_1] rfl (by (try simp only [List.map_toArray, List.map_cons, List.map_nil]); first | done | rfl | (simp only [List.length_drop, List.length_take]; rfl)) ?_; (with_reducible refine (pianolaref03_bridge.calls a0_0 a0_1 a0_2 a0_3 a0_4 x8_1 true _ A28.out).mono ?_); rintro e w36 ⟨rfl, hb⟩; refine ⟨_, rfl, ?_⟩; replace BK396 := bkb_ BK396 hb; replace BK397 := bkb_ BK397 hb; replace BK398 := bkb_ BK398 hb; replace BK400 := bkb_ BK400 hb; replace BK401 := bkb_ BK401 hb; replace HB := bls_ HB hb; (try clear hb); (try clear hb2); (try clear hk); (try clear hi); have hnb37 := NB401_397.out; have hnc37 := NB397_401.out; have hnb38 := NB401_398.out; have hnc38 := NB398_401.out; have hnb39 := NB401_400.out; have hnc39 := NB400_401.out; have hcz40_0 := bkc_ BK401 0 (.int .i64 x402000_1) rfl; have hcz40_1 := bkc_ BK401 1 (.int .i64 x402001_1) rfl; have hfz40_0 := blk_frozen BK401.out 0; have hfz40_1 := blk_frozen BK401.out 1))
             go_roundg kj14
             case measure => have := HK1.out; have := HJ14.out; omega
             case rel => exact ⟨(wrap64 (x8_1 + 1)), (x401000_14), (x401001_14), (x8_1), (x8_1), (by first | rfl | (simp; done) | (simp [*]; done)), H', ⟨by have := HK1.out; have := HJ14.out; omega⟩, bkx_ BK396, bkx_ BK397, bkx_ BK398, bkx_ BK400, ⟨by (with_reducible repeat (first | refine blk_drewN ?_ _ | refine blk_drew ?_ | refine blk_alloc ?_ _)); refine blk_put (cs := #[.int .i64 x8_1, .int .i64 x402001_1]) ?_ 1 _ rfl; (with_reducible repeat (first | refine blk_drewN ?_ _ | refine blk_drew ?_ | refine blk_alloc ?_ _)); refine blk_put (cs := #[.int .i64 x402000_1, .int .i64 x402001_1]) ?_ 0 _ rfl; (with_reducible repeat (first | refine blk_drewN ?_ _ | refine blk_drew ?_ | refine blk_alloc ?_ _)); exact BK401.out⟩, blx_ HB⟩
           · rw [if_neg c30] at H
             have c30b0 : (x402000_1 == 0) = false := beq_eq_false_iff_ne.mpr c30
             have c30b1 : (x402000_1 != 0) = true := bne_iff_ne.mpr c30
             have H' := Aside0.mk H
             clear H
             have hnb41 := NB396_397.out
             have hnc41 := NB397_396.out
             have hnb42 := NB396_398.out
             have hnc42 := NB398_396.out
             have hnb43 := NB396_400.out
             have hnc43 := NB400_396.out
             have hnb44 := NB396_401.out
             have hnc44 := NB401_396.out
             have hcz45_0 := bkc_ BK396 0 (.int .i64 a0_0) rfl
             have hcz45_1 := bkc_ BK396 1 (.int .i64 a0_1) rfl
             have hcz45_2 := bkc_ BK396 2 (.int .i64 a0_2) rfl
             have hcz45_3 := bkc_ BK396 3 (.int .i64 a0_3) rfl
             have hcz45_4 := bkc_ BK396 4 (.int .i64 a0_4) rfl
             have hfz45_0 := blk_frozen BK396.out 0
             have hfz45_1 := blk_frozen BK396.out 1
             have hfz45_2 := blk_frozen BK396.out 2
             have hfz45_3 := blk_frozen BK396.out 3
             have hfz45_4 := blk_frozen BK396.out 4
             go_wp2_with (first | ((with_reducible refine gate_callee (f := 73) rfl ?_); refine goesL_ (some 27) rfl rfl Try.func73 (by kernel_rfl) rfl #[.agg #[.int .i64 a0_0, .int .i64 a0_1, .int .i64 a0_2, .int .i64 a0_3, .int .i64 a0_4], .int .i64 x8_1] rfl (by (try simp only [List.map_toArray, List.map_cons, List.map_nil]); first | done | rfl | (simp only [List.length_drop, List.length_take]; rfl)) ?_; (with_reducible refine (pianolaref03_bridge.calls a0_0 a0_1 a0_2 a0_3 a0_4 x8_1 true _ A28.out).mono ?_); rintro e w46 ⟨rfl, hb⟩; refine ⟨_, rfl, ?_⟩; replace BK396 := bkb_ BK396 hb; replace BK397 := bkb_ BK397 hb; replace BK398 := bkb_ BK398 hb; replace BK400 := bkb_ BK400 hb; replace BK401 := bkb_ BK401 hb; replace HB := bls_ HB hb; (try clear hb); (try clear hb2); (try clear hk); (try clear hi); have hnb47 := NB401_397.out; have hnc47 := NB397_401.out; have hnb48 := NB401_398.out; have hnc48 := NB398_401.out; have hnb49 := NB401_400.out; have hnc49 := NB400_401.out; have hcz50_0 := bkc_ BK401 0 (.int .i64 x402000_1) rfl; have hcz50_1 := bkc_ BK401 1 (.int .i64 x402001_1) rfl; have hfz50_0 := blk_frozen BK401.out 0; have hfz50_1 := blk_frozen BK401.out 1))
             go_roundg kj14
             case measure => have := HK1.out; have := HJ14.out; omega
             case rel => exact ⟨(wrap64 (x8_1 + 1)), (x401000_14), (x401001_14), (x402000_1), (x8_1), (by first | rfl | (simp; done) | (simp [*]; done)), H', ⟨by have := HK1.out; have := HJ14.out; omega⟩, bkx_ BK396, bkx_ BK397, bkx_ BK398, bkx_ BK400, ⟨by (with_reducible repeat (first | refine blk_drewN ?_ _ | refine blk_drew ?_ | refine blk_alloc ?_ _)); refine blk_put (cs := #[.int .i64 x402000_1, .int .i64 x402001_1]) ?_ 1 _ rfl; (with_reducible repeat (first | refine blk_drewN ?_ _ | refine blk_drew ?_ | refine blk_alloc ?_ _)); exact BK401.out⟩, blx_ HB⟩
         · replace c29 := Bool.eq_false_iff.mpr c29
           subst c29
           have H1 : (pianolaref03_Bars.l0 kj14 (wrap64 (x8_1 + 1)) a0_0 a0_1 a0_2 a0_3 a0_4 x401000_14 x401001_14 x402000_1 x402001_1) = some (r1, r2, r3, r4, r5) := by rw [if_neg (show ¬ (false = true) by decide)] at H; exact H
           clear H
           have H := H1
           clear H1
           have H' := Aside0.mk H
           clear H
           have hnb51 := NB396_397.out
           have hnc51 := NB397_396.out
           have hnb52 := NB396_398.out
           have hnc52 := NB398_396.out
           have hnb53 := NB396_400.out
           have hnc53 := NB400_396.out
           have hnb54 := NB396_401.out
           have hnc54 := NB401_396.out
           have hcz55_0 := bkc_ BK396 0 (.int .i64 a0_0) rfl
           have hcz55_1 := bkc_ BK396 1 (.int .i64 a0_1) rfl
           have hcz55_2 := bkc_ BK396 2 (.int .i64 a0_2) rfl
           have hcz55_3 := bkc_ BK396 3 (.int .i64 a0_3) rfl
           have hcz55_4 := bkc_ BK396 4 (.int .i64 a0_4) rfl
           have hfz55_0 := blk_frozen BK396.out 0
           have hfz55_1 := blk_frozen BK396.out 1
           have hfz55_2 := blk_frozen BK396.out 2
           have hfz55_3 := blk_frozen BK396.out 3
           have hfz55_4 := blk_frozen BK396.out 4
           go_wp2_with (first | ((with_reducible refine gate_callee (f := 73) rfl ?_); refine goesL_ (some 27) rfl rfl Try.func73 (by kernel_rfl) rfl #[.agg #[.int .i64 a0_0, .int .i64 a0_1, .int .i64 a0_2, .int .i64 a0_3, .int .i64 a0_4], .int .i64 x8_1] rfl (by (try simp only [List.map_toArray, List.map_cons, List.map_nil]); first | done | rfl | (simp only [List.length_drop, List.length_take]; rfl)) ?_; (with_reducible refine (pianolaref03_bridge.calls a0_0 a0_1 a0_2 a0_3 a0_4 x8_1 false _ A28.out).mono ?_); rintro e w56 ⟨rfl, hb⟩; refine ⟨_, rfl, ?_⟩; replace BK396 := bkb_ BK396 hb; replace BK397 := bkb_ BK397 hb; replace BK398 := bkb_ BK398 hb; replace BK400 := bkb_ BK400 hb; replace BK401 := bkb_ BK401 hb; replace HB := bls_ HB hb; (try clear hb); (try clear hb2); (try clear hk); (try clear hi)))
           go_roundg kj14
           case measure => have := HK1.out; have := HJ14.out; omega
           case rel => exact ⟨(wrap64 (x8_1 + 1)), (x401000_14), (x401001_14), (x402000_1), (x402001_1), (by first | rfl | (simp; done) | (simp [*]; done)), H', ⟨by have := HK1.out; have := HJ14.out; omega⟩, bkx_ BK396, bkx_ BK397, bkx_ BK398, bkx_ BK400, bkx_ BK401, blx_ HB⟩
     · rw [if_neg c13] at H
       have c13b0 : decide (x8_1 ≤ 1200) = false := decide_eq_false c13
       clear c13
       by_cases c57 : x401001_1 = 0
       · rw [if_pos c57] at H
         have c57b0 : (x401001_1 == 0) = true := beq_iff_eq.mpr c57
         have c57b1 : (x401001_1 != 0) = false := bne_eq_false_iff_eq.mpr c57
         clear c57
         simp only [Option.some.injEq, Prod.mk.injEq] at H
         obtain ⟨rfl, rfl, rfl, rfl, rfl⟩ := H
         have hnb58 := NB400_396.out
         have hnc58 := NB396_400.out
         have hnb59 := NB400_397.out
         have hnc59 := NB397_400.out
         have hnb60 := NB400_398.out
         have hnc60 := NB398_400.out
         have hnb61 := NB400_401.out
         have hnc61 := NB401_400.out
         have hcz62_0 := bkc_ BK400 0 (.int .i64 x401000_1) rfl
         have hcz62_1 := bkc_ BK400 1 (.int .i64 x401001_1) rfl
         have hfz62_0 := blk_frozen BK400.out 0
         have hfz62_1 := blk_frozen BK400.out 1
         have hnb63 := NB397_396.out
         have hnc63 := NB396_397.out
         have hnb64 := NB397_398.out
         have hnc64 := NB398_397.out
         have hnb65 := NB397_401.out
         have hnc65 := NB401_397.out
         have hcz66_0 := bkc_ BK397 0 (.int .i64 0) rfl
         have hcz66_1 := bkc_ BK397 1 (.int .i64 0) rfl
         have hfz66_0 := blk_frozen BK397.out 0
         have hfz66_1 := blk_frozen BK397.out 1
         have hnb67 := NB398_396.out
         have hnc67 := NB396_398.out
         have hnb68 := NB398_401.out
         have hnc68 := NB401_398.out
         have hcz69_0 := bkc_ BK398 0 (.int .i64 0) rfl
         have hcz69_1 := bkc_ BK398 1 (.int .i64 0) rfl
         have hfz69_0 := blk_frozen BK398.out 0
         have hfz69_1 := blk_frozen BK398.out 1
         go_wp2
         refine bodyPost_ret (results_list (rs := [.cell 2 55, .cell 3 55, .tmp 4]) rfl (by simp) (.cell gb397 55 #[.int .i64 0, .int .i64 0] (0, 0) _ rfl (by (with_reducible repeat (first | refine blk_drewN ?_ _ | refine blk_drew ?_ | refine blk_alloc ?_ _)); refine blk_far ?_ NB397_398.out _; (with_reducible repeat (first | refine blk_drewN ?_ _ | refine blk_drew ?_ | refine blk_alloc ?_ _)); refine blk_far ?_ NB397_398.out _; (with_reducible repeat (first | refine blk_drewN ?_ _ | refine blk_drew ?_ | refine blk_alloc ?_ _)); refine blk_put (cs := #[.int .i64 0, .int .i64 0]) ?_ 1 _ rfl; (with_reducible repeat (first | refine blk_drewN ?_ _ | refine blk_drew ?_ | refine blk_alloc ?_ _)); refine blk_put (cs := #[.int .i64 0, .int .i64 0]) ?_ 0 _ rfl; (with_reducible repeat (first | refine blk_drewN ?_ _ | refine blk_drew ?_ | refine blk_alloc ?_ _)); exact BK397.out) Try.underlying55 rfl (by kernel_rfl) (.cell gb398 55 #[.int .i64 0, .int .i64 0] (0, 0) _ rfl (by (with_reducible repeat (first | refine blk_drewN ?_ _ | refine blk_drew ?_ | refine blk_alloc ?_ _)); refine blk_put (cs := #[.int .i64 0, .int .i64 0]) ?_ 1 _ rfl; (with_reducible repeat (first | refine blk_drewN ?_ _ | refine blk_drew ?_ | refine blk_alloc ?_ _)); refine blk_put (cs := #[.int .i64 0, .int .i64 0]) ?_ 0 _ rfl; (with_reducible repeat (first | refine blk_drewN ?_ _ | refine blk_drew ?_ | refine blk_alloc ?_ _)); refine blk_far ?_ NB398_397.out _; (with_reducible repeat (first | refine blk_drewN ?_ _ | refine blk_drew ?_ | refine blk_alloc ?_ _)); refine blk_far ?_ NB398_397.out _; (with_reducible repeat (first | refine blk_drewN ?_ _ | refine blk_drew ?_ | refine blk_alloc ?_ _)); exact BK398.out) Try.underlying55 rfl (by kernel_rfl) (.tmp .nil)))) rfl ?_
         exact ⟨by first | rfl | (simp [errW_none, errW_some] <;> rfl) | (simp [*, errW_none, errW_some] <;> rfl), by repeat (first | (with_reducible first | exact HB.out | apply below_alloc | apply pw_below_drewN | apply below_drew1 | refine below_set ?_ GE396.out | refine below_set ?_ GE397.out | refine below_set ?_ GE398.out | refine below_set ?_ GE400.out | refine below_set ?_ GE401.out) | exact HB.out)⟩
       · rw [if_neg c57] at H
         have c57b0 : (x401001_1 == 0) = false := beq_eq_false_iff_ne.mpr c57
         have c57b1 : (x401001_1 != 0) = true := bne_iff_ne.mpr c57
         simp only [Option.some.injEq, Prod.mk.injEq] at H
         obtain ⟨rfl, rfl, rfl, rfl, rfl⟩ := H
         have hnb70 := NB400_396.out
         have hnc70 := NB396_400.out
         have hnb71 := NB400_397.out
         have hnc71 := NB397_400.out
         have hnb72 := NB400_398.out
         have hnc72 := NB398_400.out
         have hnb73 := NB400_401.out
         have hnc73 := NB401_400.out
         have hcz74_0 := bkc_ BK400 0 (.int .i64 x401000_1) rfl
         have hcz74_1 := bkc_ BK400 1 (.int .i64 x401001_1) rfl
         have hfz74_0 := blk_frozen BK400.out 0
         have hfz74_1 := blk_frozen BK400.out 1
         try go_wp2
         have n0_ := Aside0.mk (blk_drew BK396.out)
         have n1_ := Aside0.mk (blk_drew BK397.out)
         have n2_ := Aside0.mk (blk_drew BK398.out)
         have n3_ := Aside0.mk (blk_drew BK400.out)
         have n4_ := Aside0.mk (blk_drew BK401.out)
         have n5_ := Aside0.mk (below_drew1 HB.out)
         clear BK396
         clear BK397
         clear BK398
         clear BK400
         clear BK401
         clear HB
         have BK396 := n0_
         have BK397 := n1_
         have BK398 := n2_
         have BK400 := n3_
         have BK401 := n4_
         have HB := n5_
         clear n0_ n1_ n2_ n3_ n4_ n5_
         refine start_ (n := 5) (S := fun w' => w'.cell? ⟨gb400, 0, none⟩ = some (.int .i64 x401000_1) ∧ w'.cell? ⟨gb400, 1, none⟩ = some (.int .i64 x401001_1) ∧ w'.cell? ⟨gb401, 0, none⟩ = some (.int .i64 x402000_1) ∧ w'.cell? ⟨gb401, 1, none⟩ = some (.int .i64 x402001_1)) (ds := []) #[false, false, false, false, false] (by kernel_rfl) rfl rfl ⟨(blk_cell BK400.out 0).trans rfl, (blk_cell BK400.out 1).trans rfl, (blk_cell BK401.out 0).trans rfl, (blk_cell BK401.out 1).trans rfl⟩ (fun hHeld => ?_)
         generalize wr.drew = w75 at BK396 BK397 BK398 BK400 BK401 HB hHeld ⊢
         refine take_ (i := 0) (N := some 40) (v := ?_) (a' := ?_) #[true, false, false, false, false] rfl rfl (by kernel_rfl) (fun _ _ _ h => h) (Or.inl ⟨by rfl, ?_⟩) hHeld ?_ ?_
         rotate_left
         · rintro w' ⟨s0, s1, s2, s3⟩
           go_simp
           with_reducible rfl
         rotate_left
         · simp only [Act.put, List.setIfInBounds_toArray, List.set_cons_zero, List.set_cons_succ, i64_w, i32_w]
           rfl
         refine take_ (i := 1) (N := some 41) (v := ?_) (a' := ?_) #[true, true, false, false, false] rfl rfl (by kernel_rfl) (fun _ _ _ h => h) (Or.inl ⟨by rfl, ?_⟩) hHeld ?_ ?_
         rotate_left
         · rintro w' ⟨s0, s1, s2, s3⟩
           go_simp
           with_reducible rfl
         rotate_left
         · simp only [Act.put, List.setIfInBounds_toArray, List.set_cons_zero, List.set_cons_succ, i64_w, i32_w]
           rfl
         refine one_ (i := 2) (N := none) #[true, true, true, false, false] rfl rfl (by kernel_rfl) (by decide) (fun K hK => ?_)
         have hs76 := bkc_ BK397 0 (.int .i64 0) rfl
         have hfs76 := blk_frozen BK397.out 0
         have hns76_0 := NB396_397.out
         have hns76_2 := NB398_397.out
         have hns76_3 := NB400_397.out
         have hns76_4 := NB401_397.out
         have hms76_0 := NB397_396.out
         have hms76_2 := NB397_398.out
         have hms76_3 := NB397_400.out
         have hms76_4 := NB397_401.out
         have hs77 := bkc_ BK397 1 (.int .i64 0) rfl
         have hfs77 := blk_frozen BK397.out 1
         have hns77_0 := NB396_397.out
         have hns77_2 := NB398_397.out
         have hns77_3 := NB400_397.out
         have hns77_4 := NB401_397.out
         have hms77_0 := NB397_396.out
         have hms77_2 := NB397_398.out
         have hms77_3 := NB397_400.out
         have hms77_4 := NB397_401.out
         refine skip_ (w1 := ?_) (by rfl) rfl ?_ ?_
         rotate_left
         · go_simp
           rfl
         refine hK.out _ _ ⟨((cell_far (p := ⟨gb397, _, none⟩) NB400_397.out _).trans (((cell_far (p := ⟨gb397, _, none⟩) NB400_397.out _).trans (hHeld.1)))), ((cell_far (p := ⟨gb397, _, none⟩) NB400_397.out _).trans (((cell_far (p := ⟨gb397, _, none⟩) NB400_397.out _).trans (hHeld.2.1)))), ((cell_far (p := ⟨gb397, _, none⟩) NB401_397.out _).trans (((cell_far (p := ⟨gb397, _, none⟩) NB401_397.out _).trans (hHeld.2.2.1)))), ((cell_far (p := ⟨gb397, _, none⟩) NB401_397.out _).trans (((cell_far (p := ⟨gb397, _, none⟩) NB401_397.out _).trans (hHeld.2.2.2))))⟩ (fun hHeld => ?_)
         clear hK K
         refine one_ (i := 3) (N := none) #[true, true, true, true, false] rfl rfl (by kernel_rfl) (by decide) (fun K hK => ?_)
         have hs78 := bkc_ BK398 0 (.int .i64 0) rfl
         have hfs78 := blk_frozen BK398.out 0
         have hns78_0 := NB396_398.out
         have hns78_1 := NB397_398.out
         have hns78_3 := NB400_398.out
         have hns78_4 := NB401_398.out
         have hms78_0 := NB398_396.out
         have hms78_1 := NB398_397.out
         have hms78_3 := NB398_400.out
         have hms78_4 := NB398_401.out
         have hs79 := bkc_ BK398 1 (.int .i64 0) rfl
         have hfs79 := blk_frozen BK398.out 1
         have hns79_0 := NB396_398.out
         have hns79_1 := NB397_398.out
         have hns79_3 := NB400_398.out
         have hns79_4 := NB401_398.out
         have hms79_0 := NB398_396.out
         have hms79_1 := NB398_397.out
         have hms79_3 := NB398_400.out
         have hms79_4 := NB398_401.out
         refine skip_ (w1 := ?_) (by rfl) rfl ?_ ?_
         rotate_left
         · go_simp
           rfl
         refine hK.out _ _ ⟨((cell_far (p := ⟨gb398, _, none⟩) NB400_398.out _).trans (((cell_far (p := ⟨gb398, _, none⟩) NB400_398.out _).trans (hHeld.1)))), ((cell_far (p := ⟨gb398, _, none⟩) NB400_398.out _).trans (((cell_far (p := ⟨gb398, _, none⟩) NB400_398.out _).trans (hHeld.2.1)))), ((cell_far (p := ⟨gb398, _, none⟩) NB401_398.out _).trans (((cell_far (p := ⟨gb398, _, none⟩) NB401_398.out _).trans (hHeld.2.2.1)))), ((cell_far (p := ⟨gb398, _, none⟩) NB401_398.out _).trans (((cell_far (p := ⟨gb398, _, none⟩) NB401_398.out _).trans (hHeld.2.2.2))))⟩ (fun hHeld => ?_)
         clear hK K
         refine pure_ (i := 4) (N := some 4) (v := ?_) (a' := ?_) #[true, true, true, true, true] rfl rfl (by kernel_rfl) (fun _ _ _ h => h) (Or.inl ⟨by rfl, ?_⟩) ?_ ?_
         rotate_left
         · intro w'
           go_simp
           with_reducible rfl
         rotate_left
         · simp only [Act.put, List.setIfInBounds_toArray, List.set_cons_zero, List.set_cons_succ, i64_w, i32_w]
           rfl
         refine done_ (by kernel_rfl) ?_
         try go_wp2
         refine bodyPost_ret (results_list (rs := [.cell 2 55, .cell 3 55, .tmp 4]) rfl (by simp) (.cell gb397 55 #[.int .i64 x401000_1, .int .i64 x401001_1] (0, 0) _ rfl (by (with_reducible repeat (first | refine blk_drewN ?_ _ | refine blk_drew ?_ | refine blk_alloc ?_ _)); refine blk_far ?_ NB397_398.out _; (with_reducible repeat (first | refine blk_drewN ?_ _ | refine blk_drew ?_ | refine blk_alloc ?_ _)); refine blk_far ?_ NB397_398.out _; (with_reducible repeat (first | refine blk_drewN ?_ _ | refine blk_drew ?_ | refine blk_alloc ?_ _)); refine blk_put (cs := #[.int .i64 x401000_1, .int .i64 0]) ?_ 1 _ rfl; (with_reducible repeat (first | refine blk_drewN ?_ _ | refine blk_drew ?_ | refine blk_alloc ?_ _)); refine blk_put (cs := #[.int .i64 0, .int .i64 0]) ?_ 0 _ rfl; (with_reducible repeat (first | refine blk_drewN ?_ _ | refine blk_drew ?_ | refine blk_alloc ?_ _)); exact BK397.out) Try.underlying55 rfl (by kernel_rfl) (.cell gb398 55 #[.int .i64 x402000_1, .int .i64 x402001_1] (0, 0) _ rfl (by (with_reducible repeat (first | refine blk_drewN ?_ _ | refine blk_drew ?_ | refine blk_alloc ?_ _)); refine blk_put (cs := #[.int .i64 x402000_1, .int .i64 0]) ?_ 1 _ rfl; (with_reducible repeat (first | refine blk_drewN ?_ _ | refine blk_drew ?_ | refine blk_alloc ?_ _)); refine blk_put (cs := #[.int .i64 0, .int .i64 0]) ?_ 0 _ rfl; (with_reducible repeat (first | refine blk_drewN ?_ _ | refine blk_drew ?_ | refine blk_alloc ?_ _)); refine blk_far ?_ NB398_397.out _; (with_reducible repeat (first | refine blk_drewN ?_ _ | refine blk_drew ?_ | refine blk_alloc ?_ _)); refine blk_far ?_ NB398_397.out _; (with_reducible repeat (first | refine blk_drewN ?_ _ | refine blk_drew ?_ | refine blk_alloc ?_ _)); exact BK398.out) Try.underlying55 rfl (by kernel_rfl) (.tmp .nil)))) rfl ?_
         exact ⟨by first | rfl | (simp [errW_none, errW_some] <;> rfl) | (simp [*, errW_none, errW_some] <;> rfl), by repeat (first | (with_reducible first | exact HB.out | apply below_alloc | apply pw_below_drewN | apply below_drew1 | refine below_set ?_ GE396.out | refine below_set ?_ GE397.out | refine below_set ?_ GE398.out | refine below_set ?_ GE400.out | refine below_set ?_ GE401.out) | exact HB.out)⟩
 · rw [if_neg c3] at H
   have c3b0 : (t399 == 0) = false := beq_eq_false_iff_ne.mpr c3
   have c3b1 : (t399 != 0) = true := bne_iff_ne.mpr c3
   simp only [Option.some.injEq, Prod.mk.injEq] at H
   obtain ⟨rfl, rfl, rfl, rfl, rfl⟩ := H
   go_enter Try.func31, Try.ntmps31
   go_wp2_with (first | ((with_reducible refine gate_dst (N := 1) rfl ?_); refine box_event ?hg (N := 1) ?hd (cs := #[.int .i64 a0_0, .int .i64 a0_1, .int .i64 a0_2, .int .i64 a0_3, .int .i64 a0_4]) (t := 58) ?hr ?_; (case hd => rfl); (case hg => rfl); (case hr => first | (go_simp; done) | (go_simp; rfl)); intro gb396 hg w80 hbox hb; have BK396 := Aside0.mk (hbox); have GW396 := bgw_ HB hg; have GE396 := bgw_ HB hg; replace HB := bls_ HB hb; clear hb hbox hg) | ((with_reducible refine gate_dst (N := 2) rfl ?_); refine box_event ?hg (N := 2) ?hd (cs := #[.int .i64 0, .int .i64 0]) (t := 55) ?hr ?_; (case hd => rfl); (case hg => rfl); (case hr => first | (go_simp; done) | (go_simp; rfl)); intro gb397 hg w81 hbox hb; have BK397 := Aside0.mk (hbox); have GW397 := bgw_ HB hg; have GE397 := bgw_ HB hg; have NB396_397 := bnl_ BK396 hg; have NB397_396 := bng_ BK396 hg; replace BK396 := bkb_ BK396 hb; replace HB := bls_ HB hb; clear hb hbox hg) | ((with_reducible refine gate_dst (N := 3) rfl ?_); refine box_event ?hg (N := 3) ?hd (cs := #[.int .i64 0, .int .i64 0]) (t := 55) ?hr ?_; (case hd => rfl); (case hg => rfl); (case hr => first | (go_simp; done) | (go_simp; rfl)); intro gb398 hg w82 hbox hb; have BK398 := Aside0.mk (hbox); have GW398 := bgw_ HB hg; have GE398 := bgw_ HB hg; have NB396_398 := bnl_ BK396 hg; have NB398_396 := bng_ BK396 hg; have NB397_398 := bnl_ BK397 hg; have NB398_397 := bng_ BK397 hg; replace BK396 := bkb_ BK396 hb; replace BK397 := bkb_ BK397 hb; replace HB := bls_ HB hb; clear hb hbox hg; have hnb83 := NB396_397.out; have hnc83 := NB397_396.out; have hnb84 := NB396_398.out; have hnc84 := NB398_396.out; have hcz85_0 := bkc_ BK396 0 (.int .i64 a0_0) rfl; have hcz85_1 := bkc_ BK396 1 (.int .i64 a0_1) rfl; have hcz85_2 := bkc_ BK396 2 (.int .i64 a0_2) rfl; have hcz85_3 := bkc_ BK396 3 (.int .i64 a0_3) rfl; have hcz85_4 := bkc_ BK396 4 (.int .i64 a0_4) rfl; have hfz85_0 := blk_frozen BK396.out 0; have hfz85_1 := blk_frozen BK396.out 1; have hfz85_2 := blk_frozen BK396.out 2; have hfz85_3 := blk_frozen BK396.out 3; have hfz85_4 := blk_frozen BK396.out 4) | ((with_reducible refine gate_callee (f := 71) rfl ?_); refine goesL_ (some 10) rfl rfl Try.func71 (by kernel_rfl) rfl #[.agg #[.int .i64 a0_0, .int .i64 a0_1, .int .i64 a0_2, .int .i64 a0_3, .int .i64 a0_4]] rfl (by (try simp only [List.map_toArray, List.map_cons, List.map_nil]); first | done | rfl | (simp only [List.length_drop, List.length_take]; rfl)) ?_; (with_reducible refine (pianolaref03_paper.calls a0_0 a0_1 a0_2 a0_3 a0_4 t399 _ A2.out).mono ?_); rintro e w86 ⟨rfl, hb⟩; refine ⟨_, rfl, ?_⟩; replace BK396 := bkb_ BK396 hb; replace BK397 := bkb_ BK397 hb; replace BK398 := bkb_ BK398 hb; replace HB := bls_ HB hb; (try clear hb); (try clear hb2); (try clear hk); (try clear hi); have hnb87 := NB397_398.out; have hnc87 := NB398_397.out; have hcz88_0 := bkc_ BK397 0 (.int .i64 0) rfl; have hcz88_1 := bkc_ BK397 1 (.int .i64 0) rfl; have hfz88_0 := blk_frozen BK397.out 0; have hfz88_1 := blk_frozen BK397.out 1; have hcz89_0 := bkc_ BK398 0 (.int .i64 0) rfl; have hcz89_1 := bkc_ BK398 1 (.int .i64 0) rfl; have hfz89_0 := blk_frozen BK398.out 0; have hfz89_1 := blk_frozen BK398.out 1))
   refine bodyPost_ret (results_list (rs := [.cell 2 55, .cell 3 55, .tmp 4]) rfl (by simp) (.cell gb397 55 #[.int .i64 0, .int .i64 0] (0, 0) _ rfl (by (with_reducible repeat (first | refine blk_drewN ?_ _ | refine blk_drew ?_ | refine blk_alloc ?_ _)); refine blk_far ?_ NB397_398.out _; (with_reducible repeat (first | refine blk_drewN ?_ _ | refine blk_drew ?_ | refine blk_alloc ?_ _)); refine blk_far ?_ NB397_398.out _; (with_reducible repeat (first | refine blk_drewN ?_ _ | refine blk_drew ?_ | refine blk_alloc ?_ _)); refine blk_put (cs := #[.int .i64 0, .int .i64 0]) ?_ 1 _ rfl; (with_reducible repeat (first | refine blk_drewN ?_ _ | refine blk_drew ?_ | refine blk_alloc ?_ _)); refine blk_put (cs := #[.int .i64 0, .int .i64 0]) ?_ 0 _ rfl; (with_reducible repeat (first | refine blk_drewN ?_ _ | refine blk_drew ?_ | refine blk_alloc ?_ _)); exact BK397.out) Try.underlying55 rfl (by kernel_rfl) (.cell gb398 55 #[.int .i64 0, .int .i64 0] (0, 0) _ rfl (by (with_reducible repeat (first | refine blk_drewN ?_ _ | refine blk_drew ?_ | refine blk_alloc ?_ _)); refine blk_put (cs := #[.int .i64 0, .int .i64 0]) ?_ 1 _ rfl; (with_reducible repeat (first | refine blk_drewN ?_ _ | refine blk_drew ?_ | refine blk_alloc ?_ _)); refine blk_put (cs := #[.int .i64 0, .int .i64 0]) ?_ 0 _ rfl; (with_reducible repeat (first | refine blk_drewN ?_ _ | refine blk_drew ?_ | refine blk_alloc ?_ _)); refine blk_far ?_ NB398_397.out _; (with_reducible repeat (first | refine blk_drewN ?_ _ | refine blk_drew ?_ | refine blk_alloc ?_ _)); refine blk_far ?_ NB398_397.out _; (with_reducible repeat (first | refine blk_drewN ?_ _ | refine blk_drew ?_ | refine blk_alloc ?_ _)); exact BK398.out) Try.underlying55 rfl (by kernel_rfl) (.tmp .nil)))) rfl ?_
   exact ⟨by first | rfl | (simp [errW_none, errW_some] <;> rfl) | (simp [*, errW_none, errW_some] <;> rfl), by repeat (first | (with_reducible first | exact HB.out | apply below_alloc | apply pw_below_drewN | apply below_drew1 | refine below_set ?_ GE396.out | refine below_set ?_ GE397.out | refine below_set ?_ GE398.out) | exact HB.out)⟩

/-! ### pianolaref03_can: function 75 -/
def pianolaref03_can.f (a0_0 : Int) (a0_1 : Int) (a1_0 : Int) (a1_1 : Int) (a2 : Int) (a3 : Int) (a4 : Int) : Option (Bool) := if a2 ≥ (wrap64 ((wrap64 (a3 * a0_0)) + (wrap64 (a4 * a1_0)))) then (some (decide (a2 ≤ (wrap64 ((wrap64 (a3 * a0_1)) + (wrap64 (a4 * a1_1))))))) else (some false)
set_option maxHeartbeats 8000000 in
set_option maxRecDepth 100000 in
theorem pianolaref03_can.calls (a0_0 : Int) (a0_1 : Int) (a1_0 : Int) (a1_1 : Int) (a2 : Int) (a3 : Int) (a4 : Int) (r : Bool) (w : World) (h : pianolaref03_can.f a0_0 a0_1 a1_0 a1_1 a2 a3 a4 = some r) :
 Calls Try.prog 75 #[.agg #[.int .i64 a0_0, .int .i64 a0_1], .agg #[.int .i64 a1_0, .int .i64 a1_1], .int .i64 a2, .int .i64 a3, .int .i64 a4] w fun e w' => e = .returned (.bool r) ∧ Below w.heap.size w w' := by
 have hu55 := Try.underlying55
 have HB := Aside0.mk (Below.refl w.heap.size w)
 have H : (if a2 ≥ (wrap64 ((wrap64 (a3 * a0_0)) + (wrap64 (a4 * a1_0)))) then (some (decide (a2 ≤ (wrap64 ((wrap64 (a3 * a0_1)) + (wrap64 (a4 * a1_1))))))) else (some false)) = some r := h
 clear h
 by_cases c6 : a2 ≥ (wrap64 ((wrap64 (a3 * a0_0)) + (wrap64 (a4 * a1_0))))
 · rw [if_pos c6] at H
   have c6b0 : decide ((wrap64 ((wrap64 (a3 * a0_0)) + (wrap64 (a4 * a1_0)))) ≤ a2) = true := decide_eq_true c6
   clear c6
   obtain rfl := Option.some.inj H
   go_enter Try.func75, Try.ntmps75
   go_wp2_with (first | ((with_reducible refine gate_dst (N := 5) rfl ?_); refine box_event ?hg (N := 5) ?hd (cs := #[.int .i64 a0_0, .int .i64 a0_1]) (t := 55) ?hr ?_; (case hd => rfl); (case hg => rfl); (case hr => first | (go_simp; done) | (go_simp; rfl)); intro gb404 hg w7 hbox hb; have BK404 := Aside0.mk (hbox); have GW404 := bgw_ HB hg; have GE404 := bgw_ HB hg; replace HB := bls_ HB hb; clear hb hbox hg) | ((with_reducible refine gate_dst (N := 6) rfl ?_); refine box_event ?hg (N := 6) ?hd (cs := #[.int .i64 a1_0, .int .i64 a1_1]) (t := 55) ?hr ?_; (case hd => rfl); (case hg => rfl); (case hr => first | (go_simp; done) | (go_simp; rfl)); intro gb405 hg w8 hbox hb; have BK405 := Aside0.mk (hbox); have GW405 := bgw_ HB hg; have GE405 := bgw_ HB hg; have NB404_405 := bnl_ BK404 hg; have NB405_404 := bng_ BK404 hg; replace BK404 := bkb_ BK404 hb; replace HB := bls_ HB hb; clear hb hbox hg; have hnb9 := NB404_405.out; have hnc9 := NB405_404.out; have hcz10_0 := bkc_ BK404 0 (.int .i64 a0_0) rfl; have hcz10_1 := bkc_ BK404 1 (.int .i64 a0_1) rfl; have hfz10_0 := blk_frozen BK404.out 0; have hfz10_1 := blk_frozen BK404.out 1; have hcz11_0 := bkc_ BK405 0 (.int .i64 a1_0) rfl; have hcz11_1 := bkc_ BK405 1 (.int .i64 a1_1) rfl; have hfz11_0 := blk_frozen BK405.out 0; have hfz11_1 := blk_frozen BK405.out 1))
   go_ret
   exact ⟨by first | rfl | (simp [errW_none, errW_some] <;> rfl) | (simp [*, errW_none, errW_some] <;> rfl), by repeat (first | (with_reducible first | exact HB.out | apply below_alloc | apply pw_below_drewN | apply below_drew1 | refine below_set ?_ GE404.out | refine below_set ?_ GE405.out) | exact HB.out)⟩
 · rw [if_neg c6] at H
   have c6b0 : decide ((wrap64 ((wrap64 (a3 * a0_0)) + (wrap64 (a4 * a1_0)))) ≤ a2) = false := decide_eq_false c6
   clear c6
   obtain rfl := Option.some.inj H
   go_enter Try.func75, Try.ntmps75
   go_wp2_with (first | ((with_reducible refine gate_dst (N := 5) rfl ?_); refine box_event ?hg (N := 5) ?hd (cs := #[.int .i64 a0_0, .int .i64 a0_1]) (t := 55) ?hr ?_; (case hd => rfl); (case hg => rfl); (case hr => first | (go_simp; done) | (go_simp; rfl)); intro gb404 hg w12 hbox hb; have BK404 := Aside0.mk (hbox); have GW404 := bgw_ HB hg; have GE404 := bgw_ HB hg; replace HB := bls_ HB hb; clear hb hbox hg) | ((with_reducible refine gate_dst (N := 6) rfl ?_); refine box_event ?hg (N := 6) ?hd (cs := #[.int .i64 a1_0, .int .i64 a1_1]) (t := 55) ?hr ?_; (case hd => rfl); (case hg => rfl); (case hr => first | (go_simp; done) | (go_simp; rfl)); intro gb405 hg w13 hbox hb; have BK405 := Aside0.mk (hbox); have GW405 := bgw_ HB hg; have GE405 := bgw_ HB hg; have NB404_405 := bnl_ BK404 hg; have NB405_404 := bng_ BK404 hg; replace BK404 := bkb_ BK404 hb; replace HB := bls_ HB hb; clear hb hbox hg; have hnb14 := NB404_405.out; have hnc14 := NB405_404.out; have hcz15_0 := bkc_ BK404 0 (.int .i64 a0_0) rfl; have hcz15_1 := bkc_ BK404 1 (.int .i64 a0_1) rfl; have hfz15_0 := blk_frozen BK404.out 0; have hfz15_1 := blk_frozen BK404.out 1; have hcz16_0 := bkc_ BK405 0 (.int .i64 a1_0) rfl; have hcz16_1 := bkc_ BK405 1 (.int .i64 a1_1) rfl; have hfz16_0 := blk_frozen BK405.out 0; have hfz16_1 := blk_frozen BK405.out 1))
   go_ret
   exact ⟨by first | rfl | (simp [errW_none, errW_some] <;> rfl) | (simp [*, errW_none, errW_some] <;> rfl), by repeat (first | (with_reducible first | exact HB.out | apply below_alloc | apply pw_below_drewN | apply below_drew1 | refine below_set ?_ GE404.out | refine below_set ?_ GE405.out) | exact HB.out)⟩

end Go.Proofs.Ytaaonhfaoaabbaa.X
