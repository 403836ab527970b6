import Derived.Test.YtaaonhfaoaabbaaE2
import Derived.WalkMore
namespace Go.Proofs.Ytaaonhfaoaabbaa.X
open Go.Shelf Go.Proofs.YtaaonhfaoaabbaaF Go.RowKit Go.Proofs.YtaaonhfaoaabbaaW.PrintWords Go.Proofs.YtaaonhfaoaabbaaW.PrintLast Go.Proofs.YtaaonhfaoaabbaaW.PrintMore
attribute [local go_sem] Oper.semAt_some
/-- The number in a box. -/
def boxN (w : World) (g : Nat) : Nat := match w.cell? ⟨g, 0, none⟩ with | some v => (intOf v).toNat | none => 0
theorem boxN_eq {w : World} {g t : Nat} {m : Int} (h : w.heap[g]? = some (.cells #[.int .i64 m] t (0, 0))) : boxN w g = m.toNat := by
  have hc : w.cell? ⟨g, 0, none⟩ = some (.int .i64 m) := (blk_cell h 0).trans rfl
  unfold boxN
  rw [hc]
  rfl
theorem clashTo_len (rest : Int) (l : List S47) (pass : List Int) (s : S47) (k : Nat) : (clashTo rest l pass s k).length ≤ k := by
  unfold clashTo
  rw [List.length_map]
  exact Nat.le_trans (List.length_filter_le _ _) (by simp)
set_option maxRecDepth 100000 in
set_option maxHeartbeats 4000000 in
theorem smallest_calls (gs : Nat) (rest : Int) (A : Option Addr) (c : Nat) (l : List S47) (pass : List Int) (s0 s1 : Int) (w : World) (hl : l.length ≤ 40) (hp : pass.length = 40) (r0 : 0 ≤ rest) (r1 : rest ≤ 1000) (hok : l.all okSlot = true) (hs1 : 0 ≤ s1) (hs2 : s1 ≤ 1000000)
    (hs : w.heap[gs]? = some (.cells (sheetCells rest A l.length c pass) 108 (0, 0))) (hr : Kd.C k47 w A l.length l) :
    Calls Try.prog 61 #[.pointer (some ⟨gs, 0, none⟩), .agg #[.int .i64 s0, .int .i64 s1]] w fun e w' => e = .returned (.int .i64 (leastFree (clashTo rest l pass ⟨s0, s1⟩ l.length))) ∧ Below w.heap.size w w' := by
  have HS := Aside0.mk hs
  have HR := Aside0.mk hr
  have HOK := Aside0.mk hok
  have HP := Aside0.mk hp
  clear hs hr hok hp
  obtain ⟨xs, hxs⟩ : ∃ xs, xs = clashTo rest l pass ⟨s0, s1⟩ l.length := ⟨_, rfl⟩
  rw [← hxs]
  have HXS := Aside0.mk hxs
  clear hxs
  refine callsIn_wide.1 (callsIn_of_wp_marks (n := 3) Try.func61 rfl trivial (wpIn_wide.2 ?_) rfl)
  simp only [Try.ntmps61, List.size_toArray, List.length_cons, List.length_nil, Nat.reduceAdd, Nat.reduceSub, Array.replicate_succ, Array.replicate_zero, List.push_toArray, List.append_toArray, List.nil_append, List.cons_append]
  go_wp2
  go_step3
  go_wp2
  go_step3
  go_wp2
  refine wp_loop (fun a' wr => ∃ (m : Nat) (Ds : List Nat) (u6 u7 u8 u9 u10 u11 u12 u13 u14 u15 u16 : Value),
      a' = { tmps := #[.pointer (some ⟨gs, 0, none⟩), .agg #[.int .i64 s0, .int .i64 s1], undef, .pointer (some ⟨w.heap.size, 0, none⟩), .int .i64 0, .pointer (some ⟨w.heap.size + 1, 0, none⟩), u6, u7, u8, u9, u10, u11, u12, u13, u14, u15, u16], defers := Ds.map Mk } ∧
      (∀ j : Nat, j < m → (j : Int) ∈ xs) ∧ Ds.Nodup ∧ (∀ D ∈ Ds, w.heap.size ≤ D ∧ wr.heap[D]? = some (.deferred (some []))) ∧ wr.heap[w.heap.size]? = some (.cells #[.int .i64 s0, .int .i64 s1] 47 (0, 0)) ∧ wr.heap[w.heap.size + 1]? = some (.cells #[.int .i64 m] 3 (0, 0)) ∧ Below w.heap.size w wr)
    (fun _ wr => xs.length + 1 - boxN wr (w.heap.size + 1)) ?_ ?_
  · refine ⟨0, [], _, _, _, _, _, _, _, _, _, _, _, rfl, fun j h => by omega, List.nodup_nil, fun D h => by simp at h, blk_alloc (blk_new w _) _, ?_, below_alloc (below_alloc (Below.refl _ _) _) _⟩
    have h_ := blk_new (w.alloc (.cells #[.int .i64 s0, .int .i64 s1] 47)) (.cells #[.int .i64 0] 3)
    rw [World.size_alloc] at h_
    exact h_
  · rintro a' wr ⟨m, Ds, u6, u7, u8, u9, u10, u11, u12, u13, u14, u15, u16, rfl, hj, hnd, hds, hb3, hb5, hB⟩
    have c30 : wr.cell? ⟨w.heap.size, 0, none⟩ = some (.int .i64 s0) := (blk_cell hb3 0).trans rfl
    have c31 : wr.cell? ⟨w.heap.size, 1, none⟩ = some (.int .i64 s1) := (blk_cell hb3 1).trans rfl
    have hm5 : wr.cell? ⟨w.heap.size + 1, 0, none⟩ = some (.int .i64 m) := (blk_cell hb5 0).trans rfl
    have HM5 := Aside0.mk hm5
    have hmx := pigeon m xs hj
    have hxl : xs.length ≤ 40 := by rw [HXS.out]; exact Nat.le_trans (clashTo_len _ _ _ _ _) hl
    have HJ := Aside0.mk hj
    have HND := Aside0.mk hnd
    have HDS := Aside0.mk hds
    have HB3 := Aside0.mk hb3
    have HB5 := Aside0.mk hb5
    have HB := Aside0.mk hB
    clear hj hnd hds hb3 hb5 hB hm5
    go_wp2_with (go_at_call 81; refine (clashes_calls _ _ _ _).mono ?_; rintro e w' ⟨rfl, rfl⟩)
    have hs0 := blk_alloc (blk_alloc (blk_below HS.out HB.out) (.cells #[.pointer (some ⟨gs, 0, none⟩)] 104)) (.cells #[.int .i64 s0, .int .i64 s1] 47)
    have hb2 := blk_alloc (blk_new wr (.cells #[.pointer (some ⟨gs, 0, none⟩)] 104)) (.cells #[.int .i64 s0, .int .i64 s1] 47)
    have hb3 := blk_new (wr.alloc (.cells #[.pointer (some ⟨gs, 0, none⟩)] 104)) (.cells #[.int .i64 s0, .int .i64 s1] 47)
    rw [World.size_alloc] at hb3
    have hBW := below_alloc (below_alloc HB.out (.cells #[.pointer (some ⟨gs, 0, none⟩)] 104)) (.cells #[.int .i64 s0, .int .i64 s1] 47)
    have hold : ∀ (k : Nat) (o : Obj), wr.heap[k]? = some o → ((wr.alloc (.cells #[.pointer (some ⟨gs, 0, none⟩)] 104)).alloc (.cells #[.int .i64 s0, .int .i64 s1] 47)).heap[k]? = some o := fun k o h => blk_alloc (blk_alloc h _) _
    obtain ⟨W0, hW0⟩ : ∃ W0, (wr.alloc (.cells #[.pointer (some ⟨gs, 0, none⟩)] 104)).alloc (.cells #[.int .i64 s0, .int .i64 s1] 47) = W0 := ⟨_, rfl⟩
    rw [hW0] at hs0 hb2 hb3 hBW hold ⊢
    clear hW0
    have hseq := clashes_in 2 gs wr.heap.size (wr.heap.size + 1) rest A c l pass s0 s1 W0 hl HP.out r0 r1 HOK.out hs1 hs2 hs0 hb2 hb3 (Kd.C_below HR.out hBW)
    rw [← HXS.out] at hseq
    have l5 : w.heap.size + 1 < W0.heap.size := blk_lt (hold _ _ HB5.out)
    refine wpIn_wide.1 (wpIn_rangeFunc_ownF (n := 3) rfl (by omega) (gf := 90) (lb := #[.pointer (some ⟨wr.heap.size, 0, none⟩), .pointer (some ⟨wr.heap.size + 1, 0, none⟩)]) rfl trivial (enters_of Try.func90 (by kernel_rfl) rfl)
      hseq belowK_t (belowK_b (Nat.le_refl _)) (Below.refl _ _) (fun _ => rfl)
      (fun pre W => (∀ x ∈ pre, x ≠ (m : Int)) ∧ Below W0.heap.size W0 W)
      (fun cc pre W => (cc = .exit 1 ∧ (m : Int) ∈ pre) ∧ W.heap[w.heap.size + 1]? = some (.cells #[.int .i64 ((m : Int) + 1)] 3 (0, 0)) ∧ RestBut W0.heap.size (w.heap.size + 1) W0 W ∧ Below w.heap.size w W)
      (OwnFrom.and (ownFrom_pure _ _) (ownFrom_below (Nat.le_refl _) (Nat.le_refl _)))
      (fun cc => OwnFrom.and (ownFrom_pure _ _) (OwnFrom.and ownFrom_cells (OwnFrom.and ownFrom_rest (ownFrom_below (Nat.le_refl _) (by omega)))))
      ⟨by simp, Below.refl _ _⟩
      (fun x => { tmps := #[.pointer (some ⟨gs, 0, none⟩), .agg #[.int .i64 s0, .int .i64 s1], undef, .pointer (some ⟨w.heap.size, 0, none⟩), .int .i64 0, .pointer (some ⟨w.heap.size + 1, 0, none⟩), .int .i64 x, .pointer (some ⟨gs, 0, none⟩), .agg #[.int .i64 s0, .int .i64 s1], .func (.func 90) #[] #[.pointer (some ⟨wr.heap.size, 0, none⟩), .pointer (some ⟨wr.heap.size + 1, 0, none⟩)], .int .i64 x, u11, u12, u13, u14, u15, u16], defers := [] })
      ?assign ?body ?done ?stop)
    case assign =>
      intro lp x W K hK
      gi_wp2
      exact hK
    case body =>
      rintro lp pre x W ⟨hpre, hBl⟩ _
      have hb5' := blk_below (hold _ _ HB5.out) hBl
      have c5 : W.cell? ⟨w.heap.size + 1, 0, none⟩ = some (.int .i64 m) := (blk_cell hb5' 0).trans rfl
      have f5 := blk_frozen hb5' 0
      have HB5' := Aside0.mk hb5'
      have HPRE := Aside0.mk hpre
      have HBL := Aside0.mk hBl
      clear hb5' hpre hBl
      by_cases hx : x = (m : Int)
      · have hxb : (x == (m : Int)) = true := by simpa using hx
        have HX := Aside0.mk hx
        clear hx
        gi_wp2
        refine ⟨KeepsOthers.setCell _ _ _, ⟨rfl, by rw [HX.out]; simp⟩, blk_put HB5'.out 0 _ rfl, fun k o hk hne ho => (Below.heap_setCell W _ _ k hne).trans (blk_below ho HBL.out), below_set (hBW.trans (HBL.out.mono hBW.size)) (by omega)⟩
      · have hxb : (x == (m : Int)) = false := by simpa using hx
        have HX := Aside0.mk hx
        clear hx
        gi_wp2
        exact ⟨KeepsOthers.refl _, Below.refl _ _, fun y hy => (List.mem_append.1 hy).elim (HPRE.out y) (fun e => by simp at e; rw [e]; exact HX.out), HBL.out⟩
    case done =>
      rintro D zs W hD rfl ⟨hpre, hBl⟩ hK
      have hb5' := blk_below (hold _ _ HB5.out) hBl
      have c5 : W.cell? ⟨w.heap.size + 1, 0, none⟩ = some (.int .i64 m) := (blk_cell hb5' 0).trans rfl
      have hlf := leastFree_eq zs m (fun h => hpre _ h rfl) HJ.out
      have HLF := Aside0.mk hlf
      have HBL := Aside0.mk hBl
      have HK := Aside0.mk hK
      clear hlf hb5' hpre hBl hK
      dsimp only
      go_wp2
      rw [Exit.noGoto_ret]
      have hnd' : (D :: Ds).Nodup := List.nodup_cons.2 ⟨fun h => by have := blk_lt (hold _ _ (HDS.out D h).2); omega, HND.out⟩
      refine leave_marks (D :: Ds) W hnd' (fun E hE => ?_) (fun W' _ hb => ?_)
      · rcases List.mem_cons.1 hE with rfl | hE
        · exact HK.out
        · exact blk_below (hold _ _ (HDS.out E hE).2) HBL.out
      · refine ⟨_, results_tmp rfl _ _ _, by rw [HLF.out]; rfl, ?_⟩
        have h1 := hBW.trans (HBL.out.mono hBW.size)
        refine h1.trans (hb _ (fun E hE => ?_) h1.size)
        rcases List.mem_cons.1 hE with rfl | hE
        · have := hBW.size; omega
        · exact (HDS.out E hE).1
    case stop =>
      rintro D cc pre W hD hpre ⟨⟨rfl, hin⟩, hb5', hR, hBl⟩ hK
      have HB5' := Aside0.mk hb5'
      have HR' := Aside0.mk hR
      have HK := Aside0.mk hK
      have HIN := Aside0.mk (hpre.subset hin)
      have HBl := Aside0.mk hBl
      clear hb5' hR hK hin hpre hBl
      refine wpIn_wide.2 ?_
      dsimp only
      go_wp2
      have hj' : ∀ j : Nat, j < m + 1 → (j : Int) ∈ xs := fun j hj => by
        rcases Nat.lt_or_ge j m with h | h
        · exact HJ.out j h
        · obtain rfl : j = m := by omega
          exact HIN.out
      refine ⟨⟨m + 1, D :: Ds, _, _, _, _, _, _, _, _, _, _, _, rfl, hj', List.nodup_cons.2 ⟨fun h => ?_, HND.out⟩, fun E hE => ?_, ?_, ?_, HBl.out⟩, ?_⟩
      · have := blk_lt (hold _ _ (HDS.out D h).2)
        omega
      · rcases List.mem_cons.1 hE with rfl | hE
        · exact ⟨by omega, HK.out⟩
        · have h2 := hold _ _ (HDS.out E hE).2
          exact ⟨(HDS.out E hE).1, HR'.out E _ (blk_lt h2) (fun e => by rw [e, hold _ _ HB5.out] at h2; cases h2) h2⟩
      · exact HR'.out _ _ (by omega) (by omega) (hold _ _ HB3.out)
      · exact HB5'.out
      · rw [boxN_eq HB5'.out, boxN_eq HB5.out]
        have := pigeon _ _ hj'
        omega
end Go.Proofs.Ytaaonhfaoaabbaa.X
