/- The main walk of planned. -/
import Derived.Test.YtaaonhfaoaabbaaE4
namespace Go.Proofs.Ytaaonhfaoaabbaa.X
open Go.Shelf Go.Proofs.YtaaonhfaoaabbaaF Go.RowKit Go.Proofs.YtaaonhfaoaabbaaW.PrintWords Go.Proofs.YtaaonhfaoaabbaaW.PrintLast Go.Proofs.YtaaonhfaoaabbaaW.PrintMore
attribute [local go_sem] Oper.semAt_some
/-- The passes of the first slots, then none. -/
def partTo (p : List Int) (k : Nat) : List Int := p.take k ++ List.replicate (40 - k) (-1)
theorem partTo_len {p : List Int} {k : Nat} (hk : k ≤ p.length) (hp : p.length ≤ 40) : (partTo p k).length = 40 := by unfold partTo; simp; omega
theorem partTo_set {p : List Int} {k : Nat} (hk : k < p.length) (hp : p.length ≤ 40) : (partTo p k).set k (rd p k) = partTo p (k + 1) := by
  rw [rdi_get hk]
  unfold partTo
  rw [List.set_append_right _ _ (by simp; omega), List.take_succ_eq_append_getElem hk, List.append_assoc]
  congr 1
  rw [show 40 - k = (40 - (k + 1)) + 1 from by omega, List.replicate_succ]
  simp [Nat.min_eq_left (Nat.le_of_lt hk)]
theorem partTo_lo {p : List Int} {k j : Nat} (hk : k ≤ p.length) (hj : j < k) : (partTo p k).getD j 0 = rd p j := by
  unfold partTo rd
  simp only [List.getD_eq_getElem?_getD]
  rw [List.getElem?_append_left (by simp; omega)]
  simp [hj]
theorem partTo_hi {p : List Int} {k j : Nat} (hk : k ≤ p.length) (hj : k ≤ j) (hj' : j < 40) : (partTo p k).getD j 0 = -1 := by
  unfold partTo
  simp only [List.getD_eq_getElem?_getD]
  rw [List.getElem?_append_right (by simp; omega)]
  rw [List.getElem?_replicate]
  simp only [List.length_take, Nat.min_eq_left hk]
  rw [if_pos (by omega)]
  rfl
theorem mem_clash {rest : Int} {l : List S47} {p : List Int} {s : S47} {k : Nat} {x : Int} (hk : k ≤ p.length) (hpl : p.length = l.length) (hl : l.length ≤ 40) (hp : p.all okPass = true) :
    x ∈ clashTo rest l (partTo p k) s l.length ↔ ∃ j : Nat, j < k ∧ clashB rest (rd_T47 l j) s = true ∧ rd p j = x := by
  unfold clashTo
  simp only [List.mem_map, List.mem_filter, List.mem_range, Bool.and_eq_true, decide_eq_true_eq]
  constructor
  · rintro ⟨j, ⟨hj, hc, hge⟩, hx⟩
    rcases Nat.lt_or_ge j k with h | h
    · exact ⟨j, h, by simpa [rd_T47] using hc, by rw [← hx, partTo_lo hk h]⟩
    · rw [partTo_hi hk h (by omega)] at hge; omega
  · rintro ⟨j, hj, hc, hx⟩
    refine ⟨j, ⟨by omega, by simpa [rd_T47] using hc, ?_⟩, ?_⟩
    · rw [partTo_lo hk hj]
      have := allp_at hp (show j < p.length by omega)
      unfold okPass at this
      simp at this
      exact this.1
    · rw [partTo_lo hk hj, hx]
/-- No two of the first slots clash in one pass. -/
def NoBad (rest : Int) (l : List S47) (p : List Int) (k : Nat) : Prop := ∀ i : Nat, i < k → ∀ j : Nat, j < i → ¬ (clashB rest (rd_T47 l j) (rd_T47 l i) = true ∧ rd p j = rd p i)
theorem badPair_false {rest : Int} {l : List S47} {p : List Int} (h : NoBad rest l p l.length) : badPair rest l p = false := by
  unfold badPair
  rw [List.any_eq_false]
  intro i hi
  rw [Bool.not_eq_true, List.any_eq_false]
  intro j hj
  have := h i (List.mem_range.1 hi) j (List.mem_range.1 hj)
  simp only [Bool.and_eq_true, decide_eq_true_eq]
  rintro ⟨h1, h2⟩
  exact this ⟨by simpa [rd_T47] using h2, by simpa [rd] using h1⟩
theorem badPair_true {rest : Int} {l : List S47} {p : List Int} {i j : Nat} (hi : i < l.length) (hj : j < i) (h1 : clashB rest (rd_T47 l j) (rd_T47 l i) = true) (h2 : rd p j = rd p i) : badPair rest l p = true := by
  unfold badPair
  rw [List.any_eq_true]
  refine ⟨i, List.mem_range.2 hi, ?_⟩
  rw [List.any_eq_true]
  refine ⟨j, List.mem_range.2 hj, ?_⟩
  simp only [Bool.and_eq_true, decide_eq_true_eq]
  exact ⟨by simpa [rd] using h2, by simpa [rd_T47] using h1⟩
/-- What planned hands back where job and numbers are as stated. -/
def Planned (rest : Int) (A : Option Addr) (c : Nat) (l : List S47) (p : List Int) (w : World) (e : Ending) (w' : World) : Prop :=
  (if badPair rest l p then e = .returned (.tuple #[.pointer none, .int .i64 14]) else ∃ g, e = .returned (.tuple #[.pointer (some ⟨g, 0, none⟩), .int .i64 0]) ∧ w.heap.size ≤ g ∧ w'.heap[g]? = some (.cells (sheetCells rest A l.length c (partTo p l.length)) 108 (0, 0))) ∧ Below w.heap.size w w'
/-- All blocks below B but two are as they were. -/
def RestBut2 (B g g' : Nat) (w W : World) : Prop := ∀ (k : Nat) (o : Obj), k < B → k ≠ g → k ≠ g' → w.heap[k]? = some o → W.heap[k]? = some o
theorem ownFrom_rest2 {β : Type} {B g g' : Nat} {w : World} : OwnFrom B (fun (_ : β) W => RestBut2 B g g' w W) := fun _ X Y row hs hg hr k o hk hne hne' ho =>
  (hg.block k (Array.getElem?_eq_some_iff.1 (hs k o hk hne hne' ho)).1 (fun e => by have := (hr k e.symm).1; omega)).trans (hs k o hk hne hne' ho)
set_option maxRecDepth 100000 in
set_option maxHeartbeats 4000000 in
theorem planned_main (a0_0 : Int) (A0_1 : Option Addr) (c0_1 : Nat) (l0_1 : List S47) (A1 : Option Addr) (c1 : Nat) (l1 : List Int) (w : World) (hr0_1 : Kd.C k47 w A0_1 l0_1.length l0_1) (hc0_1 : l0_1.length ≤ c0_1) (hr1 : Kd.C (Kd.int .i64) w A1 l1.length l1) (h : checkE a0_0 l0_1 = 0) (hlen : l1.length = l0_1.length) (hall : l1.all okPass = true) :
    Calls Try.prog 68 #[.agg #[.int .i64 a0_0, .slice A0_1 l0_1.length c0_1], .slice A1 l1.length c1] w (Planned a0_0 A0_1 c0_1 l0_1 l1 w) := by
  obtain ⟨r0, r1, hl, hok⟩ := check_ok h
  have hcon := fun W (hb : Below w.heap.size w W) => punch_Check.calls a0_0 A0_1 c0_1 l0_1 _ W (Kd.C_below hr0_1 hb) hc0_1 rfl
  have hcon2 := fun W (hb : Below w.heap.size w W) => containsp_calls A1 c1 l1 W (Kd.C_below hr1 hb) (by omega)
  rw [h] at hcon
  rw [hall] at hcon2
  rw [hlen] at hcon2 ⊢
  have HR0 := Aside0.mk hr0_1
  have HR1 := Aside0.mk hr1
  have HLEN := Aside0.mk hlen
  have HALL := Aside0.mk hall
  have HOK := Aside0.mk hok
  clear h hr0_1 hr1 hlen hall hok
  obtain ⟨b2, b4, b5, hb0⟩ := three_allocs w (.cells #[.int .i64 a0_0, .slice A0_1 l0_1.length c0_1] 24) (.cells #[.pointer none] 104) (.cells #[.int .i64 0] 27)
  refine callsIn_wide.1 (callsIn_of_wp_marks (n := 3) Try.func68 rfl trivial (wpIn_wide.2 ?_) rfl)
  simp only [Try.ntmps68, List.size_toArray, List.length_cons, List.length_nil, Nat.reduceAdd, Nat.reduceSub, Array.replicate_succ, Array.replicate_zero, List.push_toArray, List.append_toArray, List.nil_append, List.cons_append]
  go_wp2_with fail
  obtain ⟨W0, hW0⟩ : ∃ W0, ((w.alloc (.cells #[.int .i64 a0_0, .slice A0_1 l0_1.length c0_1] 24)).alloc (.cells #[.pointer none] 104)).alloc (.cells #[.int .i64 0] 27) = W0 := ⟨_, rfl⟩
  rw [hW0] at b2 b4 b5 hb0 ⊢
  clear hW0
  refine (hcon W0 hb0).mono ?_
  rintro e w1 ⟨rfl, hb⟩
  have B2 := Aside0.mk (blk_below b2 hb)
  have B4 := Aside0.mk (blk_below b4 hb)
  have B5 := Aside0.mk (blk_below b5 hb)
  have HB := Aside0.mk (below_step hb0 hb)
  have c2 : w1.cell? ⟨w.heap.size, 1, none⟩ = some (.slice A0_1 l0_1.length c0_1) := (blk_cell B2.out 1).trans rfl
  have l2 := blk_lt B2.out
  clear b2 b4 b5 hb0 hb
  go_wp2_with fail
  refine (hcon2 _ HB.out).mono ?_
  rintro e w2 ⟨rfl, hb⟩
  have B2' := Aside0.mk (blk_below B2.out hb)
  have B4' := Aside0.mk (blk_below B4.out hb)
  have B5' := Aside0.mk (blk_below B5.out hb)
  have HB' := Aside0.mk (below_step HB.out hb)
  clear c2 l2
  have c20 : w2.cell? ⟨w.heap.size, 0, none⟩ = some (.int .i64 a0_0) := (blk_cell B2'.out 0).trans rfl
  have c21 : w2.cell? ⟨w.heap.size, 1, none⟩ = some (.slice A0_1 l0_1.length c0_1) := (blk_cell B2'.out 1).trans rfl
  clear B4 B5 HB B2 hb
  go_wp2_with fail
  refine (blank_calls a0_0 A0_1 l0_1.length c0_1 w2).mono ?_
  rintro e w3 ⟨g, rfl, hg, hbs, hb⟩
  have B2 := Aside0.mk (blk_below B2'.out hb)
  have B4 := Aside0.mk (blk_below B4'.out hb)
  have B5 := Aside0.mk (blk_below B5'.out hb)
  have HB := Aside0.mk (below_step HB'.out hb)
  have BS := Aside0.mk hbs
  have hg0 : w.heap.size ≤ g := by have := HB'.out.size; omega
  have hg1 : w.heap.size + 1 + 1 < g := by have := blk_lt B5'.out; omega
  clear hb hbs c20 c21
  go_wp2
  refine wp_loop (fun a' wr => ∃ (k : Nat) (Ds : List Nat) (u8 u9 u10 u31 u32 u33 u34 u35 u36 u37 u38 u39 u40 u41 u42 u43 u44 u45 u46 u47 u48 u49 u50 u51 u52 u53 : Value),
      a' = { tmps := #[Value.agg #[Value.int IntKind.i64 a0_0, Value.slice A0_1 l0_1.length c0_1], Value.slice A1 l0_1.length c1, Value.pointer (some { block := w.heap.size, off := 0 }), undef, Value.pointer (some { block := w.heap.size + 1, off := 0 }), Value.pointer (some { block := w.heap.size + 1 + 1, off := 0 }), Value.int IntKind.i64 0, Value.pointer (some { block := g, off := 0 }), u8, u9, u10, Value.agg #[Value.int IntKind.i64 a0_0, Value.slice A0_1 l0_1.length c0_1], Value.int IntKind.i64 0, Value.int IntKind.i64 0, Value.bool false, undef, Value.bool false, Value.slice A1 l0_1.length c1, Value.int IntKind.i64 ↑l0_1.length, Value.pointer (some { block := w.heap.size, off := 1 }), Value.slice A0_1 l0_1.length c0_1, Value.int IntKind.i64 ↑l0_1.length, Value.bool false, Value.bool false, Value.slice A1 l0_1.length c1, Value.bool false, Value.agg #[Value.int IntKind.i64 a0_0, Value.slice A0_1 l0_1.length c0_1], Value.pointer (some { block := g, off := 0 }), Value.slice A1 l0_1.length c1, Value.int IntKind.i64 ↑l0_1.length, Value.int IntKind.i64 k, u31, u32, u33, u34, u35, u36, u37, u38, u39, u40, u41, u42, u43, u44, u45, u46, u47, u48, u49, u50, u51, u52, u53], defers := Ds.map Mk } ∧
      k ≤ l0_1.length ∧ NoBad a0_0 l0_1 l1 k ∧ Ds.Nodup ∧ (∀ D ∈ Ds, w.heap.size ≤ D ∧ wr.heap[D]? = some (.deferred (some []))) ∧ wr.heap[w.heap.size]? = some (.cells #[.int .i64 a0_0, .slice A0_1 l0_1.length c0_1] 24 (0, 0)) ∧ wr.heap[w.heap.size + 1]? = some (.cells #[.pointer none] 104 (0, 0)) ∧ wr.heap[w.heap.size + 1 + 1]? = some (.cells #[.int .i64 0] 27 (0, 0)) ∧ wr.heap[g]? = some (.cells (sheetCells a0_0 A0_1 l0_1.length c0_1 (partTo l1 k)) 108 (0, 0)) ∧ Below w.heap.size w wr)
    (fun a' _ => l0_1.length - (intOf (a'.tmps.getD 30 undef)).toNat) ?_ ?_
  · refine ⟨0, [], _, _, _, _, _, _, _, _, _, _, _, _, _, _, _, _, _, _, _, _, _, _, _, _, _, _, rfl, Nat.zero_le _, fun i hi => by omega, List.nodup_nil, fun D h => by simp at h, B2.out, B4.out, B5.out, ?_, HB.out⟩
    rw [show partTo l1 0 = List.replicate 40 (-1) from rfl]
    exact BS.out
  · rintro a' wr ⟨k, Ds, u8, u9, u10, u31, u32, u33, u34, u35, u36, u37, u38, u39, u40, u41, u42, u43, u44, u45, u46, u47, u48, u49, u50, u51, u52, u53, rfl, hk, hnb, hnd, hds, hb2, hb4, hb5, hbs, hB⟩
    have HNB := Aside0.mk hnb
    have HND := Aside0.mk hnd
    have HDS := Aside0.mk hds
    have X2 := Aside0.mk hb2
    have X4 := Aside0.mk hb4
    have X5 := Aside0.mk hb5
    have XS := Aside0.mk hbs
    have XB := Aside0.mk hB
    clear hnb hnd hds hb2 hb4 hb5 hbs hB
    by_cases hlt : k < l0_1.length
    · have hlz : (k : Int) < (l0_1.length : Int) := by omega
      have hk40 : (k : Int) < 40 := by omega
      obtain ⟨ad, e1, h0⟩ := Kd.at_int HR1.out (k : Int) (by omega) (by rw [HLEN.out]; omega)
      subst e1
      replace h0 := (XB.out.cell (World.block_lt_of_cell? w _ h0)).trans h0
      obtain ⟨ad', rfl, s0, s1⟩ := at_T47 HR0.out (k : Int) (by omega) (by omega)
      replace s0 := (XB.out.cell (World.block_lt_of_cell? w _ s0)).trans s0
      replace s1 := (XB.out.cell (World.block_lt_of_cell? w _ s1)).trans s1
      simp only [Int.toNat_natCast] at h0 s0 s1
      have b1 := World.block_lt_of_cell? wr _ s0
      have b1' := World.block_lt_of_cell? wr _ h0
      have c21 : wr.cell? ⟨w.heap.size, 1, none⟩ = some (.slice (some ad') l0_1.length c0_1) := (blk_cell X2.out 1).trans rfl
      have hl2 := blk_lt X2.out
      obtain ⟨f0, hf0⟩ : ∃ f0, f0 = (rd_T47 l0_1 (k : Int)).f0 := ⟨_, rfl⟩
      obtain ⟨f1, hf1⟩ : ∃ f1, f1 = (rd_T47 l0_1 (k : Int)).f1 := ⟨_, rfl⟩
      obtain ⟨pk, hpk⟩ : ∃ pk, pk = rd l1 (k : Int) := ⟨_, rfl⟩
      rw [← hf0] at s0
      rw [← hf1] at s1
      rw [← hpk] at h0
      have HF := Aside0.mk (And.intro hf0 hf1)
      have HPK := Aside0.mk hpk
      clear hf0 hf1 hpk
      go_wp2_with (go_at_call 81; refine (clashes_calls _ _ _ _).mono ?_; rintro e w' ⟨rfl, rfl⟩; simp only [World.size_alloc])
      obtain ⟨q0, q1, q2, qB⟩ := three_allocs wr (.cells #[.int .i64 pk] 3) (.cells #[.pointer (some ⟨g, 0, none⟩)] 104) (.cells #[.int .i64 f0, .int .i64 f1] 47)
      have hold : ∀ (k : Nat) (o : Obj), wr.heap[k]? = some o → (((wr.alloc (.cells #[.int .i64 pk] 3)).alloc (.cells #[.pointer (some ⟨g, 0, none⟩)] 104)).alloc (.cells #[.int .i64 f0, .int .i64 f1] 47)).heap[k]? = some o := fun k o h => blk_alloc (blk_alloc (blk_alloc h _) _) _
      have hBW := XB.out.trans (qB.mono XB.out.size)
      obtain ⟨V0, hV0⟩ : ∃ V0, (((wr.alloc (.cells #[.int .i64 pk] 3)).alloc (.cells #[.pointer (some ⟨g, 0, none⟩)] 104)).alloc (.cells #[.int .i64 f0, .int .i64 f1] 47)) = V0 := ⟨_, rfl⟩
      rw [hV0] at q0 q1 q2 qB hold hBW ⊢
      clear hV0
      have hbd := ok_bounds (all_at HOK.out hlt)
      have hseq := clashes_in 2 g (wr.heap.size + 1) (wr.heap.size + 1 + 1) a0_0 (some ad') c0_1 l0_1 (partTo l1 k) f0 f1 V0 hl (partTo_len (by rw [HLEN.out]; exact hk) (by rw [HLEN.out]; exact hl)) r0 r1 HOK.out (by rw [HF.out.2]; omega) (by rw [HF.out.2]; exact hbd.2.2) (hold _ _ XS.out) q1 q2 (Kd.C_below HR0.out hBW)
      clear hbd
      have lg : w.heap.size + 1 + 1 < V0.heap.size := by have := blk_lt (hold _ _ X5.out); omega
      refine wpIn_wide.1 (wpIn_rangeFunc_ownF (n := 3) rfl (by omega) (gf := 90) (lb := #[.pointer (some ⟨wr.heap.size + 1, 0, none⟩), .pointer (some ⟨wr.heap.size + 1 + 1, 0, none⟩)]) rfl trivial (enters_of Try.func90 (by kernel_rfl) rfl)
        hseq belowK_t (belowK_b (Nat.le_refl _)) (Below.refl _ _) (fun _ => rfl)
        (fun pre W => (∀ x ∈ pre, x ≠ pk) ∧ Below V0.heap.size V0 W)
        (fun cc pre W => (cc = .ret ∧ pk ∈ pre) ∧ W.heap[w.heap.size + 1]? = some (.cells #[.pointer none] 104 (0, 0)) ∧ W.heap[w.heap.size + 1 + 1]? = some (.cells #[.int .i64 14] 27 (0, 0)) ∧ RestBut2 V0.heap.size (w.heap.size + 1) (w.heap.size + 1 + 1) V0 W ∧ Below w.heap.size w W)
        (OwnFrom.and (ownFrom_pure _ _) (ownFrom_below (Nat.le_refl _) (Nat.le_refl _)))
        (fun cc => OwnFrom.and (ownFrom_pure _ _) (OwnFrom.and ownFrom_cells (OwnFrom.and ownFrom_cells (OwnFrom.and ownFrom_rest2 (ownFrom_below (Nat.le_refl _) (by omega))))))
        ⟨by simp, Below.refl _ _⟩
        (fun x => { tmps := #[Value.agg #[Value.int IntKind.i64 a0_0, Value.slice (some ad') l0_1.length c0_1], Value.slice (some ad) l0_1.length c1, Value.pointer (some { block := w.heap.size, off := 0 }), undef, Value.pointer (some { block := w.heap.size + 1, off := 0 }), Value.pointer (some { block := w.heap.size + 1 + 1, off := 0 }), Value.int IntKind.i64 0, Value.pointer (some { block := g, off := 0 }), Value.int IntKind.i64 k, Value.pointer (some { block := wr.heap.size, off := 0 }), Value.int .i64 x, Value.agg #[Value.int IntKind.i64 a0_0, Value.slice (some ad') l0_1.length c0_1], Value.int IntKind.i64 0, Value.int IntKind.i64 0, Value.bool false, undef, Value.bool false, Value.slice (some ad) l0_1.length c1, Value.int IntKind.i64 ↑l0_1.length, Value.pointer (some { block := w.heap.size, off := 1 }), Value.slice (some ad') l0_1.length c0_1, Value.int IntKind.i64 ↑l0_1.length, Value.bool false, Value.bool false, Value.slice (some ad) l0_1.length c1, Value.bool false, Value.agg #[Value.int IntKind.i64 a0_0, Value.slice (some ad') l0_1.length c0_1], Value.pointer (some { block := g, off := 0 }), Value.slice (some ad) l0_1.length c1, Value.int IntKind.i64 ↑l0_1.length, Value.int IntKind.i64 ↑k, Value.bool true, Value.int IntKind.i64 ↑k, Value.pointer (some (ad.add k)), Value.int IntKind.i64 pk, Value.pointer (some { block := g, off := 0 }), Value.pointer (some { block := w.heap.size, off := 1 }), Value.slice (some ad') l0_1.length c0_1, Value.int IntKind.i64 ↑k, Value.pointer (some (ad'.add (k * 2))), Value.agg #[Value.int IntKind.i64 f0, Value.int IntKind.i64 f1], Value.func (.func 90) #[] #[.pointer (some ⟨wr.heap.size + 1, 0, none⟩), .pointer (some ⟨wr.heap.size + 1 + 1, 0, none⟩)], Value.int .i64 x, u43, u44, u45, u46, u47, u48, u49, u50, u51, u52, u53], defers := [] })
        ?assign ?body ?done ?stop)
      case assign =>
        intro lp x W K hK
        gi_wp2
        exact hK
      case body =>
        rintro lp pre x W ⟨hpre, hBl⟩ _
        have hq0 := blk_below q0 hBl
        have hx4 := blk_below (hold _ _ X4.out) hBl
        have hx5 := blk_below (hold _ _ X5.out) hBl
        have c9 : W.cell? ⟨wr.heap.size, 0, none⟩ = some (.int .i64 pk) := (blk_cell hq0 0).trans rfl
        have f4 := blk_frozen hx4 0
        have f5 := blk_frozen hx5 0
        have c4 : W.cell? ⟨w.heap.size + 1, 0, none⟩ = some (.pointer none) := (blk_cell hx4 0).trans rfl
        have c5 : W.cell? ⟨w.heap.size + 1 + 1, 0, none⟩ = some (.int .i64 0) := (blk_cell hx5 0).trans rfl
        have HX4 := Aside0.mk hx4
        have HX5 := Aside0.mk hx5
        have HPRE := Aside0.mk hpre
        have HBL := Aside0.mk hBl
        clear hq0 hx4 hx5 hpre hBl
        by_cases hx : x = pk
        · have hxb : (x == pk) = true := by simpa using hx
          have HX := Aside0.mk hx
          clear hx
          gi_wp2
          have n1 := Below.heap_setCell (W.setCell ⟨w.heap.size + 1, 0, none⟩ (.pointer none)) ⟨w.heap.size + 1 + 1, 0, none⟩ (.int .i64 14)
          have n2 := Below.heap_setCell W ⟨w.heap.size + 1, 0, none⟩ (.pointer none)
          refine ⟨(KeepsOthers.setCell _ _ _).trans (KeepsOthers.setCell _ _ _), ⟨rfl, by rw [HX.out]; simp⟩, (n1 _ (by dsimp only; omega)).trans (blk_put HX4.out 0 _ rfl), blk_put ((n2 _ (by dsimp only; omega)).trans HX5.out) 0 _ rfl, fun k o hk hne hne' ho => (n1 k hne').trans ((n2 k hne).trans (blk_below ho HBL.out)), below_set (below_set (hBW.trans (HBL.out.mono hBW.size)) (Nat.le_add_right _ _)) (Nat.le_add_right w.heap.size 2)⟩
        · have hxb : (x == pk) = false := by simpa using hx
          have HX := Aside0.mk hx
          clear hx
          gi_wp2
          exact ⟨KeepsOthers.refl _, Below.refl _ _, fun y hy => (List.mem_append.1 hy).elim (HPRE.out y) (fun e => by simp at e; rw [e]; exact HX.out), HBL.out⟩
      case done =>
        rintro D zs W hD rfl ⟨hpre, hBl⟩ hK
        have hx2 := blk_below (hold _ _ X2.out) hBl
        have hx4 := blk_below (hold _ _ X4.out) hBl
        have hx5 := blk_below (hold _ _ X5.out) hBl
        have hxs := blk_below (hold _ _ XS.out) hBl
        have hq0 := blk_below q0 hBl
        have c9 : W.cell? ⟨wr.heap.size, 0, none⟩ = some (.int .i64 pk) := (blk_cell hq0 0).trans rfl
        have hkl : k ≤ l1.length := by rw [HLEN.out]; exact hk
        have hll : l1.length ≤ 40 := by rw [HLEN.out]; exact hl
        have hsc := (blk_cell hxs (2 + k)).trans (sheet_get _ _ _ _ _ k (by rw [partTo_len hkl hll]; omega))
        have hsf := blk_frozen hxs (2 + k)
        have lsg := blk_lt hxs
        have l9 := blk_lt hq0
        have hnb' : NoBad a0_0 l0_1 l1 (k + 1) := fun i hi j hj hc => by
          rcases Nat.lt_or_ge i k with h | h
          · exact HNB.out i h j hj hc
          · obtain rfl : i = k := by omega
            refine hpre (rd l1 (j : Int)) ((mem_clash hkl HLEN.out hl HALL.out).2 ⟨j, hj, ?_, rfl⟩) (by rw [hc.2, HPK.out])
            rw [HF.out.1, HF.out.2]; exact hc.1
        have HNB' := Aside0.mk hnb'
        have Y2 := Aside0.mk hx2
        have Y4 := Aside0.mk hx4
        have Y5 := Aside0.mk hx5
        have YS := Aside0.mk hxs
        have HBL := Aside0.mk hBl
        have HK := Aside0.mk hK
        clear hnb' hx2 hx4 hx5 hxs hq0 hpre hBl hK
        dsimp only
        go_wp2
        refine wpIn_wide.1 (wideIn_still_tail (n := 3) 6 mixed (by kernel_rfl) ?_)
        simp only [List.take_succ_cons, List.take_zero, List.drop_succ_cons, List.drop_zero]
        repeat still_step
        refine wpStill_nil ?_
        gi_wp2
        go_wp2
        have hdw : Below w.heap.size w W := hBW.trans (HBL.out.mono hBW.size)
        have n1 := Below.heap_setCell W ⟨g, 2 + k, none⟩ (.int .i64 pk)
        refine ⟨⟨k + 1, D :: Ds, _, _, _, _, _, _, _, _, _, _, _, _, _, _, _, _, _, _, _, _, _, _, _, _, _, _, rfl, by omega, HNB'.out, List.nodup_cons.2 ⟨fun h => ?_, HND.out⟩, fun E hE => ?_, (n1 _ (by dsimp only; omega)).trans Y2.out, (n1 _ (by dsimp only; omega)).trans Y4.out, (n1 _ (by dsimp only; omega)).trans Y5.out, ?_, below_set (below_drew hdw) hg0⟩, ?_⟩
        · have := blk_lt (hold _ _ (HDS.out D h).2)
          omega
        · rcases List.mem_cons.1 hE with rfl | hE
          · refine ⟨by have := hBW.size; omega, (n1 _ ?_).trans HK.out⟩
            have := blk_lt (hold _ _ XS.out)
            dsimp only; omega
          · have h2 := hold _ _ (HDS.out E hE).2
            refine ⟨(HDS.out E hE).1, (n1 _ ?_).trans (blk_below h2 HBL.out)⟩
            dsimp only
            intro e
            rw [e, hold _ _ XS.out] at h2
            cases h2
        · rw [← partTo_set (by rw [HLEN.out]; exact hlt) hll, ← HPK.out]
          exact blk_put (w := W.drew) YS.out (2 + k) _ (sheet_set _ _ _ _ _ _ _)
        · simp [intOf]; omega
      case stop =>
        rintro D cc pre W hD hpre ⟨⟨rfl, hin⟩, hb4', hb5', hR, hBl⟩ hK
        have HB4' := Aside0.mk hb4'
        have HB5' := Aside0.mk hb5'
        have HR' := Aside0.mk hR
        have HK := Aside0.mk hK
        have HIN := Aside0.mk (hpre.subset hin)
        have HBl := Aside0.mk hBl
        clear hb4' hb5' hR hK hin hpre hBl
        refine wpIn_wide.2 ?_
        dsimp only
        go_wp2
        have marks : ∀ E ∈ D :: Ds, w.heap.size ≤ E ∧ W.heap[E]? = some (.deferred (some [])) := fun E hE => by
          rcases List.mem_cons.1 hE with rfl | hE
          · exact ⟨by omega, HK.out⟩
          · have h2 := hold _ _ (HDS.out E hE).2
            exact ⟨(HDS.out E hE).1, HR'.out E _ (blk_lt h2) (fun e => by rw [e, hold _ _ X4.out] at h2; cases h2) (fun e => by rw [e, hold _ _ X5.out] at h2; cases h2) h2⟩
        have hnd' : (D :: Ds).Nodup := List.nodup_cons.2 ⟨fun h => by have := blk_lt (hold _ _ (HDS.out D h).2); omega, HND.out⟩
        have hbad : badPair a0_0 l0_1 l1 = true := by
          obtain ⟨j, hj, hc, he⟩ := (mem_clash (by rw [HLEN.out]; exact hk) HLEN.out hl HALL.out).1 HIN.out
          rw [HF.out.1, HF.out.2] at hc
          exact badPair_true hlt hj hc (by rw [he, HPK.out])
        refine leave_marks (D :: Ds) W hnd' (fun E hE => (marks E hE).2) (fun W' hk' hb => ?_)
        have k4 := hk' _ _ HB4'.out (fun h => by have h2 := (marks _ h).2; rw [HB4'.out] at h2; cases h2)
        have k5 := hk' _ _ HB5'.out (fun h => by have h2 := (marks _ h).2; rw [HB5'.out] at h2; cases h2)
        refine ⟨_, results_cell2 rfl rfl rfl ((blk_cell k4 0).trans rfl) ((blk_cell k5 0).trans rfl), by rw [hbad]; rfl, HBl.out.trans (hb _ (fun E hE => (marks E hE).1) HBl.out.size)⟩
    · have hlz : ¬ (k : Int) < (l0_1.length : Int) := by omega
      obtain rfl : k = l0_1.length := by omega
      have c4 : wr.cell? ⟨w.heap.size + 1, 0, none⟩ = some (.pointer none) := (blk_cell X4.out 0).trans rfl
      have c5 : wr.cell? ⟨w.heap.size + 1 + 1, 0, none⟩ = some (.int .i64 0) := (blk_cell X5.out 0).trans rfl
      have f4 := blk_frozen X4.out 0
      have f5 := blk_frozen X5.out 0
      go_wp2
      have n1 := Below.heap_setCell (wr.setCell ⟨w.heap.size + 1, 0, none⟩ (.pointer (some ⟨g, 0, none⟩))) ⟨w.heap.size + 1 + 1, 0, none⟩ (.int .i64 0)
      have n2 := Below.heap_setCell wr ⟨w.heap.size + 1, 0, none⟩ (.pointer (some ⟨g, 0, none⟩))
      have z4 := (n1 _ (show w.heap.size + 1 ≠ w.heap.size + 1 + 1 by omega)).trans (blk_put X4.out 0 _ rfl)
      have z5 := blk_put ((n2 _ (show w.heap.size + 1 + 1 ≠ w.heap.size + 1 by omega)).trans X5.out) 0 (.int .i64 0) rfl
      have zs := (n1 g (show g ≠ w.heap.size + 1 + 1 by omega)).trans ((n2 g (show g ≠ w.heap.size + 1 by omega)).trans XS.out)
      have marks : ∀ E ∈ Ds, w.heap.size ≤ E ∧ ((wr.setCell ⟨w.heap.size + 1, 0, none⟩ (.pointer (some ⟨g, 0, none⟩))).setCell ⟨w.heap.size + 1 + 1, 0, none⟩ (.int .i64 0)).heap[E]? = some (.deferred (some [])) := fun E hE => by
        have h2 := (HDS.out E hE).2
        exact ⟨(HDS.out E hE).1, (n1 E (show E ≠ w.heap.size + 1 + 1 from fun e => by rw [e, X5.out] at h2; cases h2)).trans ((n2 E (show E ≠ w.heap.size + 1 from fun e => by rw [e, X4.out] at h2; cases h2)).trans h2)⟩
      have zB := below_set (v := .int .i64 0) (j := 0) (below_set (v := .pointer (some ⟨g, 0, none⟩)) (j := 0) XB.out (Nat.le_add_right _ 1)) (Nat.le_add_right w.heap.size 2)
      refine leave_marks Ds _ HND.out (fun E hE => (marks E hE).2) (fun W' hk' hb => ?_)
      have k4 := hk' _ _ z4 (fun h => by have h2 := (marks _ h).2; rw [z4] at h2; cases h2)
      have k5 := hk' _ _ z5 (fun h => by have h2 := (marks _ h).2; rw [z5] at h2; cases h2)
      have ks := hk' _ _ zs (fun h => by have h2 := (marks _ h).2; rw [zs] at h2; cases h2)
      refine ⟨_, results_cell2 rfl rfl rfl ((blk_cell k4 0).trans rfl) ((blk_cell k5 0).trans rfl), ?_, zB.trans (hb _ (fun E hE => (marks E hE).1) zB.size)⟩
      rw [badPair_false HNB.out]
      exact ⟨g, rfl, hg0, ks⟩
end Go.Proofs.Ytaaonhfaoaabbaa.X
