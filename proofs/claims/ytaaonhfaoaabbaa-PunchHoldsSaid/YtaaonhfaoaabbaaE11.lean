/- The calls of slices.Values, Collect at slots. -/
import Derived.Test.YtaaonhfaoaabbaaE3
namespace Go.Proofs.Ytaaonhfaoaabbaa.X
open Go.Shelf Go.Proofs.YtaaonhfaoaabbaaF Go.RowKit Go.Proofs.YtaaonhfaoaabbaaW.PrintWords Go.Proofs.YtaaonhfaoaabbaaW.PrintLast Go.Proofs.YtaaonhfaoaabbaaW.PrintMore
attribute [local go_sem] Oper.semAt_some
def enc47 (x : S47) : List Value := [.int .i64 x.f0, .int .i64 x.f1]
set_option maxHeartbeats 400000 in
theorem values_calls (v : Value) (A : Option Addr) (n c : Nat) (hv : v = .slice A n c) (w : World) : Calls Try.prog 67 #[v] w fun e w' => e = .returned (.func (.func 84) #[] #[.pointer (some ⟨w.heap.size, 0, none⟩)]) ∧ w' = w.alloc (.cells #[v] 22) := by
  subst hv
  go_enter Try.func67, Try.ntmps67
  go_wp2
  go_ret
  exact ⟨rfl, rfl⟩
theorem abides_alloc' {α : Type} {J : List α → World → Prop} {B : Nat} (hJ : AbidesFrom B J) {s : List α} {W : World} (h : J s W) (o : Obj) : J s (W.alloc o) :=
  hJ s W _ none h (World.grownBy_alloc W o none) (fun _ e => by cases e)
theorem take_snoc {l : List S47} {k : Nat} (h : k < l.length) : l.take (k + 1) = l.take k ++ [rd_T47 l k] := by
  rw [List.take_succ_eq_append_getElem h]
  unfold rd_T47
  simp [List.getD_eq_getElem?_getD, h]
set_option maxRecDepth 100000 in
set_option maxHeartbeats 4000000 in
theorem values_in (n b1 : Nat) (A : Option Addr) (c : Nat) (l : List S47) (w : World) (hl : l.length ≤ 40) (h1 : w.heap[b1]? = some (.cells #[.slice A l.length c] 22 (0, 0))) (hr : Kd.C k47 w A l.length l) :
    SeqStopsK Fence.wide n Try.prog 84 #[.pointer (some ⟨b1, 0, none⟩)] (fun x : S47 => #[.agg #[.int .i64 x.f0, .int .i64 x.f1]]) (Below w.heap.size) (fun ys => ys = l) (fun pre => pre <+: l) l.length w := by
  intro lp J Jx W hW hJ hJx hY h0
  refine callsIn_of_wp Try.func84 rfl trivial ?_ rfl
  simp only [Try.ntmps84, List.size_toArray, List.length_cons, List.length_nil, Nat.reduceAdd, Nat.reduceSub, Array.replicate_succ, Array.replicate_zero, List.push_toArray, List.append_toArray, List.nil_append, List.cons_append]
  have H1 := Aside0.mk h1
  have HR := Aside0.mk hr
  have HW := Aside0.mk hW
  have HJ0 := Aside0.mk h0
  have HJ := Aside0.mk hJ
  have HY := Aside0.mk hY
  clear h1 hr hW h0 hJ hJx hY
  have c1 : W.cell? ⟨b1, 0, none⟩ = some (.slice A l.length c) := (blk_cell (blk_below H1.out HW.out) 0).trans rfl
  gi_wp2
  gi_loopw [7] (fun v wr => ∃ k : Nat, k ≤ l.length ∧ v = .int .i64 k ∧ Aside0 (J (l.take k) wr) ∧ Aside0 (Below w.heap.size w wr)) (fun v _ => l.length - (intOf v).toNat)
  case atStart => exact ⟨0, Nat.zero_le _, rfl, HJ0, HW⟩
  case round =>
    clear c1 HJ0
    obtain ⟨k, hk, rfl, HJk, HB⟩ := hrel
    by_cases hlt : k < l.length
    · have hlz : (k : Int) < (l.length : Int) := by omega
      obtain ⟨ad, rfl, h0, h1⟩ := at_T47 HR.out (k : Int) (by omega) (by omega)
      replace h0 := (HB.out.cell (World.block_lt_of_cell? w _ h0)).trans h0
      replace h1 := (HB.out.cell (World.block_lt_of_cell? w _ h1)).trans h1
      simp only [Int.toNat_natCast] at h0 h1
      have HSN := Aside0.mk (take_snoc hlt)
      obtain ⟨x, hx⟩ : ∃ x, x = rd_T47 l (k : Int) := ⟨_, rfl⟩
      rw [← hx] at h0 h1
      have HX := Aside0.mk hx
      clear hx
      have hj1 := abides_alloc' HJ.out HJk.out (.cells #[.int .i64 x.f0, .int .i64 x.f1] 47)
      obtain ⟨fn, tmps, assign, body, hy, hR⟩ := HY.out _ x _ hj1 (by simp; omega)
      have HR2 := Aside0.mk hR
      clear hR hj1
      gi_wp2
      refine ⟨fun hd => absurd hd (by simp [Fence.wide]), HR2.out.mono ?_⟩
      rintro e W' (⟨rfl, hJ', hk'⟩ | ⟨rfl, hJx'⟩)
      · have HJ' := Aside0.mk hJ'
        have HB' := Aside0.mk ((pw_below_then (below_alloc HB.out _) hk'))
        clear hJ' hk' hy HR2
        gi_wp2
        go_roundw
        case rel => exact ⟨k + 1, by omega, by go_num, ⟨by rw [HSN.out, ← HX.out]; exact HJ'.out⟩, HB'⟩
        case measure => simp [intOf]; omega
      · gi_wp2
        refine bodyPost_ret (results_none rfl _ _ _) rfl ?_
        exact ⟨⟨_, rfl⟩, .inr ⟨_, by rw [HX.out, ← HSN.out]; exact List.take_prefix _ _, hJx'⟩⟩
    · have hlz : ¬ (k : Int) < (l.length : Int) := by omega
      gi_wp2
      go_end0
      exact ⟨⟨_, rfl⟩, .inl (by rw [show k = l.length from by omega, List.take_length] at HJk; exact HJk.out)⟩
def flat47 (l : List S47) : List Value := l.flatMap enc47
theorem reps_flat47 {w : World} {base : Nat} {ok : Nat → Prop} : ∀ l : List S47, Reps (k47.M w base ok) 2 l (flat47 l)
  | [] => Reps.none _ _
  | x :: l => by
    have h := Kd.reps_append (Reps.snoc (Reps.none (k47.M w base ok) 2) (k47_mkM w base ok x) rfl) (reps_flat47 (w := w) (base := base) (ok := ok) l)
    simpa [flat47, enc47] using h
theorem flat47_snoc (l : List S47) (x : S47) : flat47 (l ++ [x]) = flat47 l ++ [.int .i64 x.f0, .int .i64 x.f1] := by simp [flat47, enc47]
theorem ownFrom_own {β : Type} {base B : Nat} {e : TypeId} {size : Nat} {f : β → Value} {n : β → Nat} {g : β → List Value} : OwnFrom B (fun s W => W.ownsRow base e size (f s) (n s) (g s)) := fun s X Y row hs hg hr =>
  own_move hs (fun k hk => hg.block k (own_lt hs k hk) (fun er => by
    obtain ⟨_, o, ho, hc⟩ := hr k er.symm
    obtain ⟨cells, hcs⟩ := own_typed hs k hk
    rw [hcs] at ho; cases ho; cases hc))
/-- The box holds a row of the call's own. -/
def BoxRow (w : World) (pre : List S47) (W : World) : Prop := ∃ v, W.ownsRow w.heap.size 47 2 v pre.length (flat47 pre) ∧ W.heap[w.heap.size]? = some (.cells #[v] 22 (0, 0)) ∧ Below w.heap.size w W
theorem boxRow_own (w : World) (B : Nat) (hB : w.heap.size ≤ B) : OwnFrom B (fun pre W => BoxRow w pre W) := fun s X Y row ⟨v, h1, h2, h3⟩ hg hr =>
  ⟨v, ownFrom_own (B := B) (f := fun _ : Unit => v) (n := fun _ => s.length) (g := fun _ => flat47 s) () X Y row h1 hg hr, ownFrom_cells (B := B) () X Y row h2 hg hr, ownFrom_below (B := B) (Nat.le_refl _) hB () X Y row h3 hg hr⟩
set_option maxRecDepth 100000 in
set_option maxHeartbeats 4000000 in
theorem appendSeq_calls (b1 : Nat) (A : Option Addr) (c : Nat) (l : List S47) (w : World) (hl : l.length ≤ 40) (h1 : w.heap[b1]? = some (.cells #[.slice A l.length c] 22 (0, 0))) (hr : Kd.C k47 w A l.length l) :
    Calls Try.prog 91 #[.slice none 0 0, .func (.func 84) #[] #[.pointer (some ⟨b1, 0, none⟩)]] w fun e w' => ∃ v, e = .returned v ∧ w'.ownsRow w.heap.size 47 2 v l.length (flat47 l) ∧ Below w.heap.size w w' := by
  have hseq := values_in 2 b1 A c l w hl h1 hr
  clear h1 hr
  refine callsIn_wide.1 (callsIn_of_wp_marks (n := 3) Try.func91 rfl trivial (wpIn_wide.2 ?_) rfl)
  simp only [Try.ntmps91, List.size_toArray, List.length_cons, List.length_nil, Nat.reduceAdd, Nat.reduceSub, Array.replicate_succ, Array.replicate_zero, List.push_toArray, List.append_toArray, List.nil_append, List.cons_append]
  go_wp2
  have hB := below_alloc (Below.refl w.heap.size w) (.cells #[.slice none 0 0] 22)
  have hb2 := blk_new w (.cells #[.slice none 0 0] 22)
  obtain ⟨V0, hV0⟩ : ∃ V0, w.alloc (.cells #[.slice none 0 0] 22) = V0 := ⟨_, rfl⟩
  rw [hV0] at hB hb2 ⊢
  have hsz : w.heap.size < V0.heap.size := blk_lt hb2
  clear hV0
  refine wpIn_wide.1 (wpIn_rangeFunc_ownH (n := 3) rfl (by omega) (gf := 84) (lb := #[.pointer (some ⟨b1, 0, none⟩)]) rfl trivial (enters_of Try.func84 (by kernel_rfl) rfl)
    hseq belowK_t (belowK_b (by omega)) hB (fun _ => rfl)
    (fun pre W => BoxRow w pre W)
    (fun cc pre W => False)
    (boxRow_own w _ (by omega))
    (fun cc => ownFrom_pure _ _)
    ⟨_, own_nil _ _ _ _, hb2, hB⟩
    (fun x a' W => ∃ B u8 u9 u10 u11 u12, W.heap[B]? = some (.cells #[.int .i64 x.f0, .int .i64 x.f1] 47 (0, 0)) ∧ a' = { tmps := #[.slice none 0 0, .func (.func 84) #[] #[.pointer (some ⟨b1, 0, none⟩)], .pointer (some ⟨w.heap.size, 0, none⟩), undef, .slice none 0 0, .pointer (some ⟨B, 0, none⟩), .func (.func 84) #[] #[.pointer (some ⟨b1, 0, none⟩)], .agg #[.int .i64 x.f0, .int .i64 x.f1], u8, u9, u10, u11, u12], defers := [] })
    ?own ?assign ?body ?done ?stop)
  case own =>
    rintro x a' _ X Y row ⟨B, u8, u9, u10, u11, u12, hX, ha⟩ hg hr'
    exact ⟨B, u8, u9, u10, u11, u12, ownFrom_cells (B := V0.heap.size) () X Y row hX hg hr', ha⟩
  case assign =>
    intro lp pre x W K hI hK
    obtain ⟨v, h1, h2, h3⟩ := hI
    have hle : w.heap.size ≤ W.heap.size := h3.size
    have hlt : w.heap.size < W.heap.size := blk_lt h2
    have HK := Aside0.mk hK
    have H1 := Aside0.mk h1
    have H2 := Aside0.mk h2
    have H3 := Aside0.mk h3
    clear hK h1 h2 h3
    gi_wp2
    refine HK.out _ _ (KeepsFrom.of_grownBy (World.grownBy_alloc W _ none) (fun _ e => by cases e)) ((Below.refl _ _).alloc hle _) ⟨v, ?_, blk_alloc H2.out _, H3.out.alloc hle _⟩ ⟨_, _, _, _, _, _, blk_new W _, rfl⟩
    exact ownFrom_own (B := 0) (f := fun _ : Unit => v) (n := fun _ => pre.length) (g := fun _ => flat47 pre) () W _ none H1.out (World.grownBy_alloc W _ none) (fun _ e => by cases e)
  case body =>
    rintro lp pre x a' W hlp _ ⟨v, h1, h2, h3⟩ ⟨B, u8, u9, u10, u11, u12, hX, rfl⟩ hlen
    obtain ⟨i0, hi, hz0, hz1, hz2⟩ := info_parts info47
    obtain ⟨A', c', rfl⟩ := own_slice h1
    have hle : w.heap.size ≤ W.heap.size := h3.size
    have hlt : w.heap.size < W.heap.size := blk_lt h2
    have c2 : W.cell? ⟨w.heap.size, 0, none⟩ = some (.slice A' pre.length c') := (blk_cell h2 0).trans rfl
    have c50 : W.cell? ⟨B, 0, none⟩ = some (.int .i64 x.f0) := (blk_cell hX 0).trans rfl
    have c51 : W.cell? ⟨B, 1, none⟩ = some (.int .i64 x.f1) := (blk_cell hX 1).trans rfl
    have lB := blk_lt hX
    have H1 := Aside0.mk h1
    have H2 := Aside0.mk h2
    have H3 := Aside0.mk h3
    clear h1 h2 h3 hX
    gi_wp2_with (gi_at_builtin; refine wpListIn_append_own _ rfl _ _ 22 rfl w.heap.size 47 i0 (.agg #[.int .i64 0, .int .i64 0]) 2 16 Try.underlying22 hi hz0 hz1 hz2 rfl (by decide) _ _ _ rfl (H1.out.alloc _) ⟨W.heap.size, 0, none⟩ 1 1 [.int .i64 x.f0, .int .i64 x.f1] rfl rfl ?c1 ?c2 ?c3 ?c4 ?c5 ?_)
    case c1 =>
      intro j u hj
      match j, hj with
      | 0, hj => simp at hj; subst hj; simp [Addr.add]
      | 1, hj => simp at hj; subst hj; simp [Addr.add]
    case c2 => intro u hu; simp at hu; rcases hu with rfl | rfl <;> rfl
    case c3 => unfold maxLen; omega
    case c4 => omega
    case c5 => simp; omega
    intro v' w1 hown' hgrow _
    obtain ⟨A2, cc2, rfl⟩ := own_slice hown'
    have hne1 := own_ne H1.out H2.out (by decide)
    have hbx1 := blk_grown (blk_alloc H2.out (.cells #[.int .i64 x.f0, .int .i64 x.f1] 47)) hgrow hne1
    have hne2 := own_ne hown' hbx1 (by decide)
    have hB1 := ((Below.refl w.heap.size W).alloc hle (.cells #[.int .i64 x.f0, .int .i64 x.f1] 47)).grown hgrow (by simp; omega) (own_base H1.out)
    have hk1 : KeepsFrom V0.heap.size W w1 := by
      refine ⟨hB1.size, fun k o hk ho hc => (hgrow.block k (by have := blk_lt ho; simp; omega) (fun e => ?_)).trans (blk_alloc ho _)⟩
      obtain ⟨cells, hcs⟩ := own_typed H1.out k e.symm
      rw [hcs] at ho; cases ho; cases hc
    have c21 : w1.cell? ⟨w.heap.size, 0, none⟩ = some (.slice A' pre.length c') := (blk_cell hbx1 0).trans rfl
    have f21 := blk_frozen hbx1 0
    have K1 := Aside0.mk hk1
    have BB1 := Aside0.mk hB1
    have BX1 := Aside0.mk hbx1
    have OW1 := Aside0.mk hown'
    have NE2 := Aside0.mk hne2
    clear hown' hgrow hne1 hbx1 hne2 hB1 hk1 c2 c50 c51
    gi_wp2
    refine ⟨K1.out.trans (KeepsFrom.of_grownBy (grownBy_setCell' w1 w.heap.size _) (fun j e => by cases e; exact hsz)), BB1.out.setCell (Nat.le_refl _) _, _, ?_, blk_put BX1.out 0 _ rfl, (H3.out.trans BB1.out).setCell (Nat.le_refl _) _⟩
    rw [flat47_snoc, List.length_append]
    exact own_setCell OW1.out NE2.out _
  case done =>
    rintro D zs W hD rfl ⟨v, h1, h2, h3⟩ hK
    obtain ⟨A', c', rfl⟩ := own_slice h1
    have c2 : W.cell? ⟨w.heap.size, 0, none⟩ = some (.slice A' zs.length c') := (blk_cell h2 0).trans rfl
    have H1 := Aside0.mk h1
    have H3 := Aside0.mk h3
    have HK := Aside0.mk hK
    clear h1 h2 h3 hK
    dsimp only
    go_wp2
    refine leave_marks [D] W (by simp) (fun E hE => by simp at hE; rw [hE]; exact HK.out) (fun W' hk hb => ?_)
    refine ⟨_, results_tmp rfl _ _ _, _, rfl, ?_, H3.out.trans (hb _ (fun E hE => by simp at hE; omega) H3.out.size)⟩
    refine own_move H1.out (fun k hk' => ?_)
    obtain ⟨cells, hcs⟩ := own_typed H1.out k hk'
    exact (hk k _ hcs (fun e => by simp at e; rw [e, HK.out] at hcs; cases hcs)).trans hcs.symm
  case stop => exact fun _ _ _ _ _ _ h => h.elim
end Go.Proofs.Ytaaonhfaoaabbaa.X
