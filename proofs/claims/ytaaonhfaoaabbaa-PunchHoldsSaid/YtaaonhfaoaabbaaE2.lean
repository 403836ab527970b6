import Derived.Test.YtaaonhfaoaabbaaE1
import Derived.Test.YtaaonhfaoaabbaaF
import Derived.Sort.QuietIn
namespace Go.Proofs.Ytaaonhfaoaabbaa.X
open Go.RowKit Go.Proofs.YtaaonhfaoaabbaaW.PrintWords Go.Proofs.YtaaonhfaoaabbaaW.PrintLast Go.Proofs.YtaaonhfaoaabbaaW.PrintMore
/-- The cells of a sheet. -/
def sheetCells (rest : Int) (A : Option Addr) (n c : Nat) (pass : List Int) : Array Value := ((.int .i64 rest : Value) :: .slice A n c :: pass.map (Value.int .i64)).toArray
theorem sheet_get (rest : Int) (A : Option Addr) (n c : Nat) (pass : List Int) (i : Nat) (h : i < pass.length) : (sheetCells rest A n c pass)[2 + i]? = some (.int .i64 (pass.getD i 0)) := by
  unfold sheetCells
  rw [show 2 + i = i + 1 + 1 from by omega]
  simp [h]
theorem sheet_set (rest : Int) (A : Option Addr) (n c : Nat) (pass : List Int) (i : Nat) (x : Int) : (sheetCells rest A n c pass).setIfInBounds (2 + i) (.int .i64 x) = sheetCells rest A n c (pass.set i x) := by
  unfold sheetCells
  rw [show 2 + i = i + 1 + 1 from by omega]
  simp [List.map_set]
def blankTo (k : Nat) : List Int := List.replicate k (-1) ++ List.replicate (40 - k) 0
theorem blankTo_set {k : Nat} (h : k < 40) : (blankTo k).set k (-1) = blankTo (k + 1) := by
  unfold blankTo
  rw [List.set_append_right _ _ (by simp), List.replicate_succ', List.append_assoc]
  congr 1
  rw [show 40 - k = (40 - (k + 1)) + 1 from by omega, List.replicate_succ]
  simp
theorem blankTo_len {k : Nat} (h : k ≤ 40) : (blankTo k).length = 40 := by unfold blankTo; simp; omega
set_option maxHeartbeats 2000000 in
theorem blank_calls (rest : Int) (A : Option Addr) (n c : Nat) (w : World) :
    Calls Try.prog 60 #[.agg #[.int .i64 rest, .slice A n c]] w fun e w' => ∃ g, e = .returned (.pointer (some ⟨g, 0, none⟩)) ∧ w.heap.size ≤ g ∧ w'.heap[g]? = some (.cells (sheetCells rest A n c (List.replicate 40 (-1))) 108 (0, 0)) ∧ Below w.heap.size w w' := by
  go_enter Try.func60, Try.ntmps60
  go_wp2
  go_loopw [8] (fun v wr => ∃ k : Nat, k ≤ 40 ∧ v = .int .i64 k ∧ Aside0 (wr.heap[w.heap.size + 1]? = some (.cells (sheetCells rest A n c (blankTo k)) 108 (0, 0))) ∧ Aside0 (Below w.heap.size w wr)) (fun v _ => 40 - (intOf v).toNat)
  case atStart => exact ⟨0, by omega, rfl, ⟨by have h_ := blk_new (w.alloc (.cells #[.int .i64 rest, .slice A n c] 24)) (.cells (sheetCells rest A n c (blankTo 0)) 108); rw [World.size_alloc] at h_; exact h_⟩, ⟨below_alloc (below_alloc (Below.refl _ _) _) _⟩⟩
  case round =>
    obtain ⟨k, hk, rfl, HX, HB⟩ := hrel
    by_cases hlt : k < 40
    · have hlz : (k : Int) < 40 := by omega
      have hc := (blk_cell HX.out (2 + k)).trans (sheet_get _ _ _ _ _ k (by rw [blankTo_len hk]; exact hlt))
      have hf := blk_frozen HX.out (2 + k)
      go_wp2
      go_roundw
      case rel => exact ⟨k + 1, by omega, by go_num, ⟨by rw [← blankTo_set hlt]; exact blk_put HX.out (2 + k) _ (sheet_set _ _ _ _ _ _ _)⟩, ⟨below_set HB.out (by omega)⟩⟩
      case measure => simp [intOf]; omega
    · have hlz : ¬ (k : Int) < 40 := by omega
      obtain rfl : k = 40 := by omega
      go_wp2
      go_ret
      exact ⟨w.heap.size + 1, rfl, by omega, HX.out, HB.out⟩
set_option maxHeartbeats 400000 in
theorem clashes_calls (gs : Nat) (a b : Int) (w : World) :
    Calls Try.prog 81 #[.pointer (some ⟨gs, 0, none⟩), .agg #[.int .i64 a, .int .i64 b]] w fun e w' => e = .returned (.func (.func 90) #[] #[.pointer (some ⟨w.heap.size, 0, none⟩), .pointer (some ⟨w.heap.size + 1, 0, none⟩)]) ∧
      w' = (w.alloc (.cells #[.pointer (some ⟨gs, 0, none⟩)] 104)).alloc (.cells #[.int .i64 a, .int .i64 b] 47) := by
  go_enter Try.func81, Try.ntmps81
  go_wp2
  go_ret
  exact ⟨rfl, rfl⟩
/-- The passes of the slots below k that clash. -/
def clashTo (rest : Int) (l : List S47) (pass : List Int) (s : S47) (k : Nat) : List Int :=
  ((List.range k).filter (fun i => clashB rest (l.getD i z47) s && decide (0 ≤ pass.getD i 0))).map (fun i => pass.getD i 0)
theorem clashTo_yes {rest : Int} {l : List S47} {pass : List Int} {s : S47} {k : Nat} (h : clashB rest (rd_T47 l k) s = true) (hp : 0 ≤ pass.getD k 0) : clashTo rest l pass s (k + 1) = clashTo rest l pass s k ++ [pass.getD k 0] := by
  have h' : clashB rest (l[k]?.getD z47) s = true := by simpa [rd_T47] using h
  have hp' : 0 ≤ pass[k]?.getD 0 := by simpa using hp
  unfold clashTo
  rw [List.range_succ, List.filter_append, List.map_append]
  simp [h', hp']
theorem clashTo_no {rest : Int} {l : List S47} {pass : List Int} {s : S47} {k : Nat} (h : (clashB rest (rd_T47 l k) s && decide (0 ≤ pass.getD k 0)) = false) : clashTo rest l pass s (k + 1) = clashTo rest l pass s k := by
  have h' : (clashB rest (l[k]?.getD z47) s && decide (0 ≤ pass[k]?.getD 0)) = false := by simpa [rd_T47] using h
  unfold clashTo
  rw [List.range_succ, List.filter_append, List.map_append]
  simp [h']
theorem abides_alloc {J : List Int → World → Prop} {B : Nat} (hJ : AbidesFrom B J) {s : List Int} {W : World} (h : J s W) (o : Obj) : J s (W.alloc o) :=
  hJ s W _ none h (World.grownBy_alloc W o none) (fun _ e => by cases e)
theorem abides_drew {J : List Int → World → Prop} {B : Nat} (hJ : AbidesFrom B J) {s : List Int} {W : World} (h : J s W) : J s W.drew :=
  hJ s W _ none h ⟨rfl, rfl, rfl, Nat.le_refl _, fun _ _ _ => rfl⟩ (fun _ e => by cases e)
theorem abides_drewN {J : List Int → World → Prop} {B : Nat} (hJ : AbidesFrom B J) {s : List Int} {W : World} (h : J s W) (n : Nat) : J s (W.drewN n) :=
  hJ s W _ none h ⟨rfl, rfl, rfl, Nat.le_refl _, fun _ _ _ => rfl⟩ (fun _ e => by cases e)
theorem clashTo_le (rest : Int) (l : List S47) (pass : List Int) (s : S47) {k m : Nat} (h : k ≤ m) : clashTo rest l pass s k <+: clashTo rest l pass s m := by
  unfold clashTo
  obtain ⟨d, rfl⟩ := Nat.exists_eq_add_of_le h
  rw [List.range_add, List.filter_append, List.map_append]
  exact List.prefix_append _ _
theorem clashTo_lt {rest : Int} {l : List S47} {pass : List Int} {s : S47} {k m : Nat} {x : Int} (h : k < m) (e : clashTo rest l pass s (k + 1) = clashTo rest l pass s k ++ [x]) : (clashTo rest l pass s k).length < (clashTo rest l pass s m).length := by
  have h1 := (clashTo_le rest l pass s (show k + 1 ≤ m from h)).length_le
  rw [e] at h1
  simp at h1
  omega
theorem pw_below_then {w W W' : World} (h : Below w.heap.size w W) (k : Below w.heap.size W W') : Below w.heap.size w W' := h.trans k
theorem mixed : Try.prog.follows .mixedOrders = true := by kernel_rfl
set_option maxRecDepth 100000 in
set_option maxHeartbeats 4000000 in
/-- The iterator over what clashes. -/
theorem clashes_in (n gs b2 b3 : Nat) (rest : Int) (A : Option Addr) (c : Nat) (l : List S47) (pass : List Int) (s0 s1 : Int) (w : World) (hl : l.length ≤ 40) (hp : pass.length = 40) (r0 : 0 ≤ rest) (r1 : rest ≤ 1000) (hok : l.all okSlot = true) (hs1 : 0 ≤ s1) (hs2 : s1 ≤ 1000000)
    (hs : w.heap[gs]? = some (.cells (sheetCells rest A l.length c pass) 108 (0, 0))) (h2 : w.heap[b2]? = some (.cells #[.pointer (some ⟨gs, 0, none⟩)] 104 (0, 0))) (h3 : w.heap[b3]? = some (.cells #[.int .i64 s0, .int .i64 s1] 47 (0, 0))) (hr : Kd.C k47 w A l.length l) :
    SeqStopsK Fence.wide n Try.prog 90 #[.pointer (some ⟨b2, 0, none⟩), .pointer (some ⟨b3, 0, none⟩)] (fun x : Int => #[.int .i64 x]) (Below w.heap.size) (fun ys => ys = clashTo rest l pass ⟨s0, s1⟩ l.length) (fun pre => pre <+: clashTo rest l pass ⟨s0, s1⟩ l.length) (clashTo rest l pass ⟨s0, s1⟩ l.length).length w := by
  intro lp J Jx W hW hJ hJx hY h0
  refine callsIn_of_wp Try.func90 rfl trivial ?_ rfl
  simp only [Try.ntmps90, List.size_toArray, List.length_cons, List.length_nil, Nat.reduceAdd, Nat.reduceSub, Array.replicate_succ, Array.replicate_zero, List.push_toArray, List.append_toArray, List.nil_append, List.cons_append]
  have HS := Aside0.mk hs
  have H2 := Aside0.mk h2
  have H3 := Aside0.mk h3
  have HR := Aside0.mk hr
  have HW := Aside0.mk hW
  have HOK := Aside0.mk hok
  have HP := Aside0.mk hp
  have HJ0 := Aside0.mk h0
  have HJ := Aside0.mk hJ
  have HY := Aside0.mk hY
  clear hs h2 h3 hr hW hok hp h0 hJ hJx hY
  have c2 : W.cell? ⟨b2, 0, none⟩ = some (.pointer (some ⟨gs, 0, none⟩)) := (blk_cell (blk_below H2.out HW.out) 0).trans rfl
  have cs1 : W.cell? ⟨gs, 1, none⟩ = some (.slice A l.length c) := (blk_cell (blk_below HS.out HW.out) 1).trans rfl
  gi_wp2
  gi_loopw [12] (fun v wr => ∃ k : Nat, k ≤ l.length ∧ v = .int .i64 k ∧ Aside0 (J (clashTo rest l pass ⟨s0, s1⟩ k) wr) ∧ Aside0 (Below w.heap.size w wr)) (fun v _ => l.length - (intOf v).toNat)
  case atStart => exact ⟨0, Nat.zero_le _, rfl, HJ0, HW⟩
  case round =>
    clear c2 cs1 HJ0
    obtain ⟨k, hk, rfl, HJk, HB⟩ := hrel
    by_cases hlt : k < l.length
    · have hlz : (k : Int) < (l.length : Int) := by omega
      obtain ⟨ad, rfl, h0, h1⟩ := at_T47 HR.out (k : Int) (by omega) (by omega)
      replace h0 := (HB.out.cell (World.block_lt_of_cell? w _ h0)).trans h0
      replace h1 := (HB.out.cell (World.block_lt_of_cell? w _ h1)).trans h1
      simp only [Int.toNat_natCast] at h0 h1
      have hbd := ok_bounds (all_at HOK.out hlt)
      have c2 : wr.cell? ⟨b2, 0, none⟩ = some (.pointer (some ⟨gs, 0, none⟩)) := (blk_cell (blk_below H2.out HB.out) 0).trans rfl
      have c30 : wr.cell? ⟨b3, 0, none⟩ = some (.int .i64 s0) := (blk_cell (blk_below H3.out HB.out) 0).trans rfl
      have c31 : wr.cell? ⟨b3, 1, none⟩ = some (.int .i64 s1) := (blk_cell (blk_below H3.out HB.out) 1).trans rfl
      have cs0 : wr.cell? ⟨gs, 0, none⟩ = some (.int .i64 rest) := (blk_cell (blk_below HS.out HB.out) 0).trans rfl
      have csk := (blk_cell (blk_below HS.out HB.out) (2 + k)).trans (sheet_get _ _ _ _ _ k (by rw [HP.out]; omega))
      have l2 := blk_lt (blk_below H2.out HB.out)
      have l3 := blk_lt (blk_below H3.out HB.out)
      have ls := blk_lt (blk_below HS.out HB.out)
      have hk40 : (k : Int) < 40 := by omega
      obtain ⟨f0, hf0⟩ : ∃ f0, f0 = (rd_T47 l (k : Int)).f0 := ⟨_, rfl⟩
      obtain ⟨f1, hf1⟩ : ∃ f1, f1 = (rd_T47 l (k : Int)).f1 := ⟨_, rfl⟩
      obtain ⟨pk, hpk⟩ : ∃ pk, pk = pass.getD k 0 := ⟨_, rfl⟩
      rw [← hf0] at h0 hbd
      rw [← hf1] at h1 hbd
      rw [← hpk] at csk
      have hcl : clashB rest (rd_T47 l (k : Int)) ⟨s0, s1⟩ = (decide (f0 < s1 + rest) && decide (s0 < f1 + rest)) := by rw [hf0, hf1]; rfl
      have HF := Aside0.mk (And.intro hf0 hf1)
      have HPK := Aside0.mk hpk
      have HCL := Aside0.mk hcl
      clear hf0 hf1 hpk hcl
      have hf1b := hbd.2.2
      have hf0b := hbd.1
      have hf01 := hbd.2.1
      clear hbd
      have w1 : IntKind.i64.wrap (s1 + rest) = s1 + rest := IntWalk.i64_in _ (by omega)
      have w2 : IntKind.i64.wrap (f1 + rest) = f1 + rest := IntWalk.i64_in _ (by omega)
      by_cases t1 : f0 < s1 + rest
      · by_cases t2 : s0 < f1 + rest
        · by_cases t3 : 0 ≤ pk
          · gi_wp2
            refine Go.Proofs.YtaaonhfaoaabbaaF.wideIn_still_tail 41 mixed (by kernel_rfl) ?_
            simp only [List.take_succ_cons, List.take_zero, List.drop_succ_cons, List.drop_zero]
            repeat still_step
            refine wpStill_nil ?_
            have hcy := clashTo_yes (pass := pass) (k := k) (by rw [HCL.out, decide_eq_true t1, decide_eq_true t2]; rfl) (by rw [← HPK.out]; exact t3)
            have hj1 := abides_drew HJ.out (abides_alloc HJ.out HJk.out (.cells #[.int .i64 f0, .int .i64 f1] 47))
            have hln := clashTo_lt (rest := rest) (l := l) (pass := pass) (s := ⟨s0, s1⟩) hlt hcy
            have HCY := Aside0.mk hcy
            clear hcy
            obtain ⟨fn, tmps, assign, body, hy, hR⟩ := HY.out _ pk _ hj1 hln
            have HR2 := Aside0.mk hR
            clear hR hj1 hln
            gi_wp2
            refine ⟨fun hd => absurd hd (by simp [Fence.wide]), HR2.out.mono ?_⟩
            rintro e W' (⟨rfl, hJ', hk'⟩ | ⟨rfl, hJx'⟩)
            · have HJ' := Aside0.mk hJ'
              have HB' := Aside0.mk ((pw_below_then (below_drew (below_alloc HB.out _)) hk'))
              clear hJ' hk' hy HR2
              gi_wp2
              go_roundw
              case rel => exact ⟨k + 1, by omega, by go_num, ⟨by rw [HCY.out, ← HPK.out]; exact HJ'.out⟩, HB'⟩
              case measure => simp [intOf]; omega
            · gi_wp2
              refine bodyPost_ret (results_none rfl _ _ _) rfl ?_
              exact ⟨⟨_, rfl⟩, .inr ⟨_, by rw [HPK.out, ← HCY.out]; exact clashTo_le _ _ _ _ hlt, hJx'⟩⟩
          · have t3' : decide (0 ≤ pk) = false := decide_eq_false t3
            gi_wp2
            refine wpIn_region_quiet_lit rfl (by kernel_rfl) (by kernel_rfl) ?_
            repeat (gi_big_quiet_step (fail))
            refine BigFrame.wpQuietIn_skip (fun _ _ _ _ => trivial) rfl ?_
            simp only [Act.put, List.setIfInBounds_toArray, List.set_cons_zero, List.set_cons_succ]
            repeat (gi_big_quiet_step (fail))
            refine wpQuietIn_nil ?_
            intro _ hw'
            obtain ⟨nq, hw''⟩ := hw'
            subst hw''
            gi_wp2
            go_roundw
            case rel => exact ⟨k + 1, by omega, by go_num, ⟨by rw [clashTo_no (by rw [HCL.out, ← HPK.out, t3']; simp)]; exact abides_drewN HJ.out (abides_alloc HJ.out HJk.out _) _⟩, ⟨pw_below_drewN (below_alloc HB.out _) _⟩⟩
            case measure => simp [intOf]; omega
        · have t2' : decide (s0 < f1 + rest) = false := decide_eq_false t2
          gi_wp2
          refine wpIn_region_quiet_lit rfl (by kernel_rfl) (by kernel_rfl) ?_
          repeat (gi_big_quiet_step (fail))
          refine BigFrame.wpQuietIn_skip (fun _ _ _ _ => trivial) rfl ?_
          simp only [Act.put, List.setIfInBounds_toArray, List.set_cons_zero, List.set_cons_succ]
          repeat (gi_big_quiet_step (fail))
          refine wpQuietIn_nil ?_
          intro _ hw'
          obtain ⟨nq, hw''⟩ := hw'
          subst hw''
          gi_wp2
          go_roundw
          case rel => exact ⟨k + 1, by omega, by go_num, ⟨by rw [clashTo_no (by rw [HCL.out, t2']; simp)]; exact abides_drewN HJ.out (abides_alloc HJ.out HJk.out _) _⟩, ⟨pw_below_drewN (below_alloc HB.out _) _⟩⟩
          case measure => simp [intOf]; omega
      · have t1' : decide (f0 < s1 + rest) = false := decide_eq_false t1
        gi_wp2
        refine wpIn_region_quiet_lit rfl (by kernel_rfl) (by kernel_rfl) ?_
        repeat (gi_big_quiet_step (fail))
        refine BigFrame.wpQuietIn_skip (fun _ _ _ _ => trivial) rfl ?_
        simp only [Act.put, List.setIfInBounds_toArray, List.set_cons_zero, List.set_cons_succ]
        repeat (gi_big_quiet_step (fail))
        refine wpQuietIn_nil ?_
        intro _ hw'
        obtain ⟨nq, hw''⟩ := hw'
        subst hw''
        gi_wp2
        go_roundw
        case rel => exact ⟨k + 1, by omega, by go_num, ⟨by rw [clashTo_no (by rw [HCL.out, t1']; simp)]; exact abides_drewN HJ.out (abides_alloc HJ.out HJk.out _) _⟩, ⟨pw_below_drewN (below_alloc HB.out _) _⟩⟩
        case measure => simp [intOf]; omega
    · have hlz : ¬ (k : Int) < (l.length : Int) := by omega
      gi_wp2
      go_end0
      exact ⟨⟨_, rfl⟩, .inl (by rw [show k = l.length from by omega] at HJk; exact HJk.out)⟩
end Go.Proofs.Ytaaonhfaoaabbaa.X
