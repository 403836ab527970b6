/- Arguments that are lists of numbers, papers, lanes, opened. -/
import Derived.Test.YtaaonhfaoaabbaaH0
import Derived.Deep.Slices
namespace Go.Proofs.Ytaaonhfaoaabbaa.X
open Go.ChangeShapes Go.WideShapes Go.ChangeAt Go.RowKit Go.Joins Go.Deep Go.Proofs.YtaaonhfaoaabbaaW.PrintWords Go.Proofs.YtaaonhfaoaabbaaW.PrintLast
section
variable {H : Type} {enc : TypeId × Value → H} {W : World} {base : Nat} {v : Value} {d : DataW H} {p : List MemPlace}
/-- A row of numbers that came in. -/
theorem open_row {t e : Nat} {k : IntKind} {fuel : Nat} {u : Value} {x : DataW H × List MemPlace} (ht : Try.prog.underlying t = some (.slice e)) (he : Try.prog.underlying e = some (.int k)) (hc1 : Try.prog.cellsOf e = 1)
    (h : DataW.trod enc Try.prog W 0 (fun _ => true) true fuel t [u] = some x) :
    ∃ (A : Option Addr) (c : Nat) (l : List Int), u = .slice A l.length c ∧ Kd.C (Kd.int k) W A l.length l ∧ l.length ≤ c ∧ ∀ q ∈ l, (Lit.int k q).wf = true := by
  rcases open_slice1 ht hc1 h with ⟨hu, _⟩ | ⟨a, len, cap, m, n, V, D, Pl, hu, _, hlc, hcm, hm, _, hall⟩
  · obtain rfl : u = .slice none 0 0 := by simpa using hu
    exact ⟨none, 0, [], rfl, ⟨rfl, by simp, fun h => absurd h (by simp)⟩, by simp, by simp⟩
  · obtain rfl : u = .slice (some a) len cap := by simpa using hu
    have each : ∀ j, j < len → ∃ n, V j = .int k n ∧ (Lit.int k n).wf = true := fun j hj => by
      obtain ⟨e0, t0⟩ := hall j (by rw [hm]; simp; omega)
      obtain ⟨n0, hn0, _, hw⟩ := DataW.trod_int he t0
      exact ⟨n0, by simpa using hn0, hw⟩
    refine ⟨some a, cap, (List.range len).map (fun i => intOf (V i)), by simp, ⟨by simp, by simp; unfold maxLen at hcm; omega, fun _ => ⟨a, rfl, fun j q hq => ?_⟩⟩, by simpa using hlc, fun q hq => ?_⟩
    · have hj : j < len := by have := (List.getElem?_eq_some_iff.1 hq).1; simpa using this
      have hqe : q = intOf (V j) := by
        have := (List.getElem?_eq_some_iff.1 hq).2
        simpa using this.symm
      obtain ⟨e0, t0⟩ := hall j (by rw [hm]; simp; omega)
      obtain ⟨n0, hn0, hw⟩ := each j hj
      refine ⟨[.int k q], rfl, rfl, fun i u hu => ?_⟩
      have hsz : (Kd.int k).sz = 1 := rfl
      rw [hsz]
      rw [hqe, hn0] at hu
      match i, hu with
      | 0, hu => simp [intOf] at hu; subst hu; rw [Nat.mul_one, Nat.add_zero, e0, hn0]
    · obtain ⟨j, hj, rfl⟩ := List.mem_map.1 hq
      obtain ⟨n0, hn0, hw⟩ := each j (List.mem_range.1 hj)
      rw [hn0]
      exact hw
set_option maxRecDepth 100000 in
theorem open_ints (hv : Value.okWide Try.prog W .any base 26 v) (h : DataW.Trod enc Try.prog W 0 (fun _ => true) true 26 v d p) :
    ∃ (A : Option Addr) (c : Nat) (l : List Int), v = .slice A l.length c ∧ Kd.C (Kd.int .i64) W A l.length l ∧ l.length ≤ c := by
  obtain ⟨a, len, cap, rfl⟩ := okWide_slice Try.underlying26 hv
  obtain ⟨fuel, hf⟩ := h
  obtain ⟨A, c, l, h1, h2, h3, _⟩ := open_row Try.underlying26 Try.underlying3 (by kernel_rfl) (show DataW.trod enc Try.prog W 0 (fun _ => true) true fuel 26 [.slice a len cap] = some (d, p) from hf)
  exact ⟨A, c, l, h1, h2, h3⟩
set_option maxRecDepth 100000 in
theorem open_bytes (hv : Value.okWide Try.prog W .any base 79 v) (h : DataW.Trod enc Try.prog W 0 (fun _ => true) true 79 v d p) :
    ∃ (A : Option Addr) (c : Nat) (l : List Int), v = .slice A l.length c ∧ Kd.C (Kd.int .u8) W A l.length l ∧ l.length ≤ c ∧ ∀ q ∈ l, (Lit.int .u8 q).wf = true := by
  obtain ⟨a, len, cap, rfl⟩ := okWide_slice Try.underlying79 hv
  obtain ⟨fuel, hf⟩ := h
  exact open_row Try.underlying79 Try.underlying5 (by kernel_rfl) (show DataW.trod enc Try.prog W 0 (fun _ => true) true fuel 79 [.slice a len cap] = some (d, p) from hf)
set_option maxRecDepth 100000 in
/-- A list of slots that came in. -/
theorem open_slotlist (hv : Value.okWide Try.prog W .any base 22 v) (h : DataW.Trod enc Try.prog W 0 (fun _ => true) true 22 v d p) :
    ∃ (A : Option Addr) (c : Nat) (l : List S47), v = .slice A l.length c ∧ Kd.C k47 W A l.length l ∧ l.length ≤ c := by
  obtain ⟨a, len, cap, rfl⟩ := okWide_slice Try.underlying22 hv
  obtain ⟨fuel, hf⟩ := h
  exact open_slots (show DataW.trod enc Try.prog W 0 (fun _ => true) true fuel 22 [.slice a len cap] = some (d, p) from hf)
theorem int_of {t : Nat} {k : IntKind} {n : Nat} {u : Value} {y : DataW H × List MemPlace} (ht : Try.prog.underlying t = some (.int k)) (h : DataW.trod enc Try.prog W 0 (fun _ => true) true n t [u] = some y) : ∃ a, u = .int k a ∧ (Lit.int k a).wf = true := by
  obtain ⟨a, ha, _, hw⟩ := DataW.trod_int ht h
  exact ⟨a, by simpa using ha, hw⟩
set_option maxRecDepth 100000 in
/-- Two numbers of an array. -/
theorem pair_of {n : Nat} {cs : List Value} {y : DataW H × List MemPlace} (hl : cs.length = 2) (h : DataW.trod enc Try.prog W 0 (fun _ => true) true n 82 cs = some y) :
    ∃ a b : Int, cs = [.int .u8 a, .int .u8 b] ∧ (Lit.int .u8 a).wf = true ∧ (Lit.int .u8 b).wf = true := by
  have k5 : Try.prog.cellsOf 5 = 1 := by kernel_rfl
  match cs, hl with
  | [c0, c1], _ =>
    obtain ⟨xs, m, _, _, _, hlen, hf⟩ := DataW.trod_array Try.underlying82 h
    match xs, hlen with
    | [y0, y1], _ =>
      have g0 := hf 0 (by omega)
      have g1 := hf 1 (by omega)
      rw [k5] at g0 g1
      obtain ⟨a, rfl, wa⟩ := int_of Try.underlying5 (show DataW.trod enc Try.prog W 0 (fun _ => true) true m 5 [c0] = some y0 from g0)
      obtain ⟨b, rfl, wb⟩ := int_of Try.underlying5 (show DataW.trod enc Try.prog W 0 (fun _ => true) true m 5 [c1] = some y1 from g1)
      exact ⟨a, b, rfl, wa, wb⟩
set_option maxRecDepth 100000 in
/-- A paper that came in. -/
theorem open_paper (hv : Value.okWide Try.prog W .any base 57 v) (h : DataW.Trod enc Try.prog W 0 (fun _ => true) true 57 v d p) :
    ∃ a b c e f : Int, v = .agg #[.int .i64 a, .int .i64 b, .int .i64 c, .int .i64 e, .int .i64 f] ∧ (Lit.int .i64 a).wf = true ∧ (Lit.int .i64 b).wf = true ∧ (Lit.int .i64 c).wf = true ∧ (Lit.int .i64 e).wf = true ∧ (Lit.int .i64 f).wf = true := by
  have k57 : Try.prog.cellsOf 57 = 5 := by kernel_rfl
  have k55 : Try.prog.cellsOf 55 = 2 := by kernel_rfl
  have k3 : Try.prog.cellsOf 3 = 1 := by kernel_rfl
  obtain ⟨cs, rfl, hsz⟩ := okWide_struct Try.underlying57 hv
  rw [k57] at hsz
  obtain ⟨l⟩ := cs
  match l, hsz with
  | [c0, c1, c2, c3, c4], _ =>
    obtain ⟨fuel, hf⟩ := h
    obtain ⟨xs, n, _, _, _, hlen, hf⟩ := DataW.trod_struct Try.underlying57 hf
    match xs, hlen with
    | [y0, y1, y2, y3], _ =>
      have g0 : DataW.trod enc Try.prog W 0 (fun _ => true) true n 55 ((([c0, c1, c2, c3, c4] : List Value).drop 0).take (Try.prog.cellsOf 55)) = some y0 := hf 0 _ rfl
      have g1 : DataW.trod enc Try.prog W 0 (fun _ => true) true n 3 ((([c0, c1, c2, c3, c4] : List Value).drop 2).take (Try.prog.cellsOf 3)) = some y1 := hf 1 _ rfl
      have g2 : DataW.trod enc Try.prog W 0 (fun _ => true) true n 3 ((([c0, c1, c2, c3, c4] : List Value).drop 3).take (Try.prog.cellsOf 3)) = some y2 := hf 2 _ rfl
      have g3 : DataW.trod enc Try.prog W 0 (fun _ => true) true n 3 ((([c0, c1, c2, c3, c4] : List Value).drop 4).take (Try.prog.cellsOf 3)) = some y3 := hf 3 _ rfl
      rw [k55] at g0
      rw [k3] at g1 g2 g3
      obtain ⟨zs, m, _, _, _, hlen2, hf2⟩ := DataW.trod_struct Try.underlying55 (show DataW.trod enc Try.prog W 0 (fun _ => true) true n 55 [c0, c1] = some y0 from g0)
      match zs, hlen2 with
      | [z0, z1], _ =>
        have q0 : DataW.trod enc Try.prog W 0 (fun _ => true) true m 3 ((([c0, c1] : List Value).drop 0).take (Try.prog.cellsOf 3)) = some z0 := hf2 0 _ rfl
        have q1 : DataW.trod enc Try.prog W 0 (fun _ => true) true m 3 ((([c0, c1] : List Value).drop 1).take (Try.prog.cellsOf 3)) = some z1 := hf2 1 _ rfl
        rw [k3] at q0 q1
        obtain ⟨a, rfl, wa⟩ := int_of Try.underlying3 (show DataW.trod enc Try.prog W 0 (fun _ => true) true m 3 [c0] = some z0 from q0)
        obtain ⟨b, rfl, wb⟩ := int_of Try.underlying3 (show DataW.trod enc Try.prog W 0 (fun _ => true) true m 3 [c1] = some z1 from q1)
        obtain ⟨c, rfl, wc⟩ := int_of Try.underlying3 (show DataW.trod enc Try.prog W 0 (fun _ => true) true n 3 [c2] = some y1 from g1)
        obtain ⟨e, rfl, we⟩ := int_of Try.underlying3 (show DataW.trod enc Try.prog W 0 (fun _ => true) true n 3 [c3] = some y2 from g2)
        obtain ⟨f, rfl, wf⟩ := int_of Try.underlying3 (show DataW.trod enc Try.prog W 0 (fun _ => true) true n 3 [c4] = some y3 from g3)
        exact ⟨a, b, c, e, f, rfl, wa, wb, wc, we, wf⟩
set_option maxRecDepth 100000 in
/-- A paper by numbers that came in. -/
theorem open_sheet (hv : Value.okWide Try.prog W .any base 86 v) (h : DataW.Trod enc Try.prog W 0 (fun _ => true) true 86 v d p) :
    ∃ a b c e f : Int, v = .agg #[.int .u8 a, .int .u8 b, .int .u8 c, .int .u8 e, .int .u8 f] ∧ (Lit.int .u8 a).wf = true ∧ (Lit.int .u8 b).wf = true ∧ (Lit.int .u8 c).wf = true ∧ (Lit.int .u8 e).wf = true ∧ (Lit.int .u8 f).wf = true := by
  have k86 : Try.prog.cellsOf 86 = 5 := by kernel_rfl
  have k82 : Try.prog.cellsOf 82 = 2 := by kernel_rfl
  have k5 : Try.prog.cellsOf 5 = 1 := by kernel_rfl
  obtain ⟨cs, rfl, hsz⟩ := okWide_struct Try.underlying86 hv
  rw [k86] at hsz
  obtain ⟨l⟩ := cs
  match l, hsz with
  | [c0, c1, c2, c3, c4], _ =>
    obtain ⟨fuel, hf⟩ := h
    obtain ⟨xs, n, _, _, _, hlen, hf⟩ := DataW.trod_struct Try.underlying86 hf
    match xs, hlen with
    | [y0, y1, y2, y3], _ =>
      have g0 : DataW.trod enc Try.prog W 0 (fun _ => true) true n 82 ((([c0, c1, c2, c3, c4] : List Value).drop 0).take (Try.prog.cellsOf 82)) = some y0 := hf 0 _ rfl
      have g1 : DataW.trod enc Try.prog W 0 (fun _ => true) true n 5 ((([c0, c1, c2, c3, c4] : List Value).drop 2).take (Try.prog.cellsOf 5)) = some y1 := hf 1 _ rfl
      have g2 : DataW.trod enc Try.prog W 0 (fun _ => true) true n 5 ((([c0, c1, c2, c3, c4] : List Value).drop 3).take (Try.prog.cellsOf 5)) = some y2 := hf 2 _ rfl
      have g3 : DataW.trod enc Try.prog W 0 (fun _ => true) true n 5 ((([c0, c1, c2, c3, c4] : List Value).drop 4).take (Try.prog.cellsOf 5)) = some y3 := hf 3 _ rfl
      rw [k82] at g0
      rw [k5] at g1 g2 g3
      obtain ⟨a, b, hab, wa, wb⟩ := pair_of rfl (show DataW.trod enc Try.prog W 0 (fun _ => true) true n 82 [c0, c1] = some y0 from g0)
      obtain ⟨rfl, rfl⟩ : c0 = .int .u8 a ∧ c1 = .int .u8 b := by simpa using hab
      obtain ⟨c, rfl, wc⟩ := int_of Try.underlying5 (show DataW.trod enc Try.prog W 0 (fun _ => true) true n 5 [c2] = some y1 from g1)
      obtain ⟨e, rfl, we⟩ := int_of Try.underlying5 (show DataW.trod enc Try.prog W 0 (fun _ => true) true n 5 [c3] = some y2 from g2)
      obtain ⟨f, rfl, wf⟩ := int_of Try.underlying5 (show DataW.trod enc Try.prog W 0 (fun _ => true) true n 5 [c4] = some y3 from g3)
      exact ⟨a, b, c, e, f, rfl, wa, wb, wc, we, wf⟩
set_option maxRecDepth 100000 in
/-- A row of pairs that came in. -/
theorem open_pairs {fuel : Nat} {u : Value} {x : DataW H × List MemPlace} (h : DataW.trod enc Try.prog W 0 (fun _ => true) true fuel 72 [u] = some x) :
    ∃ (A : Option Addr) (c : Nat) (l : List S82), u = .slice A l.length c ∧ Kd.C k82 W A l.length l ∧ l.length ≤ c ∧ ∀ q ∈ l, (Lit.int .u8 q.f0).wf = true ∧ (Lit.int .u8 q.f1).wf = true := by
  have k82' : Try.prog.cellsOf 82 = 2 := by kernel_rfl
  rcases open_slice Try.underlying72 h with ⟨hu, _⟩ | ⟨a, len, cap, m, n, D, Pl, hu, _, hlc, hcm, hm, _, hall⟩
  · obtain rfl : u = .slice none 0 0 := by simpa using hu
    exact ⟨none, 0, [], rfl, ⟨rfl, by simp, fun h => absurd h (by simp)⟩, by simp, by simp⟩
  · obtain rfl : u = .slice (some a) len cap := by simpa using hu
    have each : ∀ j, j < len → ∃ q : Int × Int, (W.cell? (a.add (j * 2)) = some (.int .u8 q.1) ∧ W.cell? (a.add (j * 2 + 1)) = some (.int .u8 q.2)) ∧ (Lit.int .u8 q.1).wf = true ∧ (Lit.int .u8 q.2).wf = true := fun j hj => by
      obtain ⟨cs', e0, t0⟩ := hall j (by rw [hm]; simp; omega)
      rw [k82'] at e0
      obtain ⟨_, hlen, hcell⟩ := World.cells?_some e0
      obtain ⟨q0, q1, rfl, w0, w1⟩ := pair_of hlen t0
      have f0 := hcell 0 (by omega)
      have f1 := hcell 1 (by omega)
      rw [Go.Deep.add_add] at f0 f1
      exact ⟨(q0, q1), ⟨by simpa using f0, by simpa using f1⟩, w0, w1⟩
    obtain ⟨f, hf⟩ := choose_lt each
    refine ⟨some a, cap, (List.range len).map (fun i => ⟨(f i).1, (f i).2⟩), by simp, ⟨by simp, by simp; unfold maxLen at hcm; omega, fun _ => ⟨a, rfl, fun j q hq => ?_⟩⟩, by simpa using hlc, fun q hq => ?_⟩
    · have hj : j < len := by have := (List.getElem?_eq_some_iff.1 hq).1; simpa using this
      have hqe : q = ⟨(f j).1, (f j).2⟩ := by
        have := (List.getElem?_eq_some_iff.1 hq).2
        simpa using this.symm
      obtain ⟨⟨e0, e1⟩, _⟩ := hf j hj
      refine ⟨[.int .u8 q.f0, .int .u8 q.f1], rfl, k82_mk W q, fun i u hu => ?_⟩
      have hsz : k82.sz = 2 := rfl
      rw [hsz]
      rw [hqe] at hu
      match i, hu with
      | 0, hu => simp at hu; subst hu; rw [Nat.add_zero, e0]
      | 1, hu => simp at hu; subst hu; rw [e1]
    · obtain ⟨j, hj, rfl⟩ := List.mem_map.1 hq
      exact (hf j (List.mem_range.1 hj)).2
set_option maxRecDepth 100000 in
/-- A lane that came in. -/
theorem open_lane (hv : Value.okWide Try.prog W .any base 74 v) (h : DataW.Trod enc Try.prog W 0 (fun _ => true) true 74 v d p) :
    ∃ (rest : Int) (A : Option Addr) (c : Nat) (l : List S82), v = .agg #[.int .u8 rest, .slice A l.length c] ∧ Kd.C k82 W A l.length l ∧ l.length ≤ c ∧ (Lit.int .u8 rest).wf = true ∧ ∀ q ∈ l, (Lit.int .u8 q.f0).wf = true ∧ (Lit.int .u8 q.f1).wf = true := by
  obtain ⟨v0, v1, y0, y1, n, rfl, _, _, h0, h1⟩ := open_agg2 Try.underlying74 (by kernel_rfl) (by kernel_rfl) hv h
  obtain ⟨rest, rfl, hw⟩ := int_of Try.underlying5 h0
  obtain ⟨A, c, l, rfl, hC, hc, hq⟩ := open_pairs h1
  exact ⟨rest, A, c, l, rfl, hC, hc, hw, hq⟩
end
end Go.Proofs.Ytaaonhfaoaabbaa.X
