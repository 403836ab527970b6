/- Arguments that are jobs, slots, papers, opened. -/
import Derived.Test.YtaaonhfaoaabbaaXx0
import Derived.WalkKit
import Derived.ProofKit
import Derived.OpenShut
import Derived.ShutString
import Derived.ChangeOld
import Derived.Below
import Derived.SizedLaws
import Derived.Lib.SmallJoins
import Derived.Deep.SlicePairs
namespace Go.Proofs.Ytaaonhfaoaabbaa.X
open Go.ChangeShapes Go.WideShapes Go.ChangeAt Go.RowKit Go.Joins Go.Deep Go.Proofs.YtaaonhfaoaabbaaW.PrintWords Go.Proofs.YtaaonhfaoaabbaaW.PrintLast
theorem laidOut : laidOutB Try.prog = true := by kernel_rfl
section
variable {H : Type} {enc : TypeId × Value → H} {W : World} {base : Nat} {v : Value} {d : DataW H} {p : List MemPlace}
/-- A row of slots that came in. -/
theorem open_slots {fuel : Nat} {u : Value} {x : DataW H × List MemPlace} (h : DataW.trod enc Try.prog W 0 (fun _ => true) true fuel 22 [u] = some x) :
    ∃ (A : Option Addr) (c : Nat) (l : List S47), u = .slice A l.length c ∧ Kd.C k47 W A l.length l ∧ l.length ≤ c := by
  rcases open_slice_pairs Try.underlying22 Try.underlying47 (by kernel_rfl) rfl rfl (by kernel_rfl) (by kernel_rfl) h with ⟨hu, _⟩ | ⟨a, len, cap, m, n, V0, V1, D0, D1, P0, P1, hu, _, hlc, hcm, hm, _, hall⟩
  · obtain rfl : u = .slice none 0 0 := by simpa using hu
    exact ⟨none, 0, [], rfl, ⟨rfl, by simp, fun h => absurd h (by simp)⟩, by simp⟩
  · obtain rfl : u = .slice (some a) len cap := by simpa using hu
    refine ⟨some a, cap, (List.range len).map (fun i => ⟨intOf (V0 i), intOf (V1 i)⟩), by simp, ⟨by simp, by simp; unfold maxLen at hcm; omega, fun _ => ⟨a, rfl, fun j q hq => ?_⟩⟩, by simpa using hlc⟩
    have hj : j < len := by have := (List.getElem?_eq_some_iff.1 hq).1; simpa using this
    have hqe : q = ⟨intOf (V0 j), intOf (V1 j)⟩ := by
      have := (List.getElem?_eq_some_iff.1 hq).2
      simpa using this.symm
    have hjm : j < m := by rw [hm]; simp; omega
    obtain ⟨e0, e1, t0, t1⟩ := hall j hjm
    obtain ⟨n0, hn0, _, _⟩ := DataW.trod_int Try.underlying3 t0
    obtain ⟨n1, hn1, _, _⟩ := DataW.trod_int Try.underlying3 t1
    have hv0 : V0 j = .int .i64 n0 := by simpa using hn0
    have hv1 : V1 j = .int .i64 n1 := by simpa using hn1
    refine ⟨[.int .i64 q.f0, .int .i64 q.f1], rfl, k47_mk W q, fun i u hu => ?_⟩
    have hsz : k47.sz = 2 := rfl
    rw [hsz]
    rw [hqe, hv0, hv1] at hu
    match i, hu with
    | 0, hu => simp [intOf] at hu; subst hu; rw [Nat.add_zero, e0, hv0]
    | 1, hu => simp [intOf] at hu; subst hu; rw [e1, hv1]
set_option maxRecDepth 100000 in
/-- A job that came in. -/
theorem open_job (hv : Value.okWide Try.prog W .any base 24 v) (h : DataW.Trod enc Try.prog W 0 (fun _ => true) true 24 v d p) :
    ∃ (rest : Int) (A : Option Addr) (c : Nat) (l : List S47), v = .agg #[.int .i64 rest, .slice A l.length c] ∧ Kd.C k47 W A l.length l ∧ l.length ≤ c ∧ (Lit.int .i64 rest).wf = true := by
  obtain ⟨v0, v1, y0, y1, n, rfl, _, _, h0, h1⟩ := open_agg2 Try.underlying24 (by kernel_rfl) (by kernel_rfl) hv h
  obtain ⟨rest, hr, _, hw⟩ := DataW.trod_int Try.underlying3 h0
  obtain rfl : v0 = .int .i64 rest := by simpa using hr
  obtain ⟨A, c, l, rfl, hC, hc⟩ := open_slots h1
  exact ⟨rest, A, c, l, rfl, hC, hc, hw⟩
set_option maxRecDepth 100000 in
/-- A slot that came in. -/
theorem open_slot (hv : Value.okWide Try.prog W .any base 47 v) (h : DataW.Trod enc Try.prog W 0 (fun _ => true) true 47 v d p) :
    ∃ a b : Int, v = .agg #[.int .i64 a, .int .i64 b] ∧ (Lit.int .i64 a).wf = true ∧ (Lit.int .i64 b).wf = true := by
  obtain ⟨v0, v1, y0, y1, n, rfl, _, _, h0, h1⟩ := open_agg2 Try.underlying47 (by kernel_rfl) (by kernel_rfl) hv h
  obtain ⟨a, ha, _, hwa⟩ := DataW.trod_int Try.underlying3 h0
  obtain ⟨b, hb, _, hwb⟩ := DataW.trod_int Try.underlying3 h1
  obtain rfl : v0 = .int .i64 a := by simpa using ha
  obtain rfl : v1 = .int .i64 b := by simpa using hb
  exact ⟨a, b, rfl, hwa, hwb⟩
/-- What came in is read again as it was. -/
theorem back {t : Nat} (hr : Try.prog.readableRec t = true) (ht : t < Try.prog.types.size) {W' : World} (h : DataW.Trod enc Try.prog W 0 (fun _ => true) true t v d p) (hb : Below W.heap.size W W') : DataW.Trod enc Try.prog W' 0 (fun b => decide (b < W.heap.size)) true t v d p :=
  Below.trod laidOut hr ht h hb (by obtain ⟨m, hm⟩ := h; exact DataW.trod_lt m _ _ _ hm)
end
end Go.Proofs.Ytaaonhfaoaabbaa.X
