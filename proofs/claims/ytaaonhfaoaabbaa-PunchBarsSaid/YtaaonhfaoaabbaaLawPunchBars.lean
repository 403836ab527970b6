/- PunchBars: lengths and bridges are as stated. For every paper and slot; no condition. -/
import Derived.Test.YtaaonhfaoaabbaaRows
import Derived.Test.YtaaonhfaoaabbaaH1
import Derived.Test.YtaaonhfaoaabbaaG5
namespace Go.Proofs.Ytaaonhfaoaabbaa.punchBars
open Go.ChangeShapes Go.WideShapes Go.ChangeAt Go.RowKit
open Go.ChangeMaps (open_string shut_string)
theorem own : ownKnob Try.prog.godebug = none := by kernel_rfl
set_option maxRecDepth 100000 in
theorem lifted (os : Os) (started : os.Started) (H : Type) (enc : TypeId × Value → H) :
 ReturnsInHanded {} Try.checked os 6 .any (Rows.punchBarsSpec.pre6 enc Try.prog Try.f6 Rows.punchBarsRow.domain false) (Rows.punchBarsSpec.post enc Try.prog Try.f6 false true false false) := by
 refine returnsInHanded_of_change_sized (C := Try.checked) own started (by kernel_rfl) Try.func6
  (ChangeSpec.witness6 (enc := enc) (C := Try.checked) false ⟨#[], #[.agg #[.int .i64 0, .int .i64 0, .int .i64 0, .int .i64 0, .int .i64 0], .agg #[.int .i64 0, .int .i64 0]], []⟩ 8 (by kernel_rfl) (by kernel_rfl) (by kernel_rfl) (by kernel_rfl)) ?_
 intro W base args ds gs before hval0 hW hcnd hsz0 _
 have hval : ∀ (j : Nat) t v, Try.f6.params[j]? = some t → args[j]? = some v → Value.okWide Try.prog W .any base t v := hval0
 have hW' := hW
 obtain ⟨p, q, hA0, hV, rfl, hfz, hnd⟩ := hW
 have hA : DataW.TrodAll enc Try.prog W 0 (fun _ => true) true Try.f6.params.toList args.toList ds p := hA0
 rw [Try.params6] at hA hval
 obtain ⟨v0, vs0, d0, ds0, p0, q0, hargs, rfl, rfl, h0, r0⟩ := trodAll_cons hA
 obtain ⟨v1, vs1, d1, ds1, p1, q1, rfl, rfl, rfl, h1, r1⟩ := trodAll_cons r0
 obtain ⟨rfl, rfl, rfl⟩ := trodAll_nil r1
 obtain rfl : args = #[v0, v1] := by cases args; simp_all
 obtain ⟨rfl, rfl⟩ := trodVars_none hV
 obtain ⟨x0, x1, x2, x3, x4, rfl, _, _, _, _, _⟩ := X.open_paper (hval 0 57 v0 rfl rfl) h0
 obtain ⟨a, b, rfl, wa, wb⟩ := X.open_slot (hval 1 47 v1 rfl rfl) h1
 obtain ⟨k, hk⟩ := X.punchBars_pure x0 x1 x2 x3 x4 a b
 clear hA0 hval0 hsz0
 refine (X.pianolalaw03_PunchBars.calls k x0 x1 x2 x3 x4 a b true W hk).mono fun e W' ⟨he, bel⟩ => ?_
 subst he
 exact ⟨_, rfl, _, _, _, [], _, [], hW', trodAll_mk1 (shut_bool Try.underlying4 _), trodAll_cons_mk (X.back (by kernel_rfl) (of_decide_eq_true (by kernel_rfl)) h0 bel) (trodAll_cons_mk (X.back (by kernel_rfl) (of_decide_eq_true (by kernel_rfl)) h1 bel) trodAll_mk0), rfl, bel.frame _, fun h => by cases h⟩
theorem over : Rows.punchBarsRow.holds Try.pinned (OpenSpec.ofChange Rows.punchBarsSpec) :=
 OpenClaim.holds_of_wide 6 Try.f6 rfl rfl rfl rfl rfl rfl rfl ⟨rfl, rfl, rfl, rfl, rfl⟩ rfl rfl rfl rfl rfl (by kernel_rfl) Try.func6 (by kernel_rfl)
  (of_decide_eq_true (by kernel_rfl)) (by unfold Func.isWrapper; first | (rw [if_pos (by decide +kernel)]; kernel_rfl) | (rw [if_neg (by decide +kernel)]; exact ⟨rfl, rfl⟩))
  (fun os started H enc _ => lifted os started H enc)
theorem proved : Rows.PunchBarsSaid := over
#print axioms proved
end Go.Proofs.Ytaaonhfaoaabbaa.punchBars
namespace Go.Proofs.Ytaaonhfaoaabbaa
/-- The row, under a short name, for the claim. -/
theorem punchBars_holds : Rows.PunchBarsSaid := punchBars.proved
end Go.Proofs.Ytaaonhfaoaabbaa
