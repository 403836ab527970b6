/- PunchHolds: bridged slots are accepted as stated. For every paper, slot and list of holes; no condition. -/
import Derived.Test.YtaaonhfaoaabbaaRows
import Derived.Test.YtaaonhfaoaabbaaH1
import Derived.Test.YtaaonhfaoaabbaaG8
namespace Go.Proofs.Ytaaonhfaoaabbaa.punchHolds
open Go.ChangeShapes Go.WideShapes Go.ChangeAt Go.RowKit
open Go.ChangeMaps (open_string shut_string)
theorem own : ownKnob Try.prog.godebug = none := by kernel_rfl
set_option maxRecDepth 100000 in
theorem lifted (os : Os) (started : os.Started) (H : Type) (enc : TypeId × Value → H) :
 ReturnsInHanded {} Try.checked os 7 .any (Rows.punchHoldsSpec.pre6 enc Try.prog Try.f7 Rows.punchHoldsRow.domain false) (Rows.punchHoldsSpec.post enc Try.prog Try.f7 false true false false) := by
 refine returnsInHanded_of_change_sized (C := Try.checked) own started (by kernel_rfl) Try.func7
  (ChangeSpec.witness6 (enc := enc) (C := Try.checked) false ⟨#[], #[.agg #[.int .i64 0, .int .i64 0, .int .i64 0, .int .i64 0, .int .i64 0], .agg #[.int .i64 0, .int .i64 0], .slice none 0 0], []⟩ 8 (by kernel_rfl) (by kernel_rfl) (by kernel_rfl) (by kernel_rfl)) ?_
 intro W base args ds gs before hval0 hW hcnd hsz0 _
 have hval : ∀ (j : Nat) t v, Try.f7.params[j]? = some t → args[j]? = some v → Value.okWide Try.prog W .any base t v := hval0
 have hW' := hW
 obtain ⟨p, q, hA0, hV, rfl, hfz, hnd⟩ := hW
 have hA : DataW.TrodAll enc Try.prog W 0 (fun _ => true) true Try.f7.params.toList args.toList ds p := hA0
 rw [Try.params7] at hA hval
 obtain ⟨v0, vs0, d0, ds0, p0, q0, hargs, rfl, rfl, h0, r0⟩ := trodAll_cons hA
 obtain ⟨v1, vs1, d1, ds1, p1, q1, rfl, rfl, rfl, h1, r1⟩ := trodAll_cons r0
 obtain ⟨v2, vs2, d2, ds2, p2, q2, rfl, rfl, rfl, h2, r2⟩ := trodAll_cons r1
 obtain ⟨rfl, rfl, rfl⟩ := trodAll_nil r2
 obtain rfl : args = #[v0, v1, v2] := by cases args; simp_all
 obtain ⟨rfl, rfl⟩ := trodVars_none hV
 obtain ⟨x0, x1, x2, x3, x4, rfl, _, _, _, _, _⟩ := X.open_paper (hval 0 57 v0 rfl rfl) h0
 obtain ⟨a, b, rfl, wa, wb⟩ := X.open_slot (hval 1 47 v1 rfl rfl) h1
 obtain ⟨A, c, l, rfl, hC, hc⟩ := X.open_slotlist (hval 2 22 v2 rfl rfl) h2
 obtain ⟨k, hk⟩ := X.punchHolds_pure x0 x1 x2 x3 x4 a b l
 clear hA0 hval0 hsz0
 refine (X.pianolalaw03_PunchHolds.calls k x0 x1 x2 x3 x4 a b A c l true W hC hc hk).mono fun e W' ⟨he, bel⟩ => ?_
 subst he
 exact ⟨_, rfl, _, _, _, [], _, [], hW', trodAll_mk1 (shut_bool Try.underlying4 _), trodAll_cons_mk (X.back (by kernel_rfl) (of_decide_eq_true (by kernel_rfl)) h0 bel) (trodAll_cons_mk (X.back (by kernel_rfl) (of_decide_eq_true (by kernel_rfl)) h1 bel) (trodAll_cons_mk (X.back (by kernel_rfl) (of_decide_eq_true (by kernel_rfl)) h2 bel) trodAll_mk0)), rfl, bel.frame _, fun h => by cases h⟩
theorem over : Rows.punchHoldsRow.holds Try.pinned (OpenSpec.ofChange Rows.punchHoldsSpec) :=
 OpenClaim.holds_of_wide 7 Try.f7 rfl rfl rfl rfl rfl rfl rfl ⟨rfl, rfl, rfl, rfl, rfl⟩ rfl rfl rfl rfl rfl (by kernel_rfl) Try.func7 (by kernel_rfl)
  (of_decide_eq_true (by kernel_rfl)) (by unfold Func.isWrapper; first | (rw [if_pos (by decide +kernel)]; kernel_rfl) | (rw [if_neg (by decide +kernel)]; exact ⟨rfl, rfl⟩))
  (fun os started H enc _ => lifted os started H enc)
theorem proved : Rows.PunchHoldsSaid := over
#print axioms proved
end Go.Proofs.Ytaaonhfaoaabbaa.punchHolds
namespace Go.Proofs.Ytaaonhfaoaabbaa
/-- The row, under a short name, for the claim. -/
theorem punchHolds_holds : Rows.PunchHoldsSaid := punchHolds.proved
end Go.Proofs.Ytaaonhfaoaabbaa
