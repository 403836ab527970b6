/- PunchVerifies: plans are accepted, and slots added, as stated. For every job, plan and slot; no condition. -/
import Derived.Test.YtaaonhfaoaabbaaRows
import Derived.Test.YtaaonhfaoaabbaaH1
import Derived.Test.YtaaonhfaoaabbaaG4
namespace Go.Proofs.Ytaaonhfaoaabbaa.punchVerifies
open Go.ChangeShapes Go.WideShapes Go.ChangeAt Go.RowKit
open Go.ChangeMaps (open_string shut_string)
theorem own : ownKnob Try.prog.godebug = none := by kernel_rfl
set_option maxRecDepth 100000 in
theorem lifted (os : Os) (started : os.Started) (H : Type) (enc : TypeId × Value → H) :
 ReturnsInHanded {} Try.checked os 5 .any (Rows.punchVerifiesSpec.pre6 enc Try.prog Try.f5 Rows.punchVerifiesRow.domain false) (Rows.punchVerifiesSpec.post enc Try.prog Try.f5 false true false false) := by
 refine returnsInHanded_of_change_sized (C := Try.checked) own started (by kernel_rfl) Try.func5
  (ChangeSpec.witness6 (enc := enc) (C := Try.checked) false ⟨#[], #[.agg #[.int .i64 0, .slice none 0 0], .slice none 0 0, .agg #[.int .i64 0, .int .i64 0]], []⟩ 8 (by kernel_rfl) (by kernel_rfl) (by kernel_rfl) (by kernel_rfl)) ?_
 intro W base args ds gs before hval0 hW hcnd hsz0 _
 have hval : ∀ (j : Nat) t v, Try.f5.params[j]? = some t → args[j]? = some v → Value.okWide Try.prog W .any base t v := hval0
 have hW' := hW
 obtain ⟨p, q, hA0, hV, rfl, hfz, hnd⟩ := hW
 have hA : DataW.TrodAll enc Try.prog W 0 (fun _ => true) true Try.f5.params.toList args.toList ds p := hA0
 rw [Try.params5] at hA hval
 obtain ⟨v0, vs0, d0, ds0, p0, q0, hargs, rfl, rfl, h0, r0⟩ := trodAll_cons hA
 obtain ⟨v1, vs1, d1, ds1, p1, q1, rfl, rfl, rfl, h1, r1⟩ := trodAll_cons r0
 obtain ⟨v2, vs2, d2, ds2, p2, q2, rfl, rfl, rfl, h2, r2⟩ := trodAll_cons r1
 obtain ⟨rfl, rfl, rfl⟩ := trodAll_nil r2
 obtain rfl : args = #[v0, v1, v2] := by cases args; simp_all
 obtain ⟨rfl, rfl⟩ := trodVars_none hV
 obtain ⟨rest, A, c, l, rfl, hC, hc, _⟩ := X.open_job (hval 0 24 v0 rfl rfl) h0
 obtain ⟨A1, c1, l1, rfl, hC1, hc1⟩ := X.open_ints (hval 1 26 v1 rfl rfl) h1
 obtain ⟨a, b, rfl, wa, wb⟩ := X.open_slot (hval 2 47 v2 rfl rfl) h2
 obtain ⟨k, hk⟩ := X.punchVerifies_pure rest l l1 a b
 clear hA0 hval0 hsz0
 refine (X.pianolalaw03_PunchVerifies.calls k rest A c l A1 c1 l1 a b true W hC hc hC1 hc1 hk).mono fun e W' ⟨he, bel⟩ => ?_
 subst he
 exact ⟨_, rfl, _, _, _, [], _, [], hW', trodAll_mk1 (shut_bool Try.underlying4 _), trodAll_cons_mk (X.back (by kernel_rfl) (of_decide_eq_true (by kernel_rfl)) h0 bel) (trodAll_cons_mk (X.back (by kernel_rfl) (of_decide_eq_true (by kernel_rfl)) h1 bel) (trodAll_cons_mk (X.back (by kernel_rfl) (of_decide_eq_true (by kernel_rfl)) h2 bel) trodAll_mk0)), rfl, bel.frame _, fun h => by cases h⟩
theorem over : Rows.punchVerifiesRow.holds Try.pinned (OpenSpec.ofChange Rows.punchVerifiesSpec) :=
 OpenClaim.holds_of_wide 5 Try.f5 rfl rfl rfl rfl rfl rfl rfl ⟨rfl, rfl, rfl, rfl, rfl⟩ rfl rfl rfl rfl rfl (by kernel_rfl) Try.func5 (by kernel_rfl)
  (of_decide_eq_true (by kernel_rfl)) (by unfold Func.isWrapper; first | (rw [if_pos (by decide +kernel)]; kernel_rfl) | (rw [if_neg (by decide +kernel)]; exact ⟨rfl, rfl⟩))
  (fun os started H enc _ => lifted os started H enc)
theorem proved : Rows.PunchVerifiesSaid := over
#print axioms proved
end Go.Proofs.Ytaaonhfaoaabbaa.punchVerifies
namespace Go.Proofs.Ytaaonhfaoaabbaa
/-- The row, under a short name, for the claim. -/
theorem punchVerifies_holds : Rows.PunchVerifiesSaid := punchVerifies.proved
end Go.Proofs.Ytaaonhfaoaabbaa
