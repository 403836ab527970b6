/- PunchBest: no plan has fewer passes than the one that is returned: all are tried; some moment has a crowd of as many slots. For every lane by numbers; no condition. -/
import Derived.Test.YtaaonhfaoaabbaaRows
import Derived.Test.YtaaonhfaoaabbaaH1
import Derived.Test.YtaaonhfaoaabbaaG7
namespace Go.Proofs.Ytaaonhfaoaabbaa.punchBest
open Go.ChangeShapes Go.WideShapes Go.ChangeAt Go.RowKit
open Go.ChangeMaps (open_string shut_string)
theorem own : ownKnob Try.prog.godebug = none := by kernel_rfl
set_option maxRecDepth 100000 in
theorem lifted (os : Os) (started : os.Started) (H : Type) (enc : TypeId × Value → H) :
 ReturnsInHanded {} Try.checked os 8 .any (Rows.punchBestSpec.pre6 enc Try.prog Try.f8 Rows.punchBestRow.domain false) (Rows.punchBestSpec.post enc Try.prog Try.f8 false true false false) := by
 refine returnsInHanded_of_change_sized (C := Try.checked) own started (by kernel_rfl) Try.func8
  (ChangeSpec.witness6 (enc := enc) (C := Try.checked) false ⟨#[], #[.agg #[.int .u8 0, .slice none 0 0]], []⟩ 8 (by kernel_rfl) (by kernel_rfl) (by kernel_rfl) (by kernel_rfl)) ?_
 intro W base args ds gs before hval0 hW hcnd hsz0 _
 have hval : ∀ (j : Nat) t v, Try.f8.params[j]? = some t → args[j]? = some v → Value.okWide Try.prog W .any base t v := hval0
 have hW' := hW
 obtain ⟨p, q, hA0, hV, rfl, hfz, hnd⟩ := hW
 have hA : DataW.TrodAll enc Try.prog W 0 (fun _ => true) true Try.f8.params.toList args.toList ds p := hA0
 rw [Try.params8] at hA hval
 obtain ⟨v0, vs0, d0, ds0, p0, q0, hargs, rfl, rfl, h0, r0⟩ := trodAll_cons hA
 obtain ⟨rfl, rfl, rfl⟩ := trodAll_nil r0
 obtain rfl : args = #[v0] := by cases args; simp_all
 obtain ⟨rfl, rfl⟩ := trodVars_none hV
 obtain ⟨rest, A, c, l, rfl, hC, hc, hw, hq⟩ := X.open_lane (hval 0 74 v0 rfl rfl) h0
 obtain ⟨k, hk⟩ := X.punchBest_pure hw hq
 clear hA0 hval0 hsz0
 refine (X.pianolalaw03_PunchBest.calls k rest A c l true W hC hc hk).mono fun e W' ⟨he, bel⟩ => ?_
 subst he
 exact ⟨_, rfl, _, _, _, [], _, [], hW', trodAll_mk1 (shut_bool Try.underlying4 _), trodAll_cons_mk (X.back (by kernel_rfl) (of_decide_eq_true (by kernel_rfl)) h0 bel) trodAll_mk0, rfl, bel.frame _, fun h => by cases h⟩
theorem over : Rows.punchBestRow.holds Try.pinned (OpenSpec.ofChange Rows.punchBestSpec) :=
 OpenClaim.holds_of_wide 8 Try.f8 rfl rfl rfl rfl rfl rfl rfl ⟨rfl, rfl, rfl, rfl, rfl⟩ rfl rfl rfl rfl rfl (by kernel_rfl) Try.func8 (by kernel_rfl)
  (of_decide_eq_true (by kernel_rfl)) (by unfold Func.isWrapper; first | (rw [if_pos (by decide +kernel)]; kernel_rfl) | (rw [if_neg (by decide +kernel)]; exact ⟨rfl, rfl⟩))
  (fun os started H enc _ => lifted os started H enc)
theorem proved : Rows.PunchBestSaid := over
#print axioms proved
end Go.Proofs.Ytaaonhfaoaabbaa.punchBest
namespace Go.Proofs.Ytaaonhfaoaabbaa
/-- The row, under a short name, for the claim. -/
theorem punchBest_holds : Rows.PunchBestSaid := punchBest.proved
end Go.Proofs.Ytaaonhfaoaabbaa
