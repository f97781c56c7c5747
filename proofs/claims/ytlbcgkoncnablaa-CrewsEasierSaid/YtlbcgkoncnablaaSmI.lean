/- With one hand more, fewer skills asked for, or a lesser length, Muster is not later -/
import Derived.Test.YtlbcgkoncnablaaSmH
import Derived.Test.YtlbcgkoncnablaaK3
set_option linter.all false
namespace Go.Proofs.Ytlbcgkoncnablaa
open Go.RowKit Go.SX Go.ChangeShapes Go.WideShapes Go.ChangeAt
set_option maxRecDepth 100000
set_option maxHeartbeats 4000000

theorem crewsEasier_lifted (os : Os) (started : os.Started) (H : Type) (enc : TypeId × Value → H) :
    ReturnsInHanded {} Try.checked os 6 .any (Rows.crewsEasierSpec.pre6 enc Try.prog Try.f6 Rows.crewsEasierRow.domain false) (Rows.crewsEasierSpec.post enc Try.prog Try.f6 false true false false) := by
  refine returnsInHanded_of_change (C := Try.checked) own0 started (by kernel_rfl) Try.func6
    (ChangeSpec.witness6 (enc := enc) (C := Try.checked) false ⟨#[], #[.agg #[.slice none 0 0, .int .i64 0, .int .i64 0], .agg #[.int .i64 0, .slice none 0 0, .int .i64 0], .agg #[.int .i64 0, .int .i64 0, .int .i64 0, .slice none 0 0, .int .i64 0], .agg #[.int .i64 0, .slice none 0 0, .int .i64 0]], []⟩ 8 (by kernel_rfl) (by kernel_rfl) (by kernel_rfl) (by kernel_rfl)) ?_
  intro W base args ds gs before hval0 hW _ _
  have hval : ∀ (j : Nat) t v, Try.f6.params[j]? = some t → args[j]? = some v → Value.okWide Try.prog W .any base t v := hval0
  have hW' := hW
  obtain ⟨p, q, hA0, hV, rfl, hfz, hnd⟩ := hW
  have hA : DataW.TrodAll enc Try.prog W 0 (fun _ => true) true Try.f6.params.toList args.toList ds p := hA0
  rw [Try.params6] at hA hval
  obtain ⟨v0, v1, v2, v3, d0, d1, d2, d3, p0, p1, p2, p3, rfl, rfl, rfl, h0, h1, h2, h3⟩ := trodAll_four hA
  obtain ⟨rfl, rfl⟩ := trodVars_none hV
  obtain ⟨s0, hs0⟩ := station_of (hval 0 24 v0 rfl rfl) h0
  obtain ⟨x1, sv1, y1, l1, rfl, hl1⟩ := alarm_of (hval 1 40 v1 rfl rfl) h1
  obtain ⟨p, rfl, hp2⟩ := hand_of (hval 2 47 v2 rfl rfl) h2
  obtain ⟨x3, sv3, y3, l3, rfl, hl3⟩ := alarm_of (hval 3 40 v3 rfl rfl) h3
  exact law_calls (by kernel_rfl) rfl Try.underlying4 rfl hW' rfl rfl rfl (crewsEasier_fn W v0 s0 hs0 x1 sv1 y1 l1 hl1 p hp2 x3 sv3 y3 l3 hl3)

theorem crewsEasier_holds : Rows.CrewsEasierSaid :=
  OpenClaim.holds_of_wide 6 Try.f6 rfl rfl rfl rfl rfl rfl rfl ⟨rfl, rfl, rfl, rfl, rfl⟩ rfl rfl rfl rfl rfl (by kernel_rfl) Try.func6 (by kernel_rfl)
    (of_decide_eq_true (by kernel_rfl)) (by unfold Func.isWrapper; first | (rw [if_pos (by decide +kernel)]; kernel_rfl) | (rw [if_neg (by decide +kernel)]; exact ⟨rfl, rfl⟩))
    (fun os started H enc _ => crewsEasier_lifted os started H enc)

end Go.Proofs.Ytlbcgkoncnablaa
