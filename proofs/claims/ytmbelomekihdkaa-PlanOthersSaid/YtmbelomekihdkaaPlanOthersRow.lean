/- PlanOthers: for every input the law returns true and leaves its arguments as they were: the row. -/
import Derived.Test.YtmbelomekihdkaaShell
import Derived.Test.YtmbelomekihdkaaPlanOthers
import Derived.Test.YtmbelomekihdkaaLay
namespace Go.Proofs.Ytmbelomekihdkaa
open Go.ChangeShapes Go.WideShapes Go.ChangeAt Go.RowKit

set_option maxRecDepth 100000 in
theorem planOthers_lifted (os : Os) (started : os.Started) (H : Type) (enc : TypeId × Value → H) :
    ReturnsInHanded {} Try.checked os 4 .any (Rows.planOthersSpec.pre6 enc Try.prog Try.f4 Rows.planOthersRow.domain false) (Rows.planOthersSpec.post enc Try.prog Try.f4 false true false false) := by
  refine returnsInHanded_of_change_sized (C := Try.checked) Try.own started (by kernel_rfl) Try.func4
    (ChangeSpec.witness6 (enc := enc) (C := Try.checked) false ⟨#[], #[.agg #[.int .i64 0, .int .i64 0, .int .i64 0, .int .i64 0], .agg #[.int .i64 0, .int .i64 0, .int .i64 0, .int .i64 0]], []⟩ 8 (by kernel_rfl) (by kernel_rfl) (by kernel_rfl) (by kernel_rfl)) ?_
  intro W base args ds gs before hval0 hW _ _ _
  have hval : ∀ (j : Nat) t v, Try.f4.params[j]? = some t → args[j]? = some v → Value.okWide Try.prog W .any base t v := hval0
  have hW' := hW
  obtain ⟨p, q, hA0, hV, rfl, hfz, hnd⟩ := hW
  have hA : DataW.TrodAll enc Try.prog W 0 (fun _ => true) true Try.f4.params.toList args.toList ds p := hA0
  have hlt : ∀ x ∈ p ++ q, x.block < W.heap.size := fun x hx => hW'.lt x hx
  rw [Try.params4] at hA hval
  obtain ⟨v0, v1, d0, d1, p0, p1, rfl, rfl, rfl, h0, h1⟩ := trodAll_two hA
  obtain ⟨rfl, rfl⟩ := trodVars_none hV
  obtain ⟨a, b, c, d, rfl, ba, bb, bc, bd⟩ := open_layout (hval 0 23 v0 rfl rfl) h0
  obtain ⟨a', b', c', d', rfl, ba', bb', bc', bd'⟩ := open_layout (hval 1 23 v1 rfl rfl) h1
  refine (planOthers_any a b c d a' b' c' d' ba bb bc bd ba' bb' bc' bd' W).mono fun e W' ⟨he, hbel⟩ => ?_
  subst he
  exact ⟨_, rfl, post_law Try.laidOut (by rw [Try.params4]; exact of_decide_eq_true (by kernel_rfl)) Try.underlying4 rfl rfl ⟨rfl, rfl, rfl⟩ hW' hbel⟩

theorem planOthers_holds : Rows.PlanOthersSaid :=
  OpenClaim.holds_of_wide 4 Try.f4 rfl rfl rfl rfl rfl rfl rfl ⟨rfl, rfl, rfl, rfl, rfl⟩ rfl rfl rfl rfl rfl (by kernel_rfl) Try.func4 (by kernel_rfl)
    (of_decide_eq_true (by kernel_rfl)) (by unfold Func.isWrapper; first | (rw [if_pos (by decide +kernel)]; kernel_rfl) | (rw [if_neg (by decide +kernel)]; exact ⟨rfl, rfl⟩))
    (fun os started H enc _ => planOthers_lifted os started H enc)
#print axioms planOthers_holds
end Go.Proofs.Ytmbelomekihdkaa
