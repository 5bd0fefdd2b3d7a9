/- AdmitCheck: for every input the law returns true and leaves its arguments as they were: the row. -/
import Derived.Test.YtepbchaeeldjmaaShell
import Derived.Test.YtepbchaeeldjmaaAdmitLaw
import Derived.Test.YtepbchaeeldjmaaOpenAdmit
namespace Go.Proofs.Ytepbchaeeldjmaa
open Go.ChangeShapes Go.WideShapes Go.ChangeAt Go.RowKit

set_option maxRecDepth 100000 in
theorem admitCheck_lifted (os : Os) (started : os.Started) (H : Type) (enc : TypeId × Value → H) :
    ReturnsInHanded {} Try.checked os 3 .any (Rows.admitCheckSpec.pre6 enc Try.prog Try.f3 Rows.admitCheckRow.domain false) (Rows.admitCheckSpec.post enc Try.prog Try.f3 false true false false) := by
  refine returnsInHanded_of_change_sized (C := Try.checked) Try.own started (by kernel_rfl) Try.func3
    (ChangeSpec.witness6 (enc := enc) (C := Try.checked) false ⟨#[], #[.agg #[.int .i64 0, .int .i64 0, .int .i64 0, .int .i64 0, .int .i64 0, .int .i64 0, .slice none 0 0, .slice none 0 0]], []⟩ 8 (by kernel_rfl) (by kernel_rfl) (by kernel_rfl) (by kernel_rfl)) ?_
  intro W base args ds gs before hval0 hW _ _ _
  have hval : ∀ (j : Nat) t v, Try.f3.params[j]? = some t → args[j]? = some v → Value.okWide Try.prog W .any base t v := hval0
  have hW' := hW
  obtain ⟨p, q, hA0, hV, rfl, hfz, hnd⟩ := hW
  have hA : DataW.TrodAll enc Try.prog W 0 (fun _ => true) true Try.f3.params.toList args.toList ds p := hA0
  have hlt : ∀ x ∈ p ++ q, x.block < W.heap.size := fun x hx => hW'.lt x hx
  rw [Try.params3] at hA hval
  obtain ⟨v0, d0, rfl, rfl, h0⟩ := trodAll_one hA
  obtain ⟨rfl, rfl⟩ := trodVars_none hV
  obtain ⟨l_id, l_ve, l_rs, l_rg, no, tt, Ak, nk, ck, bk, Av, nv, cv, bv, rfl, q1, q2, q3, q4, q5, q6, q7, q8⟩ := open_Request (hval 0 26 v0 rfl rfl) h0 (fun x hx => hlt x (by simp [hx]))
  refine (admitCheck_any l_id l_ve l_rs l_rg no tt Ak Av nk ck nv cv q1 q2 q3 q4 q5 q6 q7.2.1 q8.2.1 q7.2.2 q8.2.2 W).mono fun e W' ⟨he, hbel⟩ => ?_
  subst he
  exact ⟨_, rfl, post_law Try.laidOut (by rw [Try.params3]; exact of_decide_eq_true (by kernel_rfl)) Try.underlying4 rfl rfl ⟨rfl, rfl, rfl⟩ hW' hbel⟩

theorem admitCheck_holds : Rows.AdmitCheckSaid :=
  OpenClaim.holds_of_wide 3 Try.f3 rfl rfl rfl rfl rfl rfl rfl ⟨rfl, rfl, rfl, rfl, rfl⟩ rfl rfl rfl rfl rfl (by kernel_rfl) Try.func3 (by kernel_rfl)
    (of_decide_eq_true (by kernel_rfl)) (by unfold Func.isWrapper; first | (rw [if_pos (by decide +kernel)]; kernel_rfl) | (rw [if_neg (by decide +kernel)]; exact ⟨rfl, rfl⟩))
    (fun os started H enc _ => admitCheck_lifted os started H enc)
#print axioms admitCheck_holds
end Go.Proofs.Ytepbchaeeldjmaa
