/- WirePut: for every input the law returns true and leaves its arguments as they were: the row. -/
import Derived.Test.YtmbelomekihdkaaShell
import Derived.Test.YtmbelomekihdkaaWirePutLaw
namespace Go.Proofs.Ytmbelomekihdkaa
open Go.ChangeShapes Go.WideShapes Go.ChangeAt Go.RowKit

set_option maxRecDepth 100000 in
theorem wirePut_lifted (os : Os) (started : os.Started) (H : Type) (enc : TypeId × Value → H) :
    ReturnsInHanded {} Try.checked os 6 .any (Rows.wirePutSpec.pre6 enc Try.prog Try.f6 Rows.wirePutRow.domain false) (Rows.wirePutSpec.post enc Try.prog Try.f6 false true false false) := by
  refine returnsInHanded_of_change_sized (C := Try.checked) Try.own started (by kernel_rfl) Try.func6
    (ChangeSpec.witness6 (enc := enc) (C := Try.checked) false ⟨#[], #[.slice none 0 0, .int .u64 0, .int .i64 0], []⟩ 8 (by kernel_rfl) (by kernel_rfl) (by kernel_rfl) (by kernel_rfl)) ?_
  intro W base args ds gs before hval0 hW _ _ _
  have hval : ∀ (j : Nat) t v, Try.f6.params[j]? = some t → args[j]? = some v → Value.okWide Try.prog W .any base t v := hval0
  have hW' := hW
  obtain ⟨p, q, hA0, hV, rfl, hfz, hnd⟩ := hW
  have hA : DataW.TrodAll enc Try.prog W 0 (fun _ => true) true Try.f6.params.toList args.toList ds p := hA0
  have hlt : ∀ x ∈ p ++ q, x.block < W.heap.size := fun x hx => hW'.lt x hx
  rw [Try.params6] at hA hval
  obtain ⟨v0, v1, v2, d0, d1, d2, p0, p1, p2, rfl, rfl, rfl, h0, h1, h2⟩ := trodAll_three hA
  obtain ⟨rfl, rfl⟩ := trodVars_none hV
  obtain ⟨A_b, n_b, cap_b, bs_b, rfl, hb_b, hn_b, hcap_b, hnil_b⟩ := open_bytes Try.underlying35 Try.underlying5 (by kernel_rfl) (hval 0 35 v0 rfl rfl) h0 (fun x hx => hlt x (by simp [hx]))
  obtain ⟨n, rfl, rfl, rfl, wn⟩ := open_int Try.underlying36 (hval 1 36 v1 rfl rfl) h1
  obtain ⟨n, rfl, hc_n⟩ := u64_of_wf wn
  obtain ⟨w, rfl, rfl, rfl, ww⟩ := open_int Try.underlying3 (hval 2 3 v2 rfl rfl) h2
  obtain ⟨lo_w, hi_w⟩ := i64_of_wf ww
  refine (wirePut_any bs_b A_b n_b cap_b n w W hb_b hn_b hcap_b lo_w hi_w).mono fun e W' ⟨he, hbel⟩ => ?_
  subst he
  exact ⟨_, rfl, post_law Try.laidOut (by rw [Try.params6]; exact of_decide_eq_true (by kernel_rfl)) Try.underlying4 rfl rfl ⟨rfl, rfl, rfl⟩ hW' hbel⟩

theorem wirePut_holds : Rows.WirePutSaid :=
  OpenClaim.holds_of_wide 6 Try.f6 rfl rfl rfl rfl rfl rfl rfl ⟨rfl, rfl, rfl, rfl, rfl⟩ rfl rfl rfl rfl rfl (by kernel_rfl) Try.func6 (by kernel_rfl)
    (of_decide_eq_true (by kernel_rfl)) (by unfold Func.isWrapper; first | (rw [if_pos (by decide +kernel)]; kernel_rfl) | (rw [if_neg (by decide +kernel)]; exact ⟨rfl, rfl⟩))
    (fun os started H enc _ => wirePut_lifted os started H enc)
#print axioms wirePut_holds
end Go.Proofs.Ytmbelomekihdkaa
