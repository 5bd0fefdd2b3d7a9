/- PackerFull: for every input the law returns true and leaves its arguments as they were: the row and its tied card. -/
import Derived.Test.YtecmopfaeopmdaaDoorLaid
import Derived.Test.YtecmopfaeopmdaaDoorPackFull
import Derived.Test.YtecmopfaeopmdaaDoorOpenRecs
import Derived.Test.YtecmopfaeopmdaaDoorCards
import Derived.Test.YtecmopfaeopmdaaDoorTie
import Derived.SevenTiedAt
namespace Go.Proofs.YtecmopfaeopmdaaDoor
open Go.ChangeShapes Go.WideShapes Go.ChangeAt Go.RowKit

set_option maxRecDepth 100000 in
theorem packerFull_lifted (os : Os) (started : os.Started) (H : Type) (enc : TypeId × Value → H) :
    ReturnsInHanded {} Tryd.checked os 3 .any (fun w args => (Rows.packerFullSpec.pre enc Tryd.prog Tryd.f3 [] false w args ∧ laidMetH Tryd.prog laidList w) ∧ sizedMet enc Tryd.prog Tryd.f3 (OpenSpec.ofChange Rows.packerFullSpec) false w args)
      (Rows.packerFullSpec.post enc Tryd.prog Tryd.f3 false true false false) := by
  refine returnsInHanded_of_change_and (C := Tryd.checked) (X := fun w _ => laidMetH Tryd.prog laidList w) (fun _ _ _ hh h => h.of_heap hh) Tryd.own started (by kernel_rfl) Tryd.func3
    (ChangeSpec.witness_shaped (enc := enc) (C := Tryd.checked) (os := os) (X := fun w _ => laidMetH Tryd.prog laidList w) false (World.doorLaid Tryd.prog 400 os) #[.agg #[.int .i64 0, .int .i64 0, .int .i64 0, .int .i64 0], .int .i64 0, .slice none 0 0] 8 rfl (World.shaped_of_RefB (by kernel_rfl) (by kernel_rfl)) (by kernel_rfl) (by kernel_rfl) (by kernel_rfl) (door_met os _)) ?_
  intro W base args ds gs before hval0 hW _ _ hL _
  have hval : ∀ (j : Nat) t v, Tryd.f3.params[j]? = some t → args[j]? = some v → Value.okWide Tryd.prog W .any base t v := hval0
  have hW' := hW
  obtain ⟨p, q, hA0, hV, rfl, hfz, hnd⟩ := hW
  have hA : DataW.TrodAll enc Tryd.prog W 0 (fun _ => true) true Tryd.f3.params.toList args.toList ds p := hA0
  have hlt : ∀ x ∈ p ++ q, x.block < W.heap.size := fun x hx => hW'.lt x hx
  rw [Tryd.params3] at hA hval
  obtain ⟨v0, v1, v2, d0, d1, d2, p0, p1, p2, rfl, rfl, rfl, h0, h1, h2⟩ := trodAll_three hA
  obtain ⟨rfl, rfl⟩ := trodVars_none hV
  obtain ⟨n, rfl, rfl, rfl, wn⟩ := open_int Tryd.underlying3 (hval 1 3 v1 rfl rfl) h1
  obtain ⟨lo_n, hi_n⟩ := i64_of_wf wn
  obtain ⟨a, b, c, d, rfl, qa, qb, qc, qd⟩ := open_Layout (hval 0 23 v0 rfl rfl) h0
  obtain ⟨At, nt, ct, tks, rfl, q4⟩ := open_bools Tryd.underlying24 Tryd.underlying4 (by kernel_rfl) (hval 2 24 v2 rfl rfl) h2 (fun x hx => hlt x (by simp [hx]))
  have ht := tab_of_laid hL
  refine (packerFull_any a b c d n At nt ct tks W ht (size_of_tab ht) qb qc q4.vat).mono fun e W' ⟨he, hbel⟩ => ?_
  subst he
  exact ⟨_, rfl, post_law Tryd.laidOut (by rw [Tryd.params3]; exact of_decide_eq_true (by kernel_rfl)) Tryd.underlying4 rfl rfl ⟨rfl, rfl, rfl⟩ hW' hbel⟩

theorem packerFull_holds : Rows.PackerFullSaid :=
  OpenClaim.holds_of_wide 3 Tryd.f3 rfl rfl rfl rfl rfl rfl rfl ⟨rfl, rfl, rfl, rfl, rfl⟩ rfl rfl rfl rfl rfl (by kernel_rfl) Tryd.func3 (by kernel_rfl)
    (of_decide_eq_true (by kernel_rfl)) (by unfold Func.isWrapper; first | (rw [if_pos (by decide +kernel)]; kernel_rfl) | (rw [if_neg (by decide +kernel)]; exact ⟨rfl, rfl⟩))
    (fun os started H enc _ => packerFull_lifted os started H enc)

theorem packerFull_card_holds : Rows.PackerFullCardSaid :=
  Claim7.holds_tied_plain_at .later [] [.data] true Rows.packerFullCard.stood.harness false
    packerFull_holds (fun _ h => by cases h) (by kernel_rfl) (fun _ h => by cases h) packerFull_row_tie rfl ⟨rfl, rfl⟩ (by kernel_rfl) rfl
    (fun f fn hf hfn => by
      obtain rfl : f = 3 := Option.some.inj ((show Tryd.prog.funcNamed "flashcache/flashcachelaw13.PackerFull" = some 3 by kernel_rfl).symm.trans hf) |>.symm
      obtain rfl : fn = Tryd.f3 := (Option.some.inj (Tryd.func3.symm.trans hfn)).symm
      exact ⟨by kernel_rfl, fun j t ht => by
        rw [Tryd.params3] at ht
        have hm : t ∈ [23, 3, 24] := by simpa using Array.mem_of_getElem? ht
        have hall : ([23, 3, 24].all fun u => !Tryd.prog.wantsStandIn u) = true := by kernel_rfl
        exact (show Tryd.prog.wantsStandIn t = false by simpa using List.all_eq_true.1 hall t hm)⟩)
    (by kernel_rfl)
#print axioms packerFull_card_holds
end Go.Proofs.YtecmopfaeopmdaaDoor
