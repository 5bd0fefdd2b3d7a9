/- SuperEncode: for every input the law returns true and leaves its arguments as they were: the row and its tied card. -/
import Derived.Test.YthjnbdbbeidhgaaDoorLaid
import Derived.Test.YthjnbdbbeidhgaaDoorSupEncLaw
import Derived.Test.YthjnbdbbeidhgaaDoorOpenSup
import Derived.Test.YthjnbdbbeidhgaaDoorCards
import Derived.Test.YthjnbdbbeidhgaaDoorTie
import Derived.SevenTiedAt
namespace Go.Proofs.YthjnbdbbeidhgaaDoor
open Go.ChangeShapes Go.WideShapes Go.ChangeAt Go.RowKit

set_option maxRecDepth 100000 in
theorem superEncode_lifted (os : Os) (started : os.Started) (H : Type) (enc : TypeId × Value → H) :
    ReturnsInHanded {} Tryd.checked os 5 .any (fun w args => (Rows.superEncodeSpec.pre enc Tryd.prog Tryd.f5 [] false w args ∧ laidMetH Tryd.prog laidList w) ∧ sizedMet enc Tryd.prog Tryd.f5 (OpenSpec.ofChange Rows.superEncodeSpec) false w args)
      (Rows.superEncodeSpec.post enc Tryd.prog Tryd.f5 false true false false) := by
  refine returnsInHanded_of_change_and (C := Tryd.checked) (X := fun w _ => laidMetH Tryd.prog laidList w) (fun _ _ _ hh h => h.of_heap hh) Tryd.own started (by kernel_rfl) Tryd.func5
    (ChangeSpec.witness_shaped (enc := enc) (C := Tryd.checked) (os := os) (X := fun w _ => laidMetH Tryd.prog laidList w) false (World.doorLaid Tryd.prog 400 os) #[.agg #[.int .i64 0, .int .i64 0, .int .i64 0, .int .i64 0, .int .i64 0, .int .i64 0, .int .i64 0, .int .i64 0, .int .i64 0, .int .i64 0, .int .i64 0, .int .i64 0, .int .i64 0, .slice none 0 0], .int .i64 0] 8 rfl (World.shaped_of_RefB (by kernel_rfl) (by kernel_rfl)) (by kernel_rfl) (by kernel_rfl) (by kernel_rfl) (door_met os _)) ?_
  intro W base args ds gs before hval0 hW _ _ hL _
  have hval : ∀ (j : Nat) t v, Tryd.f5.params[j]? = some t → args[j]? = some v → Value.okWide Tryd.prog W .any base t v := hval0
  have hW' := hW
  obtain ⟨p, q, hA0, hV, rfl, hfz, hnd⟩ := hW
  have hA : DataW.TrodAll enc Tryd.prog W 0 (fun _ => true) true Tryd.f5.params.toList args.toList ds p := hA0
  have hlt : ∀ x ∈ p ++ q, x.block < W.heap.size := fun x hx => hW'.lt x hx
  rw [Tryd.params5] at hA hval
  obtain ⟨v0, v1, d0, d1, p0, p1, rfl, rfl, rfl, h0, h1⟩ := trodAll_two hA
  obtain ⟨rfl, rfl⟩ := trodVars_none hV
  obtain ⟨sc, rfl, rfl, rfl, wsc⟩ := open_int Tryd.underlying3 (hval 1 3 v1 rfl rfl) h1
  obtain ⟨lo_sc, hi_sc⟩ := i64_of_wf wsc
  obtain ⟨g, p, m, t, n, a1, b1, c1, d1, a2, b2, c2, d2, A, k, c, fs, rfl, e1, e2, e3, e4, e5, e6, e7, e8, e9, e10, e11, e12, e13, ql⟩ := open_Super (hval 0 41 v0 rfl rfl) h0 (fun x hx => hlt x (by simp [hx]))
  have ht := tab_of_laid hL
  refine (superEncode_any g p m t n a1 b1 c1 d1 a2 b2 c2 d2 sc fs A k c W ht (size_of_tab ht) ql.1 ql.2.1 ql.2.2.1 ql.2.2.2 e6 e7 e8 e9 e10 e11 e12 e13).mono fun e W' ⟨he, hbel⟩ => ?_
  subst he
  exact ⟨_, rfl, post_law Tryd.laidOut (by rw [Tryd.params5]; exact of_decide_eq_true (by kernel_rfl)) Tryd.underlying4 rfl rfl ⟨rfl, rfl, rfl⟩ hW' hbel⟩

theorem superEncode_holds : Rows.SuperEncodeSaid :=
  OpenClaim.holds_of_wide 5 Tryd.f5 rfl rfl rfl rfl rfl rfl rfl ⟨rfl, rfl, rfl, rfl, rfl⟩ rfl rfl rfl rfl rfl (by kernel_rfl) Tryd.func5 (by kernel_rfl)
    (of_decide_eq_true (by kernel_rfl)) (by unfold Func.isWrapper; first | (rw [if_pos (by decide +kernel)]; kernel_rfl) | (rw [if_neg (by decide +kernel)]; exact ⟨rfl, rfl⟩))
    (fun os started H enc _ => superEncode_lifted os started H enc)

theorem superEncode_card_holds : Rows.SuperEncodeCardSaid :=
  Claim7.holds_tied_plain_at .later [] [.data] true Rows.superEncodeCard.stood.harness false
    superEncode_holds (fun _ h => by cases h) (by kernel_rfl) (fun _ h => by cases h) superEncode_row_tie rfl ⟨rfl, rfl⟩ (by kernel_rfl) rfl
    (fun f fn hf hfn => by
      obtain rfl : f = 5 := Option.some.inj ((show Tryd.prog.funcNamed "flashcache/flashcachelaw08.SuperEncode" = some 5 by kernel_rfl).symm.trans hf) |>.symm
      obtain rfl : fn = Tryd.f5 := (Option.some.inj (Tryd.func5.symm.trans hfn)).symm
      exact ⟨by kernel_rfl, fun j t ht => by
        rw [Tryd.params5] at ht
        have hm : t ∈ [41, 3] := by simpa using Array.mem_of_getElem? ht
        have hall : ([41, 3].all fun u => !Tryd.prog.wantsStandIn u) = true := by kernel_rfl
        exact (show Tryd.prog.wantsStandIn t = false by simpa using List.all_eq_true.1 hall t hm)⟩)
    (by kernel_rfl)
#print axioms superEncode_card_holds
end Go.Proofs.YthjnbdbbeidhgaaDoor
