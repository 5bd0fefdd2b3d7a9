/- The walks of Awake and of the law AdmitRule. -/
import Derived.Test.YtepbchaeeldjmaaAdmitCheck
import Derived.Test.YtepbchaeeldjmaaConvert
import Derived.Deep.DeepCutAuto
namespace Go.Proofs.Ytepbchaeeldjmaa
open Go.RowKit

set_option maxHeartbeats 8000000 in
theorem admitAwake_any (w : World) :
    Calls Try.prog 7 #[] w fun e w' => e = .returned (.bool true) ∧ Below w.heap.size w w' := by
  have C1 := Lib.hid (fun (Ak Av : Option Addr) (ck cv : Nat) => check_any 1 1 2 4 5 7 Ak Av 3 ck 40 cv (by unfold I64; decide) (by unfold I64; decide) (by unfold I64; decide) (by unfold I64; decide) (by unfold I64; decide) (by unfold I64; decide) (by decide) (by decide) (12, 0) (by decide))
  have C2 := Lib.hid (fun (Ak Av : Option Addr) (ck cv : Nat) => check_any 1 1 2 4 5 7 Ak Av 3 ck 41 cv (by unfold I64; decide) (by unfold I64; decide) (by unfold I64; decide) (by unfold I64; decide) (by unfold I64; decide) (by unfold I64; decide) (by decide) (by decide) (0, 8) (by decide))
  have kc := fun (w : World) (C : Array Value) (n c : Nat) => convert_drew (P := Try.prog) w 24 5 C n c Try.underlying24 Try.underlying5
  have kc1 := fun (w : World) (b : Obj) (C : Array Value) (n c : Nat) => convert_drew1 (P := Try.prog) w b 24 5 C n c Try.underlying24 Try.underlying5
  have kc2 := fun (w : World) (b b' : Obj) (C : Array Value) (n c : Nat) => convert_drew2 (P := Try.prog) w b b' 24 5 C n c Try.underlying24 Try.underlying5
  have kd := fun (w : World) (C : Array Value) (o : Obj) (n c : Nat) => convert_past_drew (P := Try.prog) w 24 5 C o n c Try.underlying24 Try.underlying5
  have kd1 := fun (w : World) (b : Obj) (C : Array Value) (o : Obj) (n c : Nat) => convert_past_drew1 (P := Try.prog) w b 24 5 C o n c Try.underlying24 Try.underlying5
  obtain ⟨Z40, m40'⟩ := make_some (P := Try.prog) (t := 24) (e := 5) ⟨Try.underlying24, Try.underlying5, by kernel_rfl⟩ 40 (by decide)
  obtain ⟨Z41, m41'⟩ := make_some (P := Try.prog) (t := 24) (e := 5) ⟨Try.underlying24, Try.underlying5, by kernel_rfl⟩ 41 (by decide)
  have m40 : ∀ w : World, (Instr.makeSlice 24 (.int .i64 40) (.int .i64 40)).run Try.prog w = .ok (.slice (some ⟨w.heap.size, 0, none⟩) 40 40) (w.alloc Z40) := m40'
  clear m40'
  have m41 : ∀ w : World, (Instr.makeSlice 24 (.int .i64 41) (.int .i64 41)).run Try.prog w = .ok (.slice (some ⟨w.heap.size, 0, none⟩) 41 41) (w.alloc Z41) := m41'
  clear m41'
  have A1 : Hid (∀ w, Calls Try.prog 8 #[.bool false, .bool false, .int .i64 0] w fun e w' => e = .returned (.bool true) ∧ w = w') := fun w => admit_any false false 0 w
  have A2 : Hid (∀ w, Calls Try.prog 8 #[.bool true, .bool false, .int .i64 1] w fun e w' => e = .returned (.bool false) ∧ w = w') := fun w => admit_any true false 1 w
  go_enter Try.func7, Try.ntmps7
  have HB0 := Lib.hid (Below.refl w.heap.size w)
  go_upto_region 2 with fail
  go_cut [2, 3] (fun x y wx => x = .int .i64 12 ∧ y = .int .i64 0 ∧ Below w.heap.size w wx ∧ BoxL wx w.heap.size 1 1 2 4)
  case first =>
    go_region_with (go_at_call 5; refine (C1.out _ _ _ _ _).mono ?_; rintro e w1 ⟨rfl, hb1⟩)
    all_goals
      have HB1 : Hid (Below w.heap.size w w1) := Below.trans (by (repeat (first | with_reducible exact Below.refl _ _ | with_reducible exact HB0.out | with_reducible refine Below.alloc ?_ (by first | (simp; done) | (simp; omega) | omega) _ | with_reducible refine Below.drew ?_))) (hb1.mono (by simp <;> omega))
      have hl : BoxL w1 w.heap.size 1 1 2 4 := (BoxL.new w 23 1 1 2 4).below (B := w.heap.size + 1) (Below.trans (by (repeat (first | with_reducible exact Below.refl _ _ | with_reducible refine Below.alloc ?_ (by first | (simp; done) | (simp; omega) | omega) _ | with_reducible refine Below.drew ?_))) (hb1.mono (by simp <;> omega))) (by omega)
      go_wp2_with fail
      go_simp
      go_meet
      exact ⟨rfl, rfl, HB1.out, hl⟩
  case rest =>
    obtain ⟨rfl, rfl, hb, hl⟩ := hcut
    have hw1 : w.heap.size < wc.heap.size := by
      rcases Nat.lt_or_ge w.heap.size wc.heap.size with h | h
      · exact h
      · exfalso
        have := hl.1
        simp [World.cell?, Array.getElem?_eq_none h] at this
    have HX := Lib.hid hl
    obtain ⟨l0, l1, l2, l3⟩ := hl
    have HBc := Lib.hid hb
    clear hb
    go_upto_region 3 with fail
    go_cut [4, 5] (fun _ y wx => y = .int .i64 8 ∧ Below w.heap.size w wx ∧ BoxL wx w.heap.size 1 1 2 4)
    case first =>
      go_region_with (go_at_call 5; refine (C2.out _ _ _ _ _).mono ?_; rintro e w1 ⟨rfl, hb1⟩)
      all_goals
        have HB1 : Hid (Below w.heap.size w w1) := Below.trans (by (repeat (first | with_reducible exact Below.refl _ _ | with_reducible exact HBc.out | with_reducible refine Below.alloc ?_ (by first | (simp; done) | (simp; omega) | omega) _ | with_reducible refine Below.drew ?_))) (hb1.mono (by simp <;> omega))
        have hl : BoxL w1 w.heap.size 1 1 2 4 := HX.out.below (B := w.heap.size + 1) (Below.trans (by (repeat (first | with_reducible exact Below.refl _ _ | with_reducible refine Below.alloc ?_ (by first | (simp; done) | (simp; omega) | omega) _ | with_reducible refine Below.drew ?_))) (hb1.mono (by simp <;> omega))) (by omega)
        go_wp2_with fail
        go_simp
        go_meet
        exact ⟨rfl, HB1.out, hl⟩
    case rest =>
      obtain ⟨rfl, hb, hl⟩ := hcut
      have HB2 := Lib.hid hb
      clear hb hl l0 l1 l2 l3
      go_wp2_with (first | (go_at_call 8; with_reducible refine (A1.out _).mono ?_; rintro e w' ⟨rfl, rfl⟩) | (go_at_call 8; with_reducible refine (A2.out _).mono ?_; rintro e w' ⟨rfl, rfl⟩))
      go_ret
      exact ⟨rfl, HB2.out⟩

set_option maxHeartbeats 1000000 in
theorem admitRule_any (ev pr : Bool) (est : Int) (w : World) :
    Calls Try.prog 4 #[.bool ev, .bool pr, .int .i64 est] w fun e w' => e = .returned (.bool true) ∧ Below w.heap.size w w' := by
  cases ev
  · have AD : Hid (∀ w, Calls Try.prog 8 #[.bool false, .bool pr, .int .i64 est] w fun e w' => e = .returned (.bool true) ∧ w = w') := fun w => by
      have := admit_any false pr est w
      simpa [admitS] using this
    go_enter Try.func4, Try.ntmps4
    go_wp2_with (first | (go_at_call 7; with_reducible refine (admitAwake_any _).mono ?_; rintro e w1 ⟨rfl, hb1⟩; have HB1 := Lib.hid hb1; clear hb1) | (go_at_call 8; with_reducible refine (AD.out _).mono ?_; rintro e w' ⟨rfl, rfl⟩))
    go_ret
    exact ⟨rfl, HB1.out⟩
  · cases pr
    · by_cases h2 : 2 ≤ est
      · have AD : Hid (∀ w, Calls Try.prog 8 #[.bool true, .bool false, .int .i64 est] w fun e w' => e = .returned (.bool true) ∧ w = w') := fun w => by
          have := admit_any true false est w
          rwa [admitS, decide_eq_true h2] at this
        go_enter Try.func4, Try.ntmps4
        go_wp2_with (first | (go_at_call 7; with_reducible refine (admitAwake_any _).mono ?_; rintro e w1 ⟨rfl, hb1⟩; have HB1 := Lib.hid hb1; clear hb1) | (go_at_call 8; with_reducible refine (AD.out _).mono ?_; rintro e w' ⟨rfl, rfl⟩))
        go_ret
        exact ⟨by first | rfl | exact congrArg (fun b => Ending.returned (.bool b)) (by simp; omega), HB1.out⟩
      · have AD : Hid (∀ w, Calls Try.prog 8 #[.bool true, .bool false, .int .i64 est] w fun e w' => e = .returned (.bool false) ∧ w = w') := fun w => by
          have := admit_any true false est w
          rwa [admitS, decide_eq_false h2] at this
        go_enter Try.func4, Try.ntmps4
        go_wp2_with (first | (go_at_call 7; with_reducible refine (admitAwake_any _).mono ?_; rintro e w1 ⟨rfl, hb1⟩; have HB1 := Lib.hid hb1; clear hb1) | (go_at_call 8; with_reducible refine (AD.out _).mono ?_; rintro e w' ⟨rfl, rfl⟩))
        go_ret
        exact ⟨by first | rfl | exact congrArg (fun b => Ending.returned (.bool b)) (by simp; omega), HB1.out⟩
    · have AD : Hid (∀ w, Calls Try.prog 8 #[.bool true, .bool true, .int .i64 est] w fun e w' => e = .returned (.bool true) ∧ w = w') := fun w => by
        have := admit_any true true est w
        simpa [admitS] using this
      go_enter Try.func4, Try.ntmps4
      go_wp2_with (first | (go_at_call 7; with_reducible refine (admitAwake_any _).mono ?_; rintro e w1 ⟨rfl, hb1⟩; have HB1 := Lib.hid hb1; clear hb1) | (go_at_call 8; with_reducible refine (AD.out _).mono ?_; rintro e w' ⟨rfl, rfl⟩))
      go_ret
      exact ⟨rfl, HB1.out⟩
end Go.Proofs.Ytepbchaeeldjmaa
