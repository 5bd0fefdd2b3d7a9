/- The walks of Awake and of the law AdmitRule. -/
import Derived.Test.YtmhkhjcpicihmaaDoorAdmitCheck
import Derived.Test.YtmhkhjcpicihmaaDoorConvert
import Derived.Deep.DeepCutAuto
namespace Go.Proofs.YtmhkhjcpicihmaaDoor
open Go.RowKit

set_option maxHeartbeats 8000000 in
theorem admitAwake_any (w : World) :
    Calls Tryd.prog 5 #[] w fun e w' => e = .returned (.bool true) ∧ Below w.heap.size w w' := by
  have C1 := Lib.hid (fun (Ak Av : Option Addr) (ck cv : Nat) => check_any 1 1 2 4 5 7 Ak Av 3 ck 40 cv (by unfold I64; decide) (by unfold I64; decide) (by unfold I64; decide) (by unfold I64; decide) (by unfold I64; decide) (by unfold I64; decide) (by decide) (by decide) (12, 0) (by decide))
  have C2 := Lib.hid (fun (Ak Av : Option Addr) (ck cv : Nat) => check_any 1 1 2 4 5 7 Ak Av 3 ck 41 cv (by unfold I64; decide) (by unfold I64; decide) (by unfold I64; decide) (by unfold I64; decide) (by unfold I64; decide) (by unfold I64; decide) (by decide) (by decide) (0, 8) (by decide))
  have kc := fun (w : World) (C : Array Value) (n c : Nat) => convert_drew (P := Tryd.prog) w 24 5 C n c Tryd.underlying24 Tryd.underlying5
  have kc1 := fun (w : World) (b : Obj) (C : Array Value) (n c : Nat) => convert_drew1 (P := Tryd.prog) w b 24 5 C n c Tryd.underlying24 Tryd.underlying5
  have kc2 := fun (w : World) (b b' : Obj) (C : Array Value) (n c : Nat) => convert_drew2 (P := Tryd.prog) w b b' 24 5 C n c Tryd.underlying24 Tryd.underlying5
  have kd := fun (w : World) (C : Array Value) (o : Obj) (n c : Nat) => convert_past_drew (P := Tryd.prog) w 24 5 C o n c Tryd.underlying24 Tryd.underlying5
  have kd1 := fun (w : World) (b : Obj) (C : Array Value) (o : Obj) (n c : Nat) => convert_past_drew1 (P := Tryd.prog) w b 24 5 C o n c Tryd.underlying24 Tryd.underlying5
  obtain ⟨Z40, m40'⟩ := make_some (P := Tryd.prog) (t := 24) (e := 5) ⟨Tryd.underlying24, Tryd.underlying5, by kernel_rfl⟩ 40 (by decide)
  obtain ⟨Z41, m41'⟩ := make_some (P := Tryd.prog) (t := 24) (e := 5) ⟨Tryd.underlying24, Tryd.underlying5, by kernel_rfl⟩ 41 (by decide)
  have m40 : ∀ w : World, (Instr.makeSlice 24 (.int .i64 40) (.int .i64 40)).run Tryd.prog w = .ok (.slice (some ⟨w.heap.size, 0, none⟩) 40 40) (w.alloc Z40) := m40'
  clear m40'
  have m41 : ∀ w : World, (Instr.makeSlice 24 (.int .i64 41) (.int .i64 41)).run Tryd.prog w = .ok (.slice (some ⟨w.heap.size, 0, none⟩) 41 41) (w.alloc Z41) := m41'
  clear m41'
  have A1 : Hid (∀ w, Calls Tryd.prog 10 #[.bool false, .bool false, .int .i64 0] w fun e w' => e = .returned (.bool true) ∧ w = w') := fun w => admit_any false false 0 w
  have A2 : Hid (∀ w, Calls Tryd.prog 10 #[.bool true, .bool false, .int .i64 1] w fun e w' => e = .returned (.bool false) ∧ w = w') := fun w => admit_any true false 1 w
  go_enter Tryd.func5, Tryd.ntmps5
  have HB0 := Lib.hid (Below.refl w.heap.size w)
  go_upto_region 2 with fail
  go_cut [2, 3] (fun x y wx => x = .int .i64 12 ∧ y = .int .i64 0 ∧ Below w.heap.size w wx ∧ BoxL wx w.heap.size 1 1 2 4)
  case first =>
    go_region_with (go_at_call 6; refine (C1.out _ _ _ _ _).mono ?_; rintro e w1 ⟨rfl, hb1⟩)
    all_goals
      have HB1 : Hid (Below w.heap.size w w1) := Below.trans (by (repeat (first | with_reducible exact Below.refl _ _ | with_reducible exact HB0.out | with_reducible refine Below.alloc ?_ (by first | (simp; done) | (simp; omega) | omega) _ | with_reducible refine Below.drew ?_))) (hb1.mono (by simp <;> omega))
      have hl : BoxL w1 w.heap.size 1 1 2 4 := (BoxL.new w 23 1 1 2 4).below (B := w.heap.size + 1) (Below.trans (by (repeat (first | with_reducible exact Below.refl _ _ | with_reducible refine Below.alloc ?_ (by first | (simp; done) | (simp; omega) | omega) _ | with_reducible refine Below.drew ?_))) (hb1.mono (by simp <;> omega))) (by omega)
      go_wp2_with fail
      go_simp
      go_meet
      exact ⟨rfl, rfl, HB1.out, hl⟩
  case rest =>
    obtain ⟨rfl, rfl, hb, hl⟩ := hcut
    have hw1 : w.heap.size < wc.heap.size := by
      rcases Nat.lt_or_ge w.heap.size wc.heap.size with h | h
      · exact h
      · exfalso
        have := hl.1
        simp [World.cell?, Array.getElem?_eq_none h] at this
    have HX := Lib.hid hl
    obtain ⟨l0, l1, l2, l3⟩ := hl
    have HBc := Lib.hid hb
    clear hb
    go_upto_region 3 with fail
    go_cut [4, 5] (fun _ y wx => y = .int .i64 8 ∧ Below w.heap.size w wx ∧ BoxL wx w.heap.size 1 1 2 4)
    case first =>
      go_region_with (go_at_call 6; refine (C2.out _ _ _ _ _).mono ?_; rintro e w1 ⟨rfl, hb1⟩)
      all_goals
        have HB1 : Hid (Below w.heap.size w w1) := Below.trans (by (repeat (first | with_reducible exact Below.refl _ _ | with_reducible exact HBc.out | with_reducible refine Below.alloc ?_ (by first | (simp; done) | (simp; omega) | omega) _ | with_reducible refine Below.drew ?_))) (hb1.mono (by simp <;> omega))
        have hl : BoxL w1 w.heap.size 1 1 2 4 := HX.out.below (B := w.heap.size + 1) (Below.trans (by (repeat (first | with_reducible exact Below.refl _ _ | with_reducible refine Below.alloc ?_ (by first | (simp; done) | (simp; omega) | omega) _ | with_reducible refine Below.drew ?_))) (hb1.mono (by simp <;> omega))) (by omega)
        go_wp2_with fail
        go_simp
        go_meet
        exact ⟨rfl, HB1.out, hl⟩
    case rest =>
      obtain ⟨rfl, hb, hl⟩ := hcut
      have HB2 := Lib.hid hb
      clear hb hl l0 l1 l2 l3
      go_wp2_with (first | (go_at_call 10; with_reducible refine (A1.out _).mono ?_; rintro e w' ⟨rfl, rfl⟩) | (go_at_call 10; with_reducible refine (A2.out _).mono ?_; rintro e w' ⟨rfl, rfl⟩))
      go_ret
      exact ⟨rfl, HB2.out⟩

end Go.Proofs.YtmhkhjcpicihmaaDoor
