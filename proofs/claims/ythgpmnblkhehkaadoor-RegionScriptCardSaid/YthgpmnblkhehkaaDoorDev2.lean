/- The device: at, Dirty, Writes, Dead, Fuse, Image. -/
import Derived.Test.YthgpmnblkhehkaaDoorDev
import Derived.Maps.OwnSet
namespace Go.Proofs.YthgpmnblkhehkaaDoor
open Go.RowKit
section
variable {w w' : World} {d g r S c : Nat} {s : DS}

/-- max of two ints. -/
theorem wpList_max {P : Program} {ops : Array Oper} {rest : List Oper} {o : Oper} {a : Act} {Q : Exit → Act → World → Prop} {ty : TypeId} {p q m : Int} (hg : o.guard = none) (x y : Operand)
    (ho : o.op = .call { callee := .builtin .max, args := #[x, y], argTypes := #[ty, ty] }) (hx : a.eval x = .int .i64 p) (hy : a.eval y = .int .i64 q) (hm : (if q > p then q else p) = m)
    (h : wpList P ops Q rest (a.put o.dst (.int .i64 m)) w) : wpList P ops Q (o :: rest) a w := by
  refine wpList_plain hg fun K hK => ?_
  have hr : (Builtin.max_ #[ty, ty] o.type #[.int .i64 p, .int .i64 q]).run P w = .ok (.int .i64 m) w := by
    rw [← hm]
    simp [Builtin.max_, Builtin.max2]
  unfold Oper.wp execOp
  simp only [ho, resolve, invoke, builtin, Sem.run_bind, Sem.run_pure, Result.andThen_ok, List.map_toArray, List.map_cons, List.map_nil, hx, hy, hr]
  exact hK _ _ h
theorem dat_any (i : Nat) (hi : i < S) (h : Dv w d g r S c s) : Calls Tryd.prog 59 #[.pointer (some ⟨d, 0, none⟩), .int .i64 (i : Int)] w fun e w' => e = .returned (.slice (some ⟨g, i * 64, none⟩) 64 (c - i * 64)) ∧ w = w' := by
  have l0 := h.cells 0 _ rfl
  have hS := h.sz
  have b1 : (i : Int) ≤ 1048576 := by omega
  have b2 : (0 : Int) ≤ (i : Int) := by omega
  have b3 : ((i : Int) + 1) * 64 ≤ (c : Int) := by omega
  have b4 : (i : Int) * 64 ≤ ((i : Int) + 1) * 64 := by omega
  have b5 : ¬ c = i * 64 := by omega
  have HL : Hid ((i + 1) * 64 - i * 64 = 64) := by show _ = _; omega
  clear h hS
  go_enter Tryd.func59, Tryd.ntmps59
  go_wp2
  refine bodyPost_ret (v := .slice (some ⟨g, i * 64, none⟩) ((i + 1) * 64 - i * 64) (c - i * 64)) (by simp [results, Tryd.results59, go_sem]) rfl ?_
  exact ⟨by rw [HL.out], rfl⟩

theorem dwrites_any (h : Dv w d g r S c s) : Calls Tryd.prog 13 #[.pointer (some ⟨d, 0, none⟩)] w fun e w' => e = .returned (.int .i64 (s.wr : Int)) ∧ w = w' := by
  have l2 := h.cells 2 _ rfl
  clear h
  go_enter Tryd.func13, Tryd.ntmps13
  go_wp2
  go_ret
  exact ⟨rfl, rfl⟩

theorem ddead_any (h : Dv w d g r S c s) : Calls Tryd.prog 49 #[.pointer (some ⟨d, 0, none⟩)] w fun e w' => e = .returned (.bool s.dead) ∧ w = w' := by
  have l4 := h.cells 4 _ rfl
  clear h
  obtain ⟨x, hx⟩ : ∃ x, s.dead = x := ⟨_, rfl⟩
  rw [hx] at l4 ⊢
  clear hx
  go_enter Tryd.func49, Tryd.ntmps49
  go_wp2
  go_ret
  exact ⟨rfl, rfl⟩

theorem ddirty_any (h : Dv w d g r S c s) : Calls Tryd.prog 10 #[.pointer (some ⟨d, 0, none⟩)] w fun e w' => e = .returned (.int .i64 (s.ds.length : Int)) ∧ w = w' := by
  have l1 := h.cells 1 _ rfl
  have hs := secSet_size s.ds h.ok.nd
  have hlen : ∀ ty, (Builtin.len_ #[83] ty #[.map (some r)]).run Tryd.prog w = .ok (.int .i64 (s.ds.length : Int)) w := fun ty => by
    have := World.ownsMap.len h.map Tryd.underlying83 ty
    rw [hs] at this
    exact this
  clear h hs
  go_enter Tryd.func10, Tryd.ntmps10
  go_wp2
  go_ret
  exact ⟨rfl, rfl⟩

theorem dfuse_any (n : Nat) (hn : n ≤ 1000000) (h : Dv w d g r S c s) : Calls Tryd.prog 21 #[.pointer (some ⟨d, 0, none⟩), .int .i64 (n : Int)] w fun e w' => e = .returned (.tuple #[]) ∧ Dv w' d g r S c { s with fu := (n : Int) } ∧ Keep w w' (dvL d g r) := by
  have l3 := h.cells 3 _ rfl
  have z3 := h.sd 3
  have HH := Lib.hid h
  have HM : Hid ((if (-1 : Int) > (n : Int) then (-1 : Int) else (n : Int)) = (n : Int)) := by show _ = _; rw [if_neg (by omega)]
  clear h
  go_enter Tryd.func21, Tryd.ntmps21
  go_wp2_with (refine wpList_max rfl _ _ rfl (p := (n : Int)) (q := -1) (m := (n : Int)) ?_ ?_ ?_ ?_; rfl; rfl; exact HM.out)
  go_end0
  exact ⟨rfl, HH.out.setOwn (s' := { s with fu := (n : Int) }) (HH.out.cells.set 3 _) rfl rfl ⟨HH.out.ok.len, HH.out.ok.nd, HH.out.ok.lt, by show -1 ≤ (n : Int) ∧ (n : Int) ≤ _; omega⟩⟩

theorem dimage_any (h : Dv w d g r S c s) : Calls Tryd.prog 50 #[.pointer (some ⟨d, 0, none⟩)] w fun e w' => ∃ A1 c1, e = .returned (.slice A1 (S * 64) c1) ∧ Byt w' w'.heap.size A1 (S * 64) s.img ∧ Below w.heap.size w w' := by
  have l0 := h.cells 0 _ rfl
  have hS := h.sz
  have CL : Hid (Calls Tryd.prog 54 #[.slice (some ⟨g, 0, none⟩) (S * 64) c] w fun e w' => ∃ A1 c1, e = .returned (.slice A1 (S * 64) c1) ∧ Own w' w.heap.size 5 (.slice A1 (S * 64) c1) (S * 64) s.img ∧ Below w.heap.size w w') := by
    refine (clone_any s.img (some ⟨g, 0, none⟩) (S * 64) c (g + 1) w h.img (by omega) h.glt).mono ?_
    rintro e w' ⟨A1, c1, h1, h2, h3⟩
    exact ⟨A1, c1, h1, h2, h3⟩
  clear h hS
  go_enter Tryd.func50, Tryd.ntmps50
  go_wp2_with (go_at_call 54; refine CL.out.mono ?_; rintro e w1 ⟨A1, c1, rfl, hown, hbel⟩; have HO := Lib.hid hown; have HB := Lib.hid hbel; clear hown hbel)
  go_ret
  exact ⟨A1, c1, rfl, HO.out.byt, HB.out⟩
end
end Go.Proofs.YthgpmnblkhehkaaDoor
