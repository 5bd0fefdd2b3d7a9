/- The reference's device: Of, Blank (tools/mkrof.py). -/
import Derived.Test.YthgpmnblkhehkaaDoorRDev4
namespace Go.Proofs.YthgpmnblkhehkaaDoor
open Go.RowKit

section
variable {P : Program} {w w' : World} {B base n : Nat} {t e : TypeId} {v z : Value} {xs : List Value} {k : Nat} {A : Option Addr}
theorem madeCells_one {z : Value} {n : Nat} {c : Value} (h : z.cells = #[c]) : (madeCells z.cells n).toList = List.replicate n c := by
  rw [h]
  simp [madeCells, Nat.mod_one]
  rw [List.map_const', List.length_range]
/-- make, in a region that draws its order. -/
theorem step_make_vec {ops : Array Oper} {o : Oper} {a : Act} {K : Act → World → Prop} {Q : Exit → Act → World → Prop} {E : Prop} (hw : Region.wanted o (yielded ops a.tmps) = true) (hu : Ones P t e z k) (l c : Operand) (ho : o.op = Op.makeSlice t l c)
    (n : Nat) (hl : a.eval l = .int .i64 (n : Int)) (hc : a.eval c = .int .i64 (n : Int)) (hn : n ≤ 100000000)
    (h : ∀ w', Vec w' w.heap.size e (.slice (some ⟨w.heap.size, 0, none⟩) n n) n (madeCells z.cells n).toList → Below w.heap.size w w' → K (a.put o.dst (.slice (some ⟨w.heap.size, 0, none⟩) n n)) w') :
    if Region.wanted o (yielded ops a.tmps) = true then Oper.wp P o a w K Q else E := by
  rw [if_pos hw]
  obtain ⟨i, hi, hz, hs, hb⟩ := ones_parts hu.info
  obtain ⟨w', hrun, r1, r2⟩ := run_make_full (P := P) w w.heap.size t e i z 1 hu.ht hi hz hs .i64 .i64 n (by rw [hb]; have := Nat.mul_le_mul hu.small hn; omega) (by unfold maxLen; omega) (Nat.le_refl _)
  rw [Nat.mul_one] at r1
  unfold Oper.wp
  simp [execOp, ho, hl, hc, hrun, Result.andThen]
  exact h w' r1 ((Below.refl _ _).grown r2 (Nat.le_refl _) fun k hk => by cases hk)
end

theorem boolw : Ones Tryd.prog 65 4 (.bool false) 1 := ⟨Tryd.underlying65, by kernel_rfl, rfl, by decide⟩
/-- Of's statement: what has come up (bb), what the temporaries hold (v). -/
structure ROf (w0 : World) (A : Option Addr) (c N S : Nat) (img : List UInt8) (bb : Nat → Bool) (v : Nat → Value) (w : World) : Prop where
  bel : Below w0.heap.size w0 w
  s0 : bb 0 = true → v 0 = .slice A N c
  s2 : bb 2 = true → v 2 = .slice A N c
  s4 : bb 4 = true → v 4 = .slice A N c
  s5 : bb 5 = true → v 5 = .int .i64 (N : Int)
  s6 : bb 6 = true → v 6 = .int .i64 (S : Int)
  o1 : bb 1 = true → ∃ g c1, v 1 = .slice (some ⟨g, 0, none⟩) N c1 ∧ Own w w0.heap.size 5 (.slice (some ⟨g, 0, none⟩) N c1) N img
  o3 : bb 3 = true → ∃ g c1, v 3 = .slice (some ⟨g, 0, none⟩) N c1 ∧ Own w w0.heap.size 5 (.slice (some ⟨g, 0, none⟩) N c1) N img
  o7 : bb 7 = true → ∃ g, v 7 = .slice (some ⟨g, 0, none⟩) S S ∧ Vec w w0.heap.size 4 (.slice (some ⟨g, 0, none⟩) S S) S (List.replicate S (Value.bool false))
  d13 : bb 1 = true → bb 3 = true → (v 1).ownBlock ≠ (v 3).ownBlock
  d17 : bb 1 = true → bb 7 = true → (v 1).ownBlock ≠ (v 7).ownBlock
  d37 : bb 3 = true → bb 7 = true → (v 3).ownBlock ≠ (v 7).ownBlock
  s8 : bb 8 = true → ∃ g1 g2 g3 c1 c2, v 8 = .agg #[.slice (some ⟨g1, 0, none⟩) N c1, .slice (some ⟨g2, 0, none⟩) N c2, .slice (some ⟨g3, 0, none⟩) S S, .bool false, .int .i64 0, .bool false, .int .i64 0] ∧ Own w w0.heap.size 5 (.slice (some ⟨g1, 0, none⟩) N c1) N img ∧ Own w w0.heap.size 5 (.slice (some ⟨g2, 0, none⟩) N c2) N img ∧ Vec w w0.heap.size 4 (.slice (some ⟨g3, 0, none⟩) S S) S (List.replicate S (Value.bool false)) ∧ g1 ≠ g2 ∧ g1 ≠ g3 ∧ g2 ≠ g3
  s9 : bb 9 = true → ∃ d g1 g2 g3 c1 c2, v 9 = .pointer (some ⟨d, 0, none⟩) ∧ N = S * 64 ∧ Rv w d g1 g2 g3 S c1 c2 S (freshS img) 0 ∧ w0.heap.size ≤ d ∧ w0.heap.size ≤ g1 ∧ w0.heap.size ≤ g2 ∧ w0.heap.size ≤ g3
  f10 : bb 10 = true → v 10 = v 9
section
variable {w0 w w' : World} {A : Option Addr} {c N S : Nat} {img : List UInt8} {bb : Nat → Bool} {v : Nat → Value}
/-- A block is made. -/
theorem ROf.later (h : ROf w0 A c N S img bb v w) (hb : Below w.heap.size w w') : ROf w0 A c N S img bb v w' :=
  { h with
    bel := h.bel.trans (hb.mono h.bel.size)
    o1 := fun e => let ⟨g, c1, q1, q2⟩ := h.o1 e; ⟨g, c1, q1, q2.keep hb⟩
    o3 := fun e => let ⟨g, c1, q1, q2⟩ := h.o3 e; ⟨g, c1, q1, q2.keep hb⟩
    o7 := fun e => let ⟨g, q1, q2⟩ := h.o7 e; ⟨g, q1, q2.keep hb⟩
    s8 := fun e => let ⟨g1, g2, g3, c1, c2, q1, q2, q3, q4, q5⟩ := h.s8 e; ⟨g1, g2, g3, c1, c2, q1, q2.keep hb, q3.keep hb, q4.keep hb, q5⟩
    s9 := fun e => let ⟨d, g1, g2, g3, c1, c2, q1, q0, q2, q3⟩ := h.s9 e; ⟨d, g1, g2, g3, c1, c2, q1, q0, q2.below hb, q3⟩ }
theorem ROf.ne1 (h : ROf w0 A c N S img bb v w) (e : bb 1 = true) {g n c' : Nat} (hg : w.heap.size ≤ g) : (Value.slice (some ⟨g, 0, none⟩) n c').ownBlock ≠ (v 1).ownBlock := fun he => by
  obtain ⟨g1, c1, q1, q2⟩ := h.o1 e
  rw [q1] at he
  have := q2.lt (g := g) he.symm
  omega
theorem ROf.ne3 (h : ROf w0 A c N S img bb v w) (e : bb 3 = true) {g n c' : Nat} (hg : w.heap.size ≤ g) : (Value.slice (some ⟨g, 0, none⟩) n c').ownBlock ≠ (v 3).ownBlock := fun he => by
  obtain ⟨g1, c1, q1, q2⟩ := h.o3 e
  rw [q1] at he
  have := q2.lt (g := g) he.symm
  omega
theorem ROf.ne7 (h : ROf w0 A c N S img bb v w) (e : bb 7 = true) {g n c' : Nat} (hg : w.heap.size ≤ g) : (Value.slice (some ⟨g, 0, none⟩) n c').ownBlock ≠ (v 7).ownBlock := fun he => by
  obtain ⟨g1, q1, q2⟩ := h.o7 e
  rw [q1] at he
  have := q2.lt (g := g) he.symm
  omega
theorem Rv.fresh {N g1 g2 g3 c1 c2 : Nat} (hN : S * 64 = N) (hS : 1 ≤ S) (hS2 : S ≤ 1048576) (h1 : Own w w0.heap.size 5 (.slice (some ⟨g1, 0, none⟩) N c1) N img) (h2 : Own w w0.heap.size 5 (.slice (some ⟨g2, 0, none⟩) N c2) N img) (h3 : Vec w w0.heap.size 4 (.slice (some ⟨g3, 0, none⟩) S S) S (List.replicate S (Value.bool false))) (n1 : g1 ≠ g2) (n2 : g1 ≠ g3) (n3 : g2 ≠ g3) (ty : TypeId) :
    Rv (w.alloc (.cells #[.slice (some ⟨g1, 0, none⟩) N c1, .slice (some ⟨g2, 0, none⟩) N c2, .slice (some ⟨g3, 0, none⟩) S S, .bool false, .int .i64 0, .bool false, .int .i64 0] ty)) w.heap.size g1 g2 g3 S c1 c2 S (freshS img) 0 := by
  subst hN
  have hb : Below w.heap.size w (w.alloc (.cells #[.slice (some ⟨g1, 0, none⟩) (S * 64) c1, .slice (some ⟨g2, 0, none⟩) (S * 64) c2, .slice (some ⟨g3, 0, none⟩) S S, .bool false, .int .i64 0, .bool false, .int .i64 0] ty)) := (Below.refl _ _).alloc (Nat.le_refl _) _
  have l1 := h1.lt (g := g1) rfl
  have l2 := h2.lt (g := g2) rfl
  have l3 := h3.lt (g := g3) rfl
  have hlen := h1.len
  have own : ∀ {g cc : Nat}, Own w w0.heap.size 5 (.slice (some ⟨g, 0, none⟩) (S * 64) cc) (S * 64) img → Byt w (g + 1) (some ⟨g, 0, none⟩) (S * 64) img := fun {g cc} h => ⟨h.len, fun hn => by
    obtain ⟨ad, e, _, hc⟩ := h.byt.mem hn
    refine ⟨ad, e, ?_, hc⟩
    injection e with e
    subst e
    exact Nat.lt_succ_self _⟩
  obtain ⟨_, _, hf1, hc1, hc2⟩ := h1.form
  injection hf1 with _ _ hf1
  subst hf1
  obtain ⟨_, _, hf2, hd1, hd2⟩ := h2.form
  injection hf2 with _ _ hf2
  subst hf2
  refine ⟨?_, Soft.new _ _ _, (own_soft h1).same (hb.block _ l1), (own_soft h2).same (hb.block _ l2), ?_, ⟨img, byt_block (own h1) (hb.block _ l1)⟩, byt_block (own h2) (hb.block _ l2), fun j hj => ?_, fun h => by revert h; show (0 : Int) ≤ -1 → _; omega, by decide, ⟨by omega, by omega, by omega, n1, n2, n3⟩, freshS_ok hlen, ⟨hS, hS2, hc1, hc2, hd1, hd2, Nat.le_refl _, by omega⟩⟩
  · have := Cells.new w ty #[.slice (some ⟨g1, 0, none⟩) (S * 64) c1, .slice (some ⟨g2, 0, none⟩) (S * 64) c2, .slice (some ⟨g3, 0, none⟩) S S, .bool false, .int .i64 0, .bool false, .int .i64 0]
    simpa [freshS] using this
  · exact Soft.same (w := w) (fun j => World.ownsRow.frozenAt h3 j) (hb.block _ l3)
  · obtain ⟨ad, e, _, hc⟩ := h3.vat.2 j (.bool false) (by simp [hj])
    injection e with e
    subst e
    rw [Addr.add_mid, Nat.zero_add] at hc
    show _ = some (Value.bool (decide (j ∈ ([] : List Nat))))
    rw [show decide (j ∈ ([] : List Nat)) = false from by simp]
    exact (World.cell?_of_block (a := ⟨g3, j, none⟩) (hb.block _ l3)).trans hc

set_option maxRecDepth 100000 in
set_option maxHeartbeats 4000000 in
theorem rof_any (img : List UInt8) (A : Option Addr) (S cap B : Nat) (w : World) (N : Nat) (hN : S * 64 = N) (hb : Byt w B A N img) (hS : 1 ≤ S) (hS2 : S ≤ 1048576) (hB : B ≤ w.heap.size) :
    Calls Tryd.prog 43 #[.slice A N cap] w fun e w' => ∃ d g1 g2 g3 c1 c2, e = .returned (.pointer (some ⟨d, 0, none⟩)) ∧ Rv w' d g1 g2 g3 S c1 c2 S (freshS img) 0 ∧ w.heap.size ≤ d ∧ w.heap.size ≤ g1 ∧ w.heap.size ≤ g2 ∧ w.heap.size ≤ g3 ∧ Below w.heap.size w w' := by
  have HN := Lib.hid hN
  have hb2 := hb.more hB
  have HB := Lib.hid hb2
  have HS := Lib.hid (And.intro hS hS2)
  have hq : (N : Int) / 64 = (S : Int) := by omega
  have hqw : IntKind.i64.wrap (S : Int) = (S : Int) := IntWalk.i64_in _ (by omega)
  have hN9 : 64 ≤ N ∧ N ≤ 67108864 := by omega
  clear hb hb2 hB hS hS2 hN
  go_enter Tryd.func43, Tryd.ntmps43
  go_upto_region 1 with fail
  refine wp_region_inv (F := ?F) (ROf w A cap N S img) id ?hF (by kernel_rfl) (by kernel_rfl) ?ha ?h0 ?hs ?hfin
  case hF =>
    intro v
    simp only [putsAll, Act.put, List.setIfInBounds_toArray, List.set_cons_zero, List.set_cons_succ]
    rfl
  case ha =>
    simp only [putsAll, Act.put, List.setIfInBounds_toArray, List.set_cons_zero, List.set_cons_succ]
    rfl
  case h0 =>
    exact { bel := Below.drew (Below.refl _ _), s0 := nofun, s2 := nofun, s4 := nofun, s5 := nofun, s6 := nofun, o1 := nofun, o3 := nofun, o7 := nofun, d13 := nofun, d17 := nofun, d37 := nofun, s8 := nofun, s9 := nofun, f10 := nofun }
  case hs =>
    refine ⟨?_, ?_, ?_, ?_, ?_, ?_, ?_, ?_, ?_, ?_, ?_, trivial⟩
    · intro b9 v w9 hR hc hb hp K hK
      (try simp [Region.binds] at hp)
      clear hc
      go_simp
      exact hK (upd v 0 _) _ { hR with s0 := fun _ => rfl }
    · intro b9 v w9 hR hc hb hp K hK
      (try simp [Region.binds] at hp)
      clear hc
      have e0 := hR.s0 (by simp [hp])
      refine step_append_byt (A := A) (c := cap) rfl Tryd.u8w (.const (.slice none 0 0)) (.tmp 3) rfl rfl (Own.nil w9 w9.heap.size _) e0 (HB.out.below hR.bel) (by omega) (Nat.le_refl _) ?_
      intro A6 c6 w6 hown hbel
      rw [Nat.zero_add, List.nil_append] at hown
      rw [Nat.zero_add N]
      obtain ⟨g6, rfl⟩ := hown.head (by omega)
      have hge := hown.ge (g := g6) rfl
      simp only [Act.put, List.setIfInBounds_toArray, List.set_cons_zero, List.set_cons_succ]
      exact hK (upd v 1 (.slice (some ⟨g6, 0, none⟩) N c6)) _ { hR.later hbel with o1 := fun _ => ⟨g6, c6, rfl, hown.mono hR.bel.size⟩, d13 := fun _ h3 => hR.ne3 h3 hge, d17 := fun _ h7 => hR.ne7 h7 hge }
    · intro b9 v w9 hR hc hb hp K hK
      (try simp [Region.binds] at hp)
      clear hc
      go_simp
      exact hK (upd v 2 _) _ { hR with s2 := fun _ => rfl }
    · intro b9 v w9 hR hc hb hp K hK
      (try simp [Region.binds] at hp)
      clear hc
      have e2 := hR.s2 (by simp [hp])
      refine step_append_byt (A := A) (c := cap) rfl Tryd.u8w (.const (.slice none 0 0)) (.tmp 5) rfl rfl (Own.nil w9 w9.heap.size _) e2 (HB.out.below hR.bel) (by omega) (Nat.le_refl _) ?_
      intro A6 c6 w6 hown hbel
      rw [Nat.zero_add, List.nil_append] at hown
      rw [Nat.zero_add N]
      obtain ⟨g6, rfl⟩ := hown.head (by omega)
      have hge := hown.ge (g := g6) rfl
      simp only [Act.put, List.setIfInBounds_toArray, List.set_cons_zero, List.set_cons_succ]
      exact hK (upd v 3 (.slice (some ⟨g6, 0, none⟩) N c6)) _ { hR.later hbel with o3 := fun _ => ⟨g6, c6, rfl, hown.mono hR.bel.size⟩, d13 := fun h1 _ => (hR.ne1 h1 hge).symm, d37 := fun _ h7 => hR.ne7 h7 hge }
    · intro b9 v w9 hR hc hb hp K hK
      (try simp [Region.binds] at hp)
      clear hc
      go_simp
      exact hK (upd v 4 _) _ { hR with s4 := fun _ => rfl }
    · intro b9 v w9 hR hc hb hp K hK
      (try simp [Region.binds] at hp)
      clear hc
      have e4 := hR.s4 (by simp [hp])
      go_simp
      exact hK (upd (upd v 5 _) 4 _) _ { hR with s5 := fun _ => rfl, s4 := fun _ => rfl }
    · intro b9 v w9 hR hc hb hp K hK
      (try simp [Region.binds] at hp)
      clear hc
      have e5 := hR.s5 (by simp [hp])
      go_simp
      exact hK (upd (upd v 6 _) 5 _) _ { hR with s6 := fun _ => rfl, s5 := fun _ => rfl }
    · intro b9 v w9 hR hc hb hp K hK
      (try simp [Region.binds] at hp)
      clear hc
      have e6 := hR.s6 (by simp [hp])
      refine step_make_vec rfl boolw (.tmp 9) (.tmp 9) rfl S e6 e6 (by omega) ?_
      intro w6 hvec hbel
      simp only [Act.put, List.setIfInBounds_toArray, List.set_cons_zero, List.set_cons_succ]
      exact hK (upd v 7 (.slice (some ⟨w9.heap.size, 0, none⟩) S S)) _ { hR.later hbel with o7 := fun _ => ⟨w9.heap.size, rfl, by rw [madeCells_one (c := .bool false) rfl] at hvec; exact hvec.mono hR.bel.size⟩, d17 := fun h1 _ => (hR.ne1 h1 (Nat.le_refl _)).symm, d37 := fun h3 _ => (hR.ne3 h3 (Nat.le_refl _)).symm }
    · intro b9 v w9 hR hc hb hp K hK
      (try simp [Region.binds] at hp)
      clear hc
      obtain ⟨p1, p3, p7⟩ : b9 1 = true ∧ b9 3 = true ∧ b9 7 = true := by simp [hp]
      obtain ⟨g1, c1, e1, o1⟩ := hR.o1 p1
      obtain ⟨g2, c2, e3, o3⟩ := hR.o3 p3
      obtain ⟨g3, e7, o7⟩ := hR.o7 p7
      have d13 := hR.d13 p1 p3
      have d17 := hR.d17 p1 p7
      have d37 := hR.d37 p3 p7
      rw [e1, e3] at d13
      rw [e1, e7] at d17
      rw [e3, e7] at d37
      have hn : g1 ≠ g2 ∧ g1 ≠ g3 ∧ g2 ≠ g3 := ⟨fun e => d13 (by rw [e]; rfl), fun e => d17 (by rw [e]; rfl), fun e => d37 (by rw [e]; rfl)⟩
      go_simp
      exact hK (upd (upd (upd (upd v 8 _) 1 _) 3 _) 7 _) _ { hR with s8 := fun _ => ⟨g1, g2, g3, c1, c2, rfl, o1, o3, o7, hn⟩, o1 := fun _ => ⟨g1, c1, rfl, o1⟩, o3 := fun _ => ⟨g2, c2, rfl, o3⟩, o7 := fun _ => ⟨g3, rfl, o7⟩, d13 := fun _ _ => d13, d17 := fun _ _ => d17, d37 := fun _ _ => d37 }
    · intro b9 v w9 hR hc hb hp K hK
      (try simp [Region.binds] at hp)
      have hc10 : b9 10 = false := hc.neg (by kernel_rfl) hb
      clear hc
      obtain ⟨g1, g2, g3, c1, c2, e8, o1, o2, o3, n1, n2, n3⟩ := hR.s8 (by simp [hp])
      have hrv := Rv.fresh (hS := HS.out.1) (hS2 := HS.out.2) (hN := HN.out) o1 o2 o3 n1 n2 n3 67
      have hbel := (Below.refl w9.heap.size w9).alloc (Nat.le_refl _) (.cells #[.slice (some ⟨g1, 0, none⟩) N c1, .slice (some ⟨g2, 0, none⟩) N c2, .slice (some ⟨g3, 0, none⟩) S S, .bool false, .int .i64 0, .bool false, .int .i64 0] 67)
      have hR2 := hR.later hbel
      go_simp
      exact hK (upd (upd v 9 _) 8 _) _ { hR2 with s8 := fun _ => ⟨g1, g2, g3, c1, c2, rfl, o1.keep hbel, o2.keep hbel, o3.keep hbel, n1, n2, n3⟩, s9 := fun _ => ⟨_, g1, g2, g3, c1, c2, rfl, HN.out.symm, hrv, hR.bel.size, o1.ge (g := g1) rfl, o2.ge (g := g2) rfl, o3.ge (g := g3) rfl⟩, f10 := fun h => Bool.noConfusion (hc10.symm.trans h) }
    · intro b9 v w9 hR hc hb hp K hK
      (try simp [Region.binds] at hp)
      clear hc
      obtain ⟨d, g1, g2, g3, c1, c2, e9, hN5, hrest⟩ := hR.s9 (by simp [hp])
      clear hN5
      go_simp
      exact hK (upd (upd v 10 _) 9 _) _ { hR with s9 := fun _ => ⟨d, g1, g2, g3, c1, c2, rfl, HN.out.symm, hrest⟩, f10 := fun _ => rfl }
  case hfin =>
    intro b9 v w9 hall hR
    obtain ⟨d, g1, g2, g3, c1, c2, e9, _, hrv, hge⟩ := hR.s9 (hall 9 (by decide))
    have e10 := (hR.f10 (hall 10 (by decide))).trans e9
    have HX := Lib.hid (And.intro hrv (And.intro hge hR.bel))
    clear hR hall hrv hge e9
    go_wp2_with fail
    go_ret
    exact ⟨d, g1, g2, g3, c1, c2, (by show Ending.returned (v 10) = _; rw [e10]), HX.out.1, HX.out.2.1.1, HX.out.2.1.2.1, HX.out.2.1.2.2.1, HX.out.2.1.2.2.2, HX.out.2.2⟩
end
end Go.Proofs.YthgpmnblkhehkaaDoor
