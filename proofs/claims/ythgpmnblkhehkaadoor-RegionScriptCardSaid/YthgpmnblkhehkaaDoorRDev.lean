/- The reference's device in memory: its burn, Fuse, Dirty. -/
import Derived.Test.YthgpmnblkhehkaaDoorDev3
import Derived.Test.YthgpmnblkhehkaaDoorRegInv
namespace Go.Proofs.YthgpmnblkhehkaaDoor
open Go.RowKit

/-- The reference's device: block d, its slices in the blocks g1 (old), g2 (new), g3 (dirty flags). -/
structure Rv (w : World) (d g1 g2 g3 S c1 c2 c3 : Nat) (s : DS) (lf : Int) : Prop where
  cells : Cells w d [.slice (some ⟨g1, 0, none⟩) (S * 64) c1, .slice (some ⟨g2, 0, none⟩) (S * 64) c2, .slice (some ⟨g3, 0, none⟩) S c3, .bool (decide (0 ≤ s.fu)), .int .i64 lf, .bool s.dead, .int .i64 (s.wr : Int)]
  sd : Soft w d
  s1 : Soft w g1
  s2 : Soft w g2
  s3 : Soft w g3
  old : ∃ ob, Byt w (g1 + 1) (some ⟨g1, 0, none⟩) (S * 64) ob
  new : Byt w (g2 + 1) (some ⟨g2, 0, none⟩) (S * 64) s.img
  dirt : ∀ j, j < S → w.cell? ⟨g3, j, none⟩ = some (.bool (decide (j ∈ s.ds)))
  left : 0 ≤ s.fu → lf = s.fu
  i64 : -9223372036854775808 ≤ lf ∧ lf ≤ 9223372036854775807
  ne : d ≠ g1 ∧ d ≠ g2 ∧ d ≠ g3 ∧ g1 ≠ g2 ∧ g1 ≠ g3 ∧ g2 ≠ g3
  ok : s.ok S
  sz : 1 ≤ S ∧ S ≤ 1048576 ∧ S * 64 ≤ c1 ∧ c1 ≤ 9223372036854775807 ∧ S * 64 ≤ c2 ∧ c2 ≤ 9223372036854775807 ∧ S ≤ c3 ∧ c3 ≤ 9223372036854775807
theorem wrap64_range (n : Int) : -9223372036854775808 ≤ wrap64 n ∧ wrap64 n ≤ 9223372036854775807 := by unfold wrap64; omega
/-- What a call leaves that touches the reference's device alone. -/
def rvL (d g1 g2 g3 : Nat) (k : Nat) : Prop := k = d ∨ k = g1 ∨ k = g2 ∨ k = g3
theorem byt_block {w w' : World} {g B n : Nat} {bs : List UInt8} (h : Byt w B (some ⟨g, 0, none⟩) n bs) (hb : w'.heap[g]? = w.heap[g]?) : Byt w' B (some ⟨g, 0, none⟩) n bs := ⟨h.len, fun hn => by
  obtain ⟨ad, e, hlt, hcl⟩ := h.mem hn
  refine ⟨ad, e, hlt, fun j' u' hu => (World.cell?_of_block ?_).trans (hcl j' u' hu)⟩
  injection e with e
  subst e
  rw [addr_block]
  exact hb⟩
theorem byt_lt {w : World} {g B n : Nat} {bs : List UInt8} (h : Byt w B (some ⟨g, 0, none⟩) n bs) (hn : 0 < n) : g < w.heap.size := by
  obtain ⟨ad, b, e, _, _, hc⟩ := h.get (k := 0) hn
  injection e with e
  subst e
  exact block_lt_of_cell hc
section
variable {w w' : World} {d g1 g2 g3 S c1 c2 c3 : Nat} {s : DS} {lf : Int}
theorem Rv.lts (h : Rv w d g1 g2 g3 S c1 c2 c3 s lf) : d < w.heap.size ∧ g1 < w.heap.size ∧ g2 < w.heap.size ∧ g3 < w.heap.size := by
  obtain ⟨ob, ho⟩ := h.old
  have := h.sz
  exact ⟨h.cells.lt, byt_lt ho (by omega), byt_lt h.new (by omega), block_lt_of_cell (h.dirt 0 (by omega))⟩
theorem Rv.same (h : Rv w d g1 g2 g3 S c1 c2 c3 s lf) (hd : w'.heap[d]? = w.heap[d]?) (h1 : w'.heap[g1]? = w.heap[g1]?) (h2 : w'.heap[g2]? = w.heap[g2]?) (h3 : w'.heap[g3]? = w.heap[g3]?) : Rv w' d g1 g2 g3 S c1 c2 c3 s lf := by
  obtain ⟨ob, ho⟩ := h.old
  exact ⟨h.cells.same hd, h.sd.same hd, h.s1.same h1, h.s2.same h2, h.s3.same h3, ⟨ob, byt_block ho h1⟩, byt_block h.new h2, fun j hj => (World.cell?_of_block (a := ⟨g3, j, none⟩) h3).trans (h.dirt j hj), h.left, h.i64, h.ne, h.ok, h.sz⟩
theorem Rv.below (h : Rv w d g1 g2 g3 S c1 c2 c3 s lf) (hb : Below w.heap.size w w') : Rv w' d g1 g2 g3 S c1 c2 c3 s lf :=
  have ⟨q1, q2, q3, q4⟩ := h.lts
  h.same (hb.block _ q1) (hb.block _ q2) (hb.block _ q3) (hb.block _ q4)
/-- A number or a flag of the struct is written. -/
theorem Rv.setOwn {j : Nat} {u : Value} {s' : DS} {lf' : Int} (h : Rv w d g1 g2 g3 S c1 c2 c3 s lf) (hc : Cells (w.setCell ⟨d, j, none⟩ u) d [.slice (some ⟨g1, 0, none⟩) (S * 64) c1, .slice (some ⟨g2, 0, none⟩) (S * 64) c2, .slice (some ⟨g3, 0, none⟩) S c3, .bool (decide (0 ≤ s'.fu)), .int .i64 lf', .bool s'.dead, .int .i64 (s'.wr : Int)])
    (himg : s'.img = s.img) (hds : s'.ds = s.ds) (hl : 0 ≤ s'.fu → lf' = s'.fu) (hi : -9223372036854775808 ≤ lf' ∧ lf' ≤ 9223372036854775807) (hok : s'.ok S) :
    Rv (w.setCell ⟨d, j, none⟩ u) d g1 g2 g3 S c1 c2 c3 s' lf' ∧ Keep w (w.setCell ⟨d, j, none⟩ u) (rvL d g1 g2 g3) := by
  obtain ⟨n1, n2, n3, n4, n5, n6⟩ := h.ne
  obtain ⟨ob, ho⟩ := h.old
  have hb : ∀ k, k ≠ d → (w.setCell ⟨d, j, none⟩ u).heap[k]? = w.heap[k]? := fun k hk => Below.heap_setCell _ _ _ _ hk
  exact ⟨⟨hc, h.sd.set _ _, h.s1.set _ _, h.s2.set _ _, h.s3.set _ _, ⟨ob, byt_block ho (hb _ (Ne.symm n1))⟩, by rw [himg]; exact byt_block h.new (hb _ (Ne.symm n2)), fun j' hj => by rw [hds]; exact (World.cell?_of_block (a := ⟨g3, j', none⟩) (hb _ (Ne.symm n3))).trans (h.dirt j' hj), hl, hi, h.ne, hok, h.sz⟩,
    ⟨rfl, rfl, rfl, by simp [World.setCell], fun k _ hk => hb k (fun e => hk (.inl e))⟩⟩

theorem rburn_any (hd : s.dead = false) (h : Rv w d g1 g2 g3 S c1 c2 c3 s lf) : Calls Tryd.prog 64 #[.pointer (some ⟨d, 0, none⟩)] w fun e w' => e = .returned (.bool (!(burnS s).dead)) ∧ (∃ lf', Rv w' d g1 g2 g3 S c1 c2 c3 (burnS s) lf') ∧ Keep w w' (rvL d g1 g2 g3) := by
  have l3 := h.cells 3 _ rfl
  have l4 := h.cells 4 _ rfl
  have l5 := h.cells 5 _ rfl
  have z4 := h.sd 4
  have z5 := h.sd 5
  have hfu := h.ok.fu
  have hlf := h.left
  have hi := h.i64
  have HH := Lib.hid h
  have hok := h.ok.burn
  clear h
  obtain ⟨img, ds, wr, fu, dead⟩ := s
  dsimp only at l3 l4 l5 hfu hd hlf ⊢
  subst hd
  rcases Int.lt_trichotomy fu 0 with h1 | h1 | h1
  · have e : burnS ⟨img, ds, wr, fu, false⟩ = ⟨img, ds, wr, fu, false⟩ := by rw [burnS, if_neg (by show ¬ fu = 0; omega), if_neg (by show ¬ 0 < fu; omega)]
    have ef : decide (0 ≤ fu) = false := decide_eq_false (by omega)
    rw [e]
    rw [ef] at l3
    have HF := Lib.hid ef
    clear e hok hlf ef
    clear hi
    go_enter Tryd.func64, Tryd.ntmps64
    go_wp2
    go_ret
    refine ⟨rfl, ⟨_, (HH.out.setOwn (s' := ⟨img, ds, wr, fu, false⟩) (HH.out.cells.set 4 _) rfl rfl (fun h => absurd h (by show ¬ 0 ≤ fu; omega)) ?_ HH.out.ok).1⟩, (HH.out.setOwn (s' := ⟨img, ds, wr, fu, false⟩) (HH.out.cells.set 4 _) rfl rfl (fun h => absurd h (by show ¬ 0 ≤ fu; omega)) ?_ HH.out.ok).2⟩
    all_goals exact wrap64_range _
  · subst h1
    have e : burnS ⟨img, ds, wr, 0, false⟩ = ⟨img, ds, wr, 0, true⟩ := by simp [burnS]
    rw [e] at hok ⊢
    have HO := Lib.hid hok
    obtain rfl : lf = 0 := hlf (by decide)
    have l3' : w.cell? ⟨d, 3, none⟩ = some (.bool true) := l3
    clear e hok hlf l3
    go_enter Tryd.func64, Tryd.ntmps64
    go_wp2
    go_ret
    have hs := HH.out.setOwn (s' := ⟨img, ds, wr, 0, true⟩) (HH.out.cells.set 5 _) rfl rfl (fun _ => rfl) (by decide) HO.out
    exact ⟨rfl, ⟨_, hs.1⟩, hs.2⟩
  · have e : burnS ⟨img, ds, wr, fu, false⟩ = ⟨img, ds, wr, fu - 1, false⟩ := by rw [burnS, if_neg (by show ¬ fu = 0; omega), if_pos (by show 0 < fu; omega)]
    rw [e] at hok ⊢
    have HO := Lib.hid hok
    obtain rfl : lf = fu := hlf (by omega)
    have h2 : (lf == 0) = false := by simp; omega
    have ef : decide (0 ≤ lf) = true := decide_eq_true (by omega)
    have ef2 : decide (0 ≤ lf - 1) = true := decide_eq_true (by omega)
    rw [ef] at l3
    have HF : Hid (decide (0 ≤ lf) = decide (0 ≤ lf - 1)) := by show _ = _; rw [ef, ef2]
    clear e hok hlf ef ef2
    go_enter Tryd.func64, Tryd.ntmps64
    go_wp2
    go_ret
    have hs := HH.out.setOwn (s' := ⟨img, ds, wr, lf - 1, false⟩) (lf' := lf - 1) (u := .int .i64 (lf - 1)) (j := 4) (by have := HH.out.cells.set 4 (.int .i64 (lf - 1)); rw [HF.out] at this; exact this) rfl rfl (fun _ => rfl) (by omega) HO.out
    exact ⟨rfl, ⟨_, hs.1⟩, hs.2⟩
end
end Go.Proofs.YthgpmnblkhehkaaDoor
