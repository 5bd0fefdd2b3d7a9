/- The walk of plan.Decode. -/
import Derived.Test.YthjnbdbbeidhgaaDoorPlanRead
import Derived.Test.YthjnbdbbeidhgaaDoorConcat
import Derived.Deep.DeepCutAuto
import Derived.Deep.RegionHeld3
namespace Go.Proofs.YthjnbdbbeidhgaaDoor
open Go.RowKit

set_option maxHeartbeats 400000 in
theorem pnum_any (k m k' n : Nat) (w0 w : World) (g c : Nat) (p : List UInt8) (hRS : RS w0 w g c p k) (hk : k + m = k') (hl : k' ≤ p.length) (h1 : 1 ≤ m) (h6 : m ≤ 6) (hn : num ((p.drop k).take m) = n) :
    Calls Tryd.prog 37 #[.int .i64 (m : Int), .pointer (some ⟨c, 0, none⟩)] w fun e w' => e = .returned (.int .i64 (n : Int)) ∧ RS w0 w' g c p k' := by
  have hlt : n < 281474976710656 := by rw [← hn]; exact take_lt h6
  have T := num_ok g m (p.drop k) w hRS.rdr (by rw [List.length_drop]; omega) h1 (by omega)
  rw [hn, List.drop_drop, hk] at T
  have T := Lib.hid T
  have hp := hRS.ptr
  have HRS := Lib.hid hRS
  clear hRS hn
  go_enter Tryd.func37, Tryd.ntmps37
  go_wp2_with fail
  refine T.out.mono ?_
  rintro e w1 ⟨rfl, hr, hg, hs⟩
  have HX := Lib.hid (HRS.out.next hr hg hs)
  clear hr hg hs hp
  go_wp2
  go_ret
  exact ⟨rfl, HX.out⟩

/-- While the numbers are read: the reader g, at place k of p; block c holds it; what lies below is as it was. -/
structure PS (w u : World) (g c k : Nat) (p : List UInt8) : Prop where
  rdr : Rdr u g (p.drop k) false
  ptr : u.cell? ⟨c, 0, none⟩ = some (.pointer (some ⟨g, 0, none⟩))
  bel : Below w.heap.size w u
  belR : Below (w.heap.size + 1) (w.alloc (.cells #[.int .i64 0, .int .i64 0, .int .i64 0, .int .i64 0, .int .i64 0, .int .i64 0, .int .i64 0, .int .i64 0] 25)) u
  ne : c ≠ g
  gw : w.heap.size < g
  lt : c < u.heap.size
theorem PS.alloc {w u : World} {g c k : Nat} {p : List UInt8} (h : PS w u g c k p) (o : Obj) : PS w (u.alloc o) g c k p :=
  ⟨h.rdr.below (Below.alloc (Below.refl u.heap.size u) (Nat.le_refl _) o) h.rdr.lt, (World.cell?_alloc_lt _ _ _ h.lt).trans h.ptr, h.bel.alloc h.bel.size o, h.belR.alloc (by have := h.belR.size; simp at this; omega) o, h.ne, h.gw, by simp; have := h.lt; omega⟩
theorem PS.drew {w u : World} {g c k : Nat} {p : List UInt8} (h : PS w u g c k p) : PS w u.drew g c k p :=
  ⟨h.rdr.keep (fun _ _ => rfl), h.ptr, Below.drew h.bel, Below.drew h.belR, h.ne, h.gw, h.lt⟩
theorem PS.rs {w u : World} {g c k : Nat} {p : List UInt8} (h : PS w u g c k p) : RS u u g c p k := ⟨h.rdr, h.ptr, World.grownBy.refl _ _, rfl, h.ne, h.lt⟩
theorem PS.step {w u u' : World} {g c k k' : Nat} {p : List UInt8} (h : PS w u g c k p) (hr : RS u u' g c p k') : PS w u' g c k' p :=
  ⟨hr.rdr, hr.ptr, h.bel.trans (only_below hr.grown (by have := h.gw; omega) h.bel.size), h.belR.trans (only_below hr.grown (by have := h.gw; omega) (by have := h.belR.size; simp at this; omega)), h.ne, h.gw, by rw [hr.size]; exact h.lt⟩
theorem far_cells {u u' : World} {g : Nat} (h : u.grownBy u' (some g)) : (∀ b o, b < u.heap.size → ¬ b = g → u'.cell? ⟨b, o, none⟩ = u.cell? ⟨b, o, none⟩) ∧ (∀ b o, b < u.heap.size → ¬ b = g → u'.frozen? ⟨b, o, none⟩ = u.frozen? ⟨b, o, none⟩) :=
  ⟨fun b _ hb hn => World.cell?_of_block (h.block b hb (fun e => hn (Option.some.inj e))), fun b _ hb hn => World.frozen?_of_block (h.block b hb (fun e => hn (Option.some.inj e)))⟩
theorem cells_set8 {v : World} {g : Nat} {x0 x1 x2 x3 x4 x5 x6 x7 : Value} {y : Value} (h : ∀ j, j < 8 → v.cell? ⟨g, j, none⟩ = some y) :
    Cells ((((((((v.setCell ⟨g, 0, none⟩ x0).setCell ⟨g, 1, none⟩ x1).setCell ⟨g, 2, none⟩ x2).setCell ⟨g, 3, none⟩ x3).setCell ⟨g, 4, none⟩ x4).setCell ⟨g, 5, none⟩ x5).setCell ⟨g, 6, none⟩ x6).setCell ⟨g, 7, none⟩ x7) g [x0, x1, x2, x3, x4, x5, x6, x7] := by
  have ot : ∀ (u : World) (i j : Nat) (x : Value), i ≠ j → (u.setCell ⟨g, i, none⟩ x).cell? ⟨g, j, none⟩ = u.cell? ⟨g, j, none⟩ := fun u i j x hij => World.cell?_setCell_other _ _ _ _ (fun e => by injection e; omega)
  intro j x hj
  match j, hj with
  | 0, hj => cases hj; rw [ot _ 7 0 _ (by decide)]; rw [ot _ 6 0 _ (by decide)]; rw [ot _ 5 0 _ (by decide)]; rw [ot _ 4 0 _ (by decide)]; rw [ot _ 3 0 _ (by decide)]; rw [ot _ 2 0 _ (by decide)]; rw [ot _ 1 0 _ (by decide)]; exact World.cell?_setCell_same _ _ _ (by  exact h 0 (by decide))
  | 1, hj => cases hj; rw [ot _ 7 1 _ (by decide)]; rw [ot _ 6 1 _ (by decide)]; rw [ot _ 5 1 _ (by decide)]; rw [ot _ 4 1 _ (by decide)]; rw [ot _ 3 1 _ (by decide)]; rw [ot _ 2 1 _ (by decide)]; exact World.cell?_setCell_same _ _ _ (by rw [ot _ 0 1 _ (by decide)]; exact h 1 (by decide))
  | 2, hj => cases hj; rw [ot _ 7 2 _ (by decide)]; rw [ot _ 6 2 _ (by decide)]; rw [ot _ 5 2 _ (by decide)]; rw [ot _ 4 2 _ (by decide)]; rw [ot _ 3 2 _ (by decide)]; exact World.cell?_setCell_same _ _ _ (by rw [ot _ 1 2 _ (by decide)]; rw [ot _ 0 2 _ (by decide)]; exact h 2 (by decide))
  | 3, hj => cases hj; rw [ot _ 7 3 _ (by decide)]; rw [ot _ 6 3 _ (by decide)]; rw [ot _ 5 3 _ (by decide)]; rw [ot _ 4 3 _ (by decide)]; exact World.cell?_setCell_same _ _ _ (by rw [ot _ 2 3 _ (by decide)]; rw [ot _ 1 3 _ (by decide)]; rw [ot _ 0 3 _ (by decide)]; exact h 3 (by decide))
  | 4, hj => cases hj; rw [ot _ 7 4 _ (by decide)]; rw [ot _ 6 4 _ (by decide)]; rw [ot _ 5 4 _ (by decide)]; exact World.cell?_setCell_same _ _ _ (by rw [ot _ 3 4 _ (by decide)]; rw [ot _ 2 4 _ (by decide)]; rw [ot _ 1 4 _ (by decide)]; rw [ot _ 0 4 _ (by decide)]; exact h 4 (by decide))
  | 5, hj => cases hj; rw [ot _ 7 5 _ (by decide)]; rw [ot _ 6 5 _ (by decide)]; exact World.cell?_setCell_same _ _ _ (by rw [ot _ 4 5 _ (by decide)]; rw [ot _ 3 5 _ (by decide)]; rw [ot _ 2 5 _ (by decide)]; rw [ot _ 1 5 _ (by decide)]; rw [ot _ 0 5 _ (by decide)]; exact h 5 (by decide))
  | 6, hj => cases hj; rw [ot _ 7 6 _ (by decide)]; exact World.cell?_setCell_same _ _ _ (by rw [ot _ 5 6 _ (by decide)]; rw [ot _ 4 6 _ (by decide)]; rw [ot _ 3 6 _ (by decide)]; rw [ot _ 2 6 _ (by decide)]; rw [ot _ 1 6 _ (by decide)]; rw [ot _ 0 6 _ (by decide)]; exact h 6 (by decide))
  | 7, hj => cases hj;  exact World.cell?_setCell_same _ _ _ (by rw [ot _ 6 7 _ (by decide)]; rw [ot _ 5 7 _ (by decide)]; rw [ot _ 4 7 _ (by decide)]; rw [ot _ 3 7 _ (by decide)]; rw [ot _ 2 7 _ (by decide)]; rw [ot _ 1 7 _ (by decide)]; rw [ot _ 0 7 _ (by decide)]; exact h 7 (by decide))
theorem below_set8 {v : World} {g B : Nat} {x0 x1 x2 x3 x4 x5 x6 x7 : Value} (hB : B ≤ g) : Below B v ((((((((v.setCell ⟨g, 0, none⟩ x0).setCell ⟨g, 1, none⟩ x1).setCell ⟨g, 2, none⟩ x2).setCell ⟨g, 3, none⟩ x3).setCell ⟨g, 4, none⟩ x4).setCell ⟨g, 5, none⟩ x5).setCell ⟨g, 6, none⟩ x6).setCell ⟨g, 7, none⟩ x7) :=
  Below.setCell (Below.setCell (Below.setCell (Below.setCell (Below.setCell (Below.setCell (Below.setCell (Below.setCell (Below.refl _ _) hB _) hB _) hB _) hB _) hB _) hB _) hB _) hB _

def pagg : Pln → Value := fun (k, m, i, t, a, b, c, d) => .agg #[.int .i64 k, .int .i64 m, .int .i64 i, .int .i64 t, .int .i64 a, .int .i64 b, .int .i64 c, .int .i64 d]
/-- What Decode leaves. -/
def PDecRes (r : Option Pln) (w : World) (e : Ending) (w' : World) : Prop :=
  e = .returned (.tuple #[pagg (r.getD (0, 0, 0, 0, 0, 0, 0, 0)), .bool r.isSome]) ∧ Below w.heap.size w w'

set_option maxRecDepth 100000 in
set_option maxHeartbeats 8000000 in
theorem pdecode_any (t : Int) (bs : List UInt8) (A : Option Addr) (n cap B : Nat) (w : World) (ht : TabAt w) (h0 : 0 < w.heap.size) (hb : Byt w B A n bs) (hn : n ≤ cap) (hcap : cap ≤ 9223372036854775807) (hB : B ≤ w.heap.size) (r : Option Pln) (hr : pdecW pread t bs = r) :
    Calls Tryd.prog 13 #[.slice A n cap, .int .i64 t] w (PDecRes r w) := by
  have HT : Hid (∀ w', Below w.heap.size w w' → TabAt w' ∧ 0 < w'.heap.size) := fun w' hw => ⟨ht.below hw h0, Nat.lt_of_lt_of_le h0 hw.size⟩
  have HY : Hid (∀ w', Below w.heap.size w w' → Byt w' w.heap.size A n bs) := fun w' hw => (hb.more hB).below hw
  have HB0 : Hid (∀ o, Below w.heap.size w (w.alloc o)) := fun o => (Below.refl _ _).alloc (Nat.le_refl _) _
  clear hb ht h0 hB
  cases hd : dec 4 0 t bs with
  | none =>
    obtain rfl : r = none := by rw [← hr, pdec_none hd]
    have HD := Lib.hid hd
    clear hr hd
    go_enter Tryd.func13, Tryd.ntmps13
    go_wp2_with fail
    refine (decode_any 4 0 t bs A n cap w.heap.size _ (HT.out _ (HB0.out _)).1 (HT.out _ (HB0.out _)).2 (HY.out _ (HB0.out _)) hn hcap (by simp) (by decide) none HD.out).mono ?_
    rintro e w1 ⟨A1, c1, rfl, hown, hbel⟩
    obtain ⟨hcc, hcf⟩ := cells_of_below hbel
    have HB1 : Hid (Below w.heap.size w w1) := (HB0.out _).trans (hbel.mono (by simp))
    have hw1 : w.heap.size < w1.heap.size := by have := hbel.size; simp at this; omega
    simp only [Option.getD_none, Option.isSome_none, List.length_nil]
    clear hown hbel
    go_wp2
    refine bodyPost_ret (v := .tuple #[.agg #[.int .i64 0, .int .i64 0, .int .i64 0, .int .i64 0, .int .i64 0, .int .i64 0, .int .i64 0, .int .i64 0], .bool false]) (by simp [results, Tryd.results13, go_sem, *]) rfl ?_
    exact ⟨rfl, (by repeat (first | with_reducible exact HB1.out | with_reducible refine Below.setCell ?_ (by first | (simp; done) | (simp; omega) | omega) _))⟩
  | some p =>
    have hpl : p.length = 59 := by obtain ⟨_, hl, rfl, _⟩ := dec_some hd; exact pay_len hl
    have hmay := (dec_some hd).1
    have h64 : n = 64 := by rw [← (HY.out w (Below.refl _ _)).len]; exact (dec_some hd).2.1
    obtain ⟨n1, hn1⟩ : ∃ x, num ((p.drop 0).take 1) = x := ⟨_, rfl⟩
    obtain ⟨n2, hn2⟩ : ∃ x, num ((p.drop 1).take 4) = x := ⟨_, rfl⟩
    obtain ⟨n3, hn3⟩ : ∃ x, num ((p.drop 5).take 1) = x := ⟨_, rfl⟩
    obtain ⟨n4, hn4⟩ : ∃ x, num ((p.drop 6).take 6) = x := ⟨_, rfl⟩
    obtain ⟨n5, hn5⟩ : ∃ x, num ((p.drop 12).take 4) = x := ⟨_, rfl⟩
    obtain ⟨n6, hn6⟩ : ∃ x, num ((p.drop 16).take 1) = x := ⟨_, rfl⟩
    obtain ⟨kk, hkk⟩ : ∃ x, num ((p.drop 17).take 1) = x := ⟨_, rfl⟩
    obtain ⟨n8, hn8⟩ : ∃ x, num ((p.drop 18).take 1) = x := ⟨_, rfl⟩
    obtain ⟨n7, hn7⟩ : ∃ x, lrs n5 kk = x := ⟨_, rfl⟩
    have hrd : pread p = ((n1 : Int), (n2 : Int), (n3 : Int), (n4 : Int), (n5 : Int), (n6 : Int), n7, (n8 : Int)) := by unfold pread; rw [hn1, hn2, hn3, hn4, hn5, hn6, hkk, hn8, hn7]
    have T1 := Lib.hid (fun (u : World) (c g : Nat) (hS : PS w u g c 0 p) => (pnum_any 0 1 1 n1 u u g c p hS.rs rfl (by omega) (by decide) (by decide) hn1).mono (fun e u' (h : e = .returned (.int .i64 (n1 : Int)) ∧ RS u u' g c p 1) => (⟨h.1, hS.step h.2, (far_cells h.2.grown).1, (far_cells h.2.grown).2, h.2.size⟩ : e = .returned (.int .i64 (n1 : Int)) ∧ PS w u' g c 1 p ∧ (∀ b o, b < u.heap.size → ¬ b = g → u'.cell? ⟨b, o, none⟩ = u.cell? ⟨b, o, none⟩) ∧ (∀ b o, b < u.heap.size → ¬ b = g → u'.frozen? ⟨b, o, none⟩ = u.frozen? ⟨b, o, none⟩) ∧ u'.heap.size = u.heap.size)))
    have T2 := Lib.hid (fun (u : World) (c g : Nat) (hS : PS w u g c 1 p) => (pnum_any 1 4 5 n2 u u g c p hS.rs rfl (by omega) (by decide) (by decide) hn2).mono (fun e u' (h : e = .returned (.int .i64 (n2 : Int)) ∧ RS u u' g c p 5) => (⟨h.1, hS.step h.2, (far_cells h.2.grown).1, (far_cells h.2.grown).2, h.2.size⟩ : e = .returned (.int .i64 (n2 : Int)) ∧ PS w u' g c 5 p ∧ (∀ b o, b < u.heap.size → ¬ b = g → u'.cell? ⟨b, o, none⟩ = u.cell? ⟨b, o, none⟩) ∧ (∀ b o, b < u.heap.size → ¬ b = g → u'.frozen? ⟨b, o, none⟩ = u.frozen? ⟨b, o, none⟩) ∧ u'.heap.size = u.heap.size)))
    have T3 := Lib.hid (fun (u : World) (c g : Nat) (hS : PS w u g c 5 p) => (pnum_any 5 1 6 n3 u u g c p hS.rs rfl (by omega) (by decide) (by decide) hn3).mono (fun e u' (h : e = .returned (.int .i64 (n3 : Int)) ∧ RS u u' g c p 6) => (⟨h.1, hS.step h.2, (far_cells h.2.grown).1, (far_cells h.2.grown).2, h.2.size⟩ : e = .returned (.int .i64 (n3 : Int)) ∧ PS w u' g c 6 p ∧ (∀ b o, b < u.heap.size → ¬ b = g → u'.cell? ⟨b, o, none⟩ = u.cell? ⟨b, o, none⟩) ∧ (∀ b o, b < u.heap.size → ¬ b = g → u'.frozen? ⟨b, o, none⟩ = u.frozen? ⟨b, o, none⟩) ∧ u'.heap.size = u.heap.size)))
    have T4 := Lib.hid (fun (u : World) (c g : Nat) (hS : PS w u g c 6 p) => (pnum_any 6 6 12 n4 u u g c p hS.rs rfl (by omega) (by decide) (by decide) hn4).mono (fun e u' (h : e = .returned (.int .i64 (n4 : Int)) ∧ RS u u' g c p 12) => (⟨h.1, hS.step h.2, (far_cells h.2.grown).1, (far_cells h.2.grown).2, h.2.size⟩ : e = .returned (.int .i64 (n4 : Int)) ∧ PS w u' g c 12 p ∧ (∀ b o, b < u.heap.size → ¬ b = g → u'.cell? ⟨b, o, none⟩ = u.cell? ⟨b, o, none⟩) ∧ (∀ b o, b < u.heap.size → ¬ b = g → u'.frozen? ⟨b, o, none⟩ = u.frozen? ⟨b, o, none⟩) ∧ u'.heap.size = u.heap.size)))
    have T5 : Hid (∀ (u : World) (c g : Nat) (hS : PS w u g c 12 p), Calls Tryd.prog 39 #[.pointer (some ⟨g, 0, none⟩)] u fun e u' => e = .returned (.agg #[.int .i64 (n5 : Int), .int .i64 (n6 : Int), .int .i64 n7, .int .i64 (n8 : Int)]) ∧ Below w.heap.size w u' ∧ Below (w.heap.size + 1) (w.alloc (.cells #[.int .i64 0, .int .i64 0, .int .i64 0, .int .i64 0, .int .i64 0, .int .i64 0, .int .i64 0, .int .i64 0] 25)) u' ∧ (∀ b o, b < u.heap.size → ¬ b = g → u'.cell? ⟨b, o, none⟩ = u.cell? ⟨b, o, none⟩) ∧ (∀ b o, b < u.heap.size → ¬ b = g → u'.frozen? ⟨b, o, none⟩ = u.frozen? ⟨b, o, none⟩) ∧ u.heap.size ≤ u'.heap.size) := fun u c g hS => by
      have h := readLay_any g n5 n6 kk n8 (p.drop 12) u hS.rdr (by rw [List.length_drop]; omega) (by rw [List.drop_drop]; exact hn5) (by rw [List.drop_drop]; exact hn6) (by rw [List.drop_drop]; exact hkk) (by rw [List.drop_drop]; exact hn8)
      rw [hn7] at h
      refine h.mono ?_
      rintro e u' ⟨h1, _, h3⟩
      exact ⟨h1, hS.bel.trans (only_below h3 (by have := hS.gw; omega) hS.bel.size), hS.belR.trans (only_below h3 (by have := hS.gw; omega) (by have := hS.belR.size; simp at this; omega)), (far_cells h3).1, (far_cells h3).2, h3.size⟩
    have b1 : n1 < 256 := by rw [← hn1]; exact take_lt1
    have b2 : n2 < 281474976710656 := by rw [← hn2]; exact take_lt (by decide)
    have b3 : n3 < 256 := by rw [← hn3]; exact take_lt1
    have b4 : n4 < 281474976710656 := by rw [← hn4]; exact take_lt (by decide)
    have i5 : I64 (n5 : Int) := by
      have hlt : n5 < 281474976710656 := by rw [← hn5]; exact take_lt (by decide)
      unfold I64; omega
    have i6 : I64 (n6 : Int) := by
      have hlt : n6 < 256 := by rw [← hn6]; exact take_lt1
      unfold I64; omega
    have i8 : I64 (n8 : Int) := by
      have hlt : n8 < 256 := by rw [← hn8]; exact take_lt1
      unfold I64; omega
    have i7 : I64 n7 := by
      rw [← hn7]; unfold lrs I64
      split
      · have hb : 2 ^ min kk 30 ≤ 2 ^ 30 := Nat.pow_le_pow_right (by decide) (by omega)
        simp only [Nat.reducePow] at hb
        generalize 2 ^ min kk 30 = z at hb ⊢
        omega
      · omega
    rw [pdec_some hd, hrd] at hr
    have hC : (pencS ((n1 : Int), (n2 : Int), (n3 : Int), (n4 : Int), (n5 : Int), (n6 : Int), n7, (n8 : Int)) t = ([], 4) ∧ r = none) ∨ (pencS ((n1 : Int), (n2 : Int), (n3 : Int), (n4 : Int), (n5 : Int), (n6 : Int), n7, (n8 : Int)) t = (pencF ((n1 : Int), (n2 : Int), (n3 : Int), (n4 : Int), (n5 : Int), (n6 : Int), n7, (n8 : Int)) t, 0) ∧ pencF ((n1 : Int), (n2 : Int), (n3 : Int), (n4 : Int), (n5 : Int), (n6 : Int), n7, (n8 : Int)) t = bs ∧ r = some ((n1 : Int), (n2 : Int), (n3 : Int), (n4 : Int), (n5 : Int), (n6 : Int), n7, (n8 : Int))) ∨ (pencS ((n1 : Int), (n2 : Int), (n3 : Int), (n4 : Int), (n5 : Int), (n6 : Int), n7, (n8 : Int)) t = (pencF ((n1 : Int), (n2 : Int), (n3 : Int), (n4 : Int), (n5 : Int), (n6 : Int), n7, (n8 : Int)) t, 0) ∧ pencF ((n1 : Int), (n2 : Int), (n3 : Int), (n4 : Int), (n5 : Int), (n6 : Int), n7, (n8 : Int)) t ≠ bs ∧ r = none) := by
      cases hv : pvalid ((n1 : Int), (n2 : Int), (n3 : Int), (n4 : Int), (n5 : Int), (n6 : Int), n7, (n8 : Int))
      · exact .inl ⟨pencS_bad hv, by rw [← hr, if_neg (by rw [hv]; simp)]⟩
      · by_cases he : pencF ((n1 : Int), (n2 : Int), (n3 : Int), (n4 : Int), (n5 : Int), (n6 : Int), n7, (n8 : Int)) t = bs
        · exact .inr (.inl ⟨pencS_ok hv hmay, he, by rw [← hr, if_pos ⟨hv, he⟩]⟩)
        · exact .inr (.inr ⟨pencS_ok hv hmay, he, by rw [← hr, if_neg (fun h => he h.2)]⟩)
    have HC := Lib.hid hC
    have HD := Lib.hid hd
    have HPL := Lib.hid hpl
    clear hC hr hd hrd hpl hmay hn1 hn2 hn3 hn4 hn5 hn6 hkk hn8 hn7 b1 b2 b3 b4
    subst h64
    go_enter Tryd.func13, Tryd.ntmps13
    go_wp2_with fail
    refine (decode_any 4 0 t bs A 64 cap w.heap.size _ (HT.out _ (HB0.out _)).1 (HT.out _ (HB0.out _)).2 (HY.out _ (HB0.out _)) hn hcap (by simp) (by decide) (some p) HD.out).mono ?_
    rintro e w1 ⟨A1, c1, rfl, hown, hbel⟩
    simp only [Option.getD_some, Option.isSome_some, HPL.out] at hown ⊢
    have HB1 : Hid (Below w.heap.size w w1) := (HB0.out _).trans (hbel.mono (by simp))
    have HR1 : Hid (Below (w.heap.size + 1) (w.alloc (.cells #[.int .i64 0, .int .i64 0, .int .i64 0, .int .i64 0, .int .i64 0, .int .i64 0, .int .i64 0, .int .i64 0] 25)) w1) := hbel.mono (by simp)
    have hw1 : w.heap.size < w1.heap.size := by have := hbel.size; simp at this; omega
    have HO1 := Lib.hid hown
    clear hown hbel
    go_wp2_with fail
    refine (newReader_any p A1 59 c1 w1.heap.size w1 HO1.out.byt (by decide) (Nat.le_refl _)).mono ?_
    rintro e w2 ⟨g, rfl, hrdr, hg, hbel⟩
    have hgl := hrdr.lt
    have HB2 := Lib.hid (HB1.out.trans (hbel.mono HB1.out.size))
    have HR2 := Lib.hid (HR1.out.trans (hbel.mono hw1))
    have hw2 : w.heap.size < w2.heap.size := Nat.lt_of_lt_of_le hw1 hbel.size
    have HRD := Lib.hid hrdr
    clear hrdr hbel HO1
    have HS0 : Hid (PS w (w2.alloc (.cells #[.pointer (some ⟨g, 0, none⟩)] 61)) g w2.heap.size 0 p) :=
      ⟨HRD.out.below (Below.alloc (Below.refl _ _) (Nat.le_refl _) _) hgl, cell_of_row _ _ _ _ _ _ (heap_alloc_new w2 _), HB2.out.alloc HB2.out.size _, HR2.out.alloc (by omega) _, by omega, by omega, by simp⟩
    go_upto_region 6 with fail
    have hp0 := HS0.out.ptr
    have hgn1 : ¬ w2.heap.size + 1 = g := by omega
    have hgn0 : ¬ w2.heap.size = g := by omega
    go_cut [10] (fun a wx => ∃ bl : Nat, a = .pointer (some ⟨bl, 0, none⟩) ∧ Cells wx bl #[.int .i64 (n1 : Int), .int .i64 (n2 : Int), .int .i64 (n3 : Int), .int .i64 (n4 : Int), .int .i64 (n5 : Int), .int .i64 (n6 : Int), .int .i64 n7, .int .i64 (n8 : Int)].toList ∧ Below w.heap.size w wx ∧ Below (w.heap.size + 1) (w.alloc (.cells #[.int .i64 0, .int .i64 0, .int .i64 0, .int .i64 0, .int .i64 0, .int .i64 0, .int .i64 0, .int .i64 0] 25)) wx ∧ bl < wx.heap.size ∧ w.heap.size < bl)
    case first =>
      go_region_held3 (fun w' => w'.cell? ⟨w2.heap.size, 0, none⟩ = some (.pointer (some ⟨g, 0, none⟩))) (go_keep) (first
        | (go_at_call 37; refine (T1.out _ w2.heap.size g (by first | exact HS0.out | exact HS0.out.drew | exact (HS0.out.alloc _).drew | exact HS0.out.alloc _)).mono ?_; rintro e v1 ⟨rfl, hs, hk1, hf1, hz1⟩; (try simp at hz1); have HS1 := Lib.hid hs; have hp1 := hs.ptr; clear hs)
        | (go_at_call 37; refine (T2.out _ w2.heap.size g (by first | exact HS1.out | exact HS1.out.drew | exact (HS1.out.alloc _).drew | exact HS1.out.alloc _)).mono ?_; rintro e v2 ⟨rfl, hs, hk2, hf2, hz2⟩; (try simp at hz2); have HS2 := Lib.hid hs; have hp2 := hs.ptr; clear hs)
        | (go_at_call 37; refine (T3.out _ w2.heap.size g (by first | exact HS2.out | exact HS2.out.drew | exact (HS2.out.alloc _).drew | exact HS2.out.alloc _)).mono ?_; rintro e v3 ⟨rfl, hs, hk3, hf3, hz3⟩; (try simp at hz3); have HS3 := Lib.hid hs; have hp3 := hs.ptr; clear hs)
        | (go_at_call 37; refine (T4.out _ w2.heap.size g (by first | exact HS3.out | exact HS3.out.drew | exact (HS3.out.alloc _).drew | exact HS3.out.alloc _)).mono ?_; rintro e v4 ⟨rfl, hs, hk4, hf4, hz4⟩; (try simp at hz4); have HS4 := Lib.hid hs; have hp4 := hs.ptr; clear hs)
        | (go_at_call 39; refine (T5.out _ w2.heap.size g (by first | exact HS4.out | exact HS4.out.drew | exact (HS4.out.alloc _).drew | exact HS4.out.alloc _)).mono ?_; rintro e v5 ⟨rfl, hb5, hr5, hk5, hf5, hz5⟩; (try simp at hz5); have HB5 := Lib.hid hb5; have HR5 := Lib.hid hr5; have hp5 : v5.cell? ⟨w2.heap.size, 0, none⟩ = some (.pointer (some ⟨g, 0, none⟩)) := (hk5 _ _ (by first | exact HS4.out.lt | exact (HS4.out.alloc _).lt) (by omega)).trans (by first | exact HS4.out.ptr | exact (HS4.out.alloc _).ptr); clear hb5 hr5))
      all_goals
        go_wp2_with fail
        (try go_simp)
        go_meet
        first
          | (refine ⟨v5.heap.size, (by with_reducible rfl), ?_, ?_, ?_, ?_, ?_⟩
             · exact Cells.new v5 _ #[.int .i64 (n1 : Int), .int .i64 (n2 : Int), .int .i64 (n3 : Int), .int .i64 (n4 : Int), .int .i64 (n5 : Int), .int .i64 (n6 : Int), .int .i64 n7, .int .i64 (n8 : Int)]
             · exact HB5.out.alloc HB5.out.size _
             · exact HR5.out.alloc (by have := HR5.out.size; simp at this; omega) _
             · simp
             · have := HR5.out.size; simp at this; omega)
          | (have hz8 : ∀ j, j < 8 → v5.cell? ⟨w2.heap.size + 1, j, none⟩ = some (.int .i64 0) := by
               intro j hj
               obtain rfl | rfl | rfl | rfl | rfl | rfl | rfl | rfl : j = 0 ∨ j = 1 ∨ j = 2 ∨ j = 3 ∨ j = 4 ∨ j = 5 ∨ j = 6 ∨ j = 7 := by omega
               all_goals go_simp
             clear hk1 hk2 hk3 hk4 hk5 hf1 hf2 hf3 hf4 hf5
             exact ⟨w2.heap.size + 1, rfl, cells_set8 hz8, HB5.out.trans (below_set8 (by omega)), HR5.out.trans (below_set8 (by omega)), by simp [World.setCell]; omega, by omega⟩)
    case rest =>
      obtain ⟨bl, rfl, hcx, hbel, hbelR, hlt, hgt⟩ := hcut
      have HX := Lib.hid hcx
      have HB5 := Lib.hid hbel
      have HR5 := Lib.hid hbelR
      have l0 := hcx 0 _ rfl
      have l1 := hcx 1 _ rfl
      have l2 := hcx 2 _ rfl
      have l3 := hcx 3 _ rfl
      have l4 := hcx 4 _ rfl
      have l5 := hcx 5 _ rfl
      have l6 := hcx 6 _ rfl
      have l7 := hcx 7 _ rfl
      clear hcx hbel hbelR HS0 hp0 T1 T2 T3 T4 T5 HRD HR1 HR2 HB1 HB2
      go_wp2_with fail
      clear l0 l1 l2 l3 l4 l5 l6 l7
      rcases HC.out with ⟨h1, rfl⟩ | ⟨h1, h2, rfl⟩ | ⟨h1, h2, rfl⟩
      · refine (pencode_any n1 n2 n3 n4 n5 n6 n7 n8 t i5 i6 i7 i8 _ (HT.out _ HB5.out).1 (HT.out _ HB5.out).2 ([], 4) h1).mono ?_
        rintro e w5 ⟨A5, c5, rfl, hown, hbel⟩
        have HB6 := Lib.hid (HB5.out.trans (hbel.mono HB5.out.size))
        obtain ⟨hcc, hcf⟩ := cells_of_below (HR5.out.trans (hbel.mono (by omega)))
        have hcx := HX.out.below hbel hlt
        have l0 := hcx 0 _ rfl
        have l1 := hcx 1 _ rfl
        have l2 := hcx 2 _ rfl
        have l3 := hcx 3 _ rfl
        have l4 := hcx 4 _ rfl
        have l5 := hcx 5 _ rfl
        have l6 := hcx 6 _ rfl
        have l7 := hcx 7 _ rfl
        clear hcx
        have hw5 : bl < w5.heap.size := Nat.lt_of_lt_of_le hlt hbel.size
        have hw6 : w.heap.size < w5.heap.size := by omega
        clear hown hbel h1 HC
        go_wp2
        refine bodyPost_ret (v := .tuple #[.agg #[.int .i64 0, .int .i64 0, .int .i64 0, .int .i64 0, .int .i64 0, .int .i64 0, .int .i64 0, .int .i64 0], .bool false]) (by simp [results, Tryd.results13, go_sem, *]) rfl ?_
        exact ⟨rfl, (by repeat (first | with_reducible exact HB6.out | with_reducible refine Below.setCell ?_ (by first | (simp; done) | (simp; omega) | omega) _))⟩
      · refine (pencode_any n1 n2 n3 n4 n5 n6 n7 n8 t i5 i6 i7 i8 _ (HT.out _ HB5.out).1 (HT.out _ HB5.out).2 (pencF ((n1 : Int), (n2 : Int), (n3 : Int), (n4 : Int), (n5 : Int), (n6 : Int), n7, (n8 : Int)) t, 0) h1).mono ?_
        rintro e w5 ⟨A5, c5, rfl, hown, hbel⟩
        have HB6 := Lib.hid (HB5.out.trans (hbel.mono HB5.out.size))
        obtain ⟨hcc, hcf⟩ := cells_of_below (HR5.out.trans (hbel.mono (by omega)))
        have hcx := HX.out.below hbel hlt
        have l0 := hcx 0 _ rfl
        have l1 := hcx 1 _ rfl
        have l2 := hcx 2 _ rfl
        have l3 := hcx 3 _ rfl
        have l4 := hcx 4 _ rfl
        have l5 := hcx 5 _ rfl
        have l6 := hcx 6 _ rfl
        have l7 := hcx 7 _ rfl
        clear hcx
        have hw5 : bl < w5.heap.size := Nat.lt_of_lt_of_le hlt hbel.size
        have hw6 : w.heap.size < w5.heap.size := by omega
        have HO5 := Lib.hid hown
        have h3 := Lib.hid h2
        clear hown hbel h1 h2 HC
        go_wp2_with fail
        refine (equal_any (pencF ((n1 : Int), (n2 : Int), (n3 : Int), (n4 : Int), (n5 : Int), (n6 : Int), n7, (n8 : Int)) t) bs A5 A (pencF ((n1 : Int), (n2 : Int), (n3 : Int), (n4 : Int), (n5 : Int), (n6 : Int), n7, (n8 : Int)) t).length 64 c5 cap _ w.heap.size w5 HO5.out.byt (HY.out _ HB6.out)).mono ?_
        rintro e w' ⟨rfl, rfl⟩
        rw [decide_eq_true h3.out]
        go_wp2
        refine bodyPost_ret (v := .tuple #[.agg #[.int .i64 (n1 : Int), .int .i64 (n2 : Int), .int .i64 (n3 : Int), .int .i64 (n4 : Int), .int .i64 (n5 : Int), .int .i64 (n6 : Int), .int .i64 n7, .int .i64 (n8 : Int)], .bool true]) (by simp [results, Tryd.results13, go_sem, *]) rfl ?_
        exact ⟨rfl, (by repeat (first | with_reducible exact HB6.out | with_reducible refine Below.setCell ?_ (by first | (simp; done) | (simp; omega) | omega) _))⟩
      · refine (pencode_any n1 n2 n3 n4 n5 n6 n7 n8 t i5 i6 i7 i8 _ (HT.out _ HB5.out).1 (HT.out _ HB5.out).2 (pencF ((n1 : Int), (n2 : Int), (n3 : Int), (n4 : Int), (n5 : Int), (n6 : Int), n7, (n8 : Int)) t, 0) h1).mono ?_
        rintro e w5 ⟨A5, c5, rfl, hown, hbel⟩
        have HB6 := Lib.hid (HB5.out.trans (hbel.mono HB5.out.size))
        obtain ⟨hcc, hcf⟩ := cells_of_below (HR5.out.trans (hbel.mono (by omega)))
        have hcx := HX.out.below hbel hlt
        have l0 := hcx 0 _ rfl
        have l1 := hcx 1 _ rfl
        have l2 := hcx 2 _ rfl
        have l3 := hcx 3 _ rfl
        have l4 := hcx 4 _ rfl
        have l5 := hcx 5 _ rfl
        have l6 := hcx 6 _ rfl
        have l7 := hcx 7 _ rfl
        clear hcx
        have hw5 : bl < w5.heap.size := Nat.lt_of_lt_of_le hlt hbel.size
        have hw6 : w.heap.size < w5.heap.size := by omega
        have HO5 := Lib.hid hown
        have h3 := Lib.hid h2
        clear hown hbel h1 h2 HC
        go_wp2_with fail
        refine (equal_any (pencF ((n1 : Int), (n2 : Int), (n3 : Int), (n4 : Int), (n5 : Int), (n6 : Int), n7, (n8 : Int)) t) bs A5 A (pencF ((n1 : Int), (n2 : Int), (n3 : Int), (n4 : Int), (n5 : Int), (n6 : Int), n7, (n8 : Int)) t).length 64 c5 cap _ w.heap.size w5 HO5.out.byt (HY.out _ HB6.out)).mono ?_
        rintro e w' ⟨rfl, rfl⟩
        rw [decide_eq_false h3.out]
        go_wp2
        refine bodyPost_ret (v := .tuple #[.agg #[.int .i64 0, .int .i64 0, .int .i64 0, .int .i64 0, .int .i64 0, .int .i64 0, .int .i64 0, .int .i64 0], .bool false]) (by simp [results, Tryd.results13, go_sem, *]) rfl ?_
        exact ⟨rfl, (by repeat (first | with_reducible exact HB6.out | with_reducible refine Below.setCell ?_ (by first | (simp; done) | (simp; omega) | omega) _))⟩
end Go.Proofs.YthjnbdbbeidhgaaDoor
