/- The walk of superblock.Decode (tools/mksupdec.py). -/
import Derived.Test.YthjnbdbbeidhgaaDoorSupEnc
import Derived.Test.YthjnbdbbeidhgaaDoorPlanRead
import Derived.Test.YthjnbdbbeidhgaaDoorConcat
import Derived.Deep.DeepCutAuto
import Derived.Deep.CutBlock
import Derived.Deep.RegionHeld3
namespace Go.Proofs.YthjnbdbbeidhgaaDoor
open Go.RowKit

set_option maxHeartbeats 400000 in
theorem snum_any (k m k' n : Nat) (w0 w : World) (g c : Nat) (p : List UInt8) (hRS : RS w0 w g c p k) (hk : k + m = k') (hl : k' ≤ p.length) (h1 : 1 ≤ m) (h6 : m ≤ 6) (hn : num ((p.drop k).take m) = n) :
    Calls Tryd.prog 47 #[.int .i64 (m : Int), .pointer (some ⟨c, 0, none⟩)] w fun e w' => e = .returned (.int .i64 (n : Int)) ∧ RS w0 w' g c p k' := by
  have hlt : n < 281474976710656 := by rw [← hn]; exact take_lt h6
  have T := num_ok g m (p.drop k) w hRS.rdr (by rw [List.length_drop]; omega) h1 (by omega)
  rw [hn, List.drop_drop, hk] at T
  have T := Lib.hid T
  have hp := hRS.ptr
  have HRS := Lib.hid hRS
  clear hRS hn
  go_enter Tryd.func47, Tryd.ntmps47
  go_wp2_with fail
  refine T.out.mono ?_
  rintro e w1 ⟨rfl, hr, hg, hs⟩
  have HX := Lib.hid (HRS.out.next hr hg hs)
  clear hr hg hs hp
  go_wp2
  go_ret
  exact ⟨rfl, HX.out⟩

/-- While the numbers are read: the reader g, at place k of p; block c holds it; what lies below is as it was. -/
structure QS (w u : World) (g c k : Nat) (p : List UInt8) : Prop where
  rdr : Rdr u g (p.drop k) false
  ptr : u.cell? ⟨c, 0, none⟩ = some (.pointer (some ⟨g, 0, none⟩))
  bel : Below w.heap.size w u
  belR : Below (w.heap.size + 1) (w.alloc (.cells #[.int .i64 0, .int .i64 0, .int .i64 0, .int .i64 0, .int .i64 0, .int .i64 0, .int .i64 0, .int .i64 0, .int .i64 0, .int .i64 0, .int .i64 0, .int .i64 0, .int .i64 0, .slice none 0 0] 41)) u
  ne : c ≠ g
  gw : w.heap.size < g
  lt : c < u.heap.size
theorem QS.alloc {w u : World} {g c k : Nat} {p : List UInt8} (h : QS w u g c k p) (o : Obj) : QS w (u.alloc o) g c k p :=
  ⟨h.rdr.below (Below.alloc (Below.refl u.heap.size u) (Nat.le_refl _) o) h.rdr.lt, (World.cell?_alloc_lt _ _ _ h.lt).trans h.ptr, h.bel.alloc h.bel.size o, h.belR.alloc (by have := h.belR.size; simp at this; omega) o, h.ne, h.gw, by simp; have := h.lt; omega⟩
theorem QS.drew {w u : World} {g c k : Nat} {p : List UInt8} (h : QS w u g c k p) : QS w u.drew g c k p :=
  ⟨h.rdr.keep (fun _ _ => rfl), h.ptr, Below.drew h.bel, Below.drew h.belR, h.ne, h.gw, h.lt⟩
theorem QS.rs {w u : World} {g c k : Nat} {p : List UInt8} (h : QS w u g c k p) : RS u u g c p k := ⟨h.rdr, h.ptr, World.grownBy.refl _ _, rfl, h.ne, h.lt⟩
theorem QS.step {w u u' : World} {g c k k' : Nat} {p : List UInt8} (h : QS w u g c k p) (hr : RS u u' g c p k') : QS w u' g c k' p :=
  ⟨hr.rdr, hr.ptr, h.bel.trans (only_below hr.grown (by have := h.gw; omega) h.bel.size), h.belR.trans (only_below hr.grown (by have := h.gw; omega) (by have := h.belR.size; simp at this; omega)), h.ne, h.gw, by rw [hr.size]; exact h.lt⟩
theorem farc {u u' : World} {g : Nat} (h : u.grownBy u' (some g)) : (∀ b o, b < u.heap.size → ¬ b = g → u'.cell? ⟨b, o, none⟩ = u.cell? ⟨b, o, none⟩) ∧ (∀ b o, b < u.heap.size → ¬ b = g → u'.frozen? ⟨b, o, none⟩ = u.frozen? ⟨b, o, none⟩) :=
  ⟨fun b _ hb hn => World.cell?_of_block (h.block b hb (fun e => hn (Option.some.inj e))), fun b _ hb hn => World.frozen?_of_block (h.block b hb (fun e => hn (Option.some.inj e)))⟩
theorem QS.lay {w u u' : World} {g c k : Nat} {p : List UInt8} (h : QS w u g c k p) (hr : Rdr u' g ((p.drop k).drop 7) false) (hg : u.grownBy u' (some g)) : QS w u' g c (k + 7) p :=
  ⟨by rw [List.drop_drop] at hr; exact hr, ((farc hg).1 c 0 h.lt h.ne).trans h.ptr, h.bel.trans (only_below hg (by have := h.gw; omega) h.bel.size), h.belR.trans (only_below hg (by have := h.gw; omega) (by have := h.belR.size; simp at this; omega)), h.ne, h.gw, Nat.lt_of_lt_of_le h.lt hg.size⟩
theorem cells_set14 {v : World} {g : Nat} {x0 x1 x2 x3 x4 x5 x6 x7 x8 x9 x10 x11 x12 x13 : Value} {y0 y1 y2 y3 y4 y5 y6 y7 y8 y9 y10 y11 y12 y13 : Value} (h : Cells v g [y0, y1, y2, y3, y4, y5, y6, y7, y8, y9, y10, y11, y12, y13]) : Cells ((((((((((((((v.setCell ⟨g, 0, none⟩ x0).setCell ⟨g, 1, none⟩ x1).setCell ⟨g, 2, none⟩ x2).setCell ⟨g, 3, none⟩ x3).setCell ⟨g, 4, none⟩ x4).setCell ⟨g, 5, none⟩ x5).setCell ⟨g, 6, none⟩ x6).setCell ⟨g, 7, none⟩ x7).setCell ⟨g, 8, none⟩ x8).setCell ⟨g, 9, none⟩ x9).setCell ⟨g, 10, none⟩ x10).setCell ⟨g, 11, none⟩ x11).setCell ⟨g, 12, none⟩ x12).setCell ⟨g, 13, none⟩ x13) g [x0, x1, x2, x3, x4, x5, x6, x7, x8, x9, x10, x11, x12, x13] :=
  ((((((((((((((h.set 0 x0).set 1 x1).set 2 x2).set 3 x3).set 4 x4).set 5 x5).set 6 x6).set 7 x7).set 8 x8).set 9 x9).set 10 x10).set 11 x11).set 12 x12).set 13 x13)
theorem below_set14 {v : World} {g B : Nat} {x0 x1 x2 x3 x4 x5 x6 x7 x8 x9 x10 x11 x12 x13 : Value} (hB : B ≤ g) : Below B v ((((((((((((((v.setCell ⟨g, 0, none⟩ x0).setCell ⟨g, 1, none⟩ x1).setCell ⟨g, 2, none⟩ x2).setCell ⟨g, 3, none⟩ x3).setCell ⟨g, 4, none⟩ x4).setCell ⟨g, 5, none⟩ x5).setCell ⟨g, 6, none⟩ x6).setCell ⟨g, 7, none⟩ x7).setCell ⟨g, 8, none⟩ x8).setCell ⟨g, 9, none⟩ x9).setCell ⟨g, 10, none⟩ x10).setCell ⟨g, 11, none⟩ x11).setCell ⟨g, 12, none⟩ x12).setCell ⟨g, 13, none⟩ x13) :=
  (Below.setCell (Below.setCell (Below.setCell (Below.setCell (Below.setCell (Below.setCell (Below.setCell (Below.setCell (Below.setCell (Below.setCell (Below.setCell (Below.setCell (Below.setCell (Below.setCell (Below.refl _ _) hB _) hB _) hB _) hB _) hB _) hB _) hB _) hB _) hB _) hB _) hB _) hB _) hB _) hB _)
/-- The block of the superblock, laid early. -/
structure EB (w : World) (b g c : Nat) : Prop where
  cells : Cells w b [.int .i64 0, .int .i64 0, .int .i64 0, .int .i64 0, .int .i64 0, .int .i64 0, .int .i64 0, .int .i64 0, .int .i64 0, .int .i64 0, .int .i64 0, .int .i64 0, .int .i64 0, .slice none 0 0]
  soft : Soft w b
  lt : b < w.heap.size
  gt : g < b
  cgt : c < b
theorem EB.new (w : World) (g c : Nat) (hg : g < w.heap.size) (hc : c < w.heap.size) : EB (w.alloc (.cells #[.int .i64 0, .int .i64 0, .int .i64 0, .int .i64 0, .int .i64 0, .int .i64 0, .int .i64 0, .int .i64 0, .int .i64 0, .int .i64 0, .int .i64 0, .int .i64 0, .int .i64 0, .slice none 0 0] 41)) w.heap.size g c := ⟨Cells.new w _ _, Soft.new w _ _, by simp, hg, hc⟩
theorem EB.new1 (w : World) (o : Obj) (g : Nat) (hg : g < w.heap.size) : EB ((w.alloc o).alloc (.cells #[.int .i64 0, .int .i64 0, .int .i64 0, .int .i64 0, .int .i64 0, .int .i64 0, .int .i64 0, .int .i64 0, .int .i64 0, .int .i64 0, .int .i64 0, .int .i64 0, .int .i64 0, .slice none 0 0] 41)) (w.heap.size + 1) g w.heap.size := by
  have h := EB.new (w.alloc o) g w.heap.size (by simp; omega) (by simp)
  rw [World.size_alloc] at h
  exact h
theorem EB.drew {w : World} {b g c : Nat} (h : EB w b g c) : EB w.drew b g c := ⟨h.cells, h.soft, h.lt, h.gt, h.cgt⟩
theorem EB.carry {u u' : World} {b g c : Nat} (h : EB u b g c) (hk : ∀ b o, b < u.heap.size → ¬ b = g → u'.cell? ⟨b, o, none⟩ = u.cell? ⟨b, o, none⟩) (hf : ∀ b o, b < u.heap.size → ¬ b = g → u'.frozen? ⟨b, o, none⟩ = u.frozen? ⟨b, o, none⟩) (hs : u.heap.size ≤ u'.heap.size) : EB u' b g c :=
  ⟨fun j x hj => (hk b j h.lt (by have := h.gt; omega)).trans (h.cells j x hj), fun j => (hf b j h.lt (by have := h.gt; omega)).trans (h.soft j), Nat.lt_of_lt_of_le h.lt hs, h.gt, h.cgt⟩
theorem QS.set {w u : World} {g c k : Nat} {p : List UInt8} (h : QS w u g c k p) {b : Nat} (hb : g < b) (hc : c < b) (j : Nat) (x : Value) : QS w (u.setCell ⟨b, j, none⟩ x) g c k p :=
  ⟨h.rdr.keep (fun i hi => Below.heap_setCell _ _ _ _ (by intro e; simp at e; omega)), (World.cell?_setCell_other _ _ _ _ (fun e => by injection e; omega)).trans h.ptr, h.bel.setCell (by have := h.gw; show _ ≤ b; omega) _, h.belR.setCell (by have := h.gw; show _ ≤ b; omega) _, h.ne, h.gw, by simpa [World.setCell] using h.lt⟩
theorem lyRd_ok (q : List UInt8) : (lyRd q).ok := by
  have h1 : num ((q.drop 0).take 4) < 281474976710656 := take_lt (by decide)
  have h2 : num ((q.drop 4).take 1) < 256 := take_lt1
  have h4 : num ((q.drop 6).take 1) < 256 := take_lt1
  refine ⟨?_, ?_, ?_, ?_⟩
  · show I64 (num ((q.drop 0).take 4) : Int)
    unfold I64; omega
  · show I64 (num ((q.drop 4).take 1) : Int)
    unfold I64; omega
  · show I64 (lrs _ _)
    unfold lrs I64
    split
    · have hb : 2 ^ min (num ((q.drop 5).take 1)) 30 ≤ 2 ^ 30 := Nat.pow_le_pow_right (by decide) (by omega)
      simp only [Nat.reducePow] at hb
      generalize 2 ^ min (num ((q.drop 5).take 1)) 30 = z at hb ⊢
      omega
    · omega
  · show I64 (num ((q.drop 6).take 1) : Int)
    unfold I64; omega
theorem Cells.other {w : World} {b g : Nat} {l : List Value} (h : Cells w g l) (hn : ¬ g = b) (j : Nat) (x : Value) : Cells (w.setCell ⟨b, j, none⟩ x) g l := fun i y hi => (World.cell?_setCell_other _ _ _ _ (fun e => by injection e; omega)).trans (h i y hi)
theorem LAt.ofCells1 {w : World} {g : Nat} {l : Ly} (h : Cells w g [.int .i64 l.a, .int .i64 l.b, .int .i64 l.c, .int .i64 l.d]) (hg : g < w.heap.size) : LAt w w.heap.size (some ⟨g, 0, none⟩) 1 [l] := ⟨rfl, fun j x hj => by
  match j, hj with
  | 0, hj =>
    simp at hj
    subst hj
    exact ⟨_, rfl, hg, by simpa [Addr.add] using h 0 _ rfl, by simpa [Addr.add] using h 1 _ rfl, by simpa [Addr.add] using h 2 _ rfl, by simpa [Addr.add] using h 3 _ rfl⟩⟩
theorem LAt.ofCells2 {w : World} {g : Nat} {x y : Ly} (h : Cells w g [.int .i64 x.a, .int .i64 x.b, .int .i64 x.c, .int .i64 x.d, .int .i64 y.a, .int .i64 y.b, .int .i64 y.c, .int .i64 y.d]) (hg : g < w.heap.size) : LAt w w.heap.size (some ⟨g, 0, none⟩) 2 [x, y] := ⟨rfl, fun j l hj => by
  match j, hj with
  | 0, hj =>
    simp at hj
    subst hj
    exact ⟨_, rfl, hg, by simpa [Addr.add] using h 0 _ rfl, by simpa [Addr.add] using h 1 _ rfl, by simpa [Addr.add] using h 2 _ rfl, by simpa [Addr.add] using h 3 _ rfl⟩
  | 1, hj =>
    simp at hj
    subst hj
    exact ⟨_, rfl, hg, by simpa [Addr.add] using h 4 _ rfl, by simpa [Addr.add] using h 5 _ rfl, by simpa [Addr.add] using h 6 _ rfl, by simpa [Addr.add] using h 7 _ rfl⟩⟩
theorem LAt.setc {w : World} {B k b : Nat} {A : Option Addr} {fs : List Ly} (h : LAt w B A k fs) (hn : ∀ ad, A = some ad → ¬ ad.block = b) (j : Nat) (x : Value) : LAt (w.setCell ⟨b, j, none⟩ x) B A k fs := ⟨h.1, fun i l hi => by
  obtain ⟨ad, e, hB, h1, h2, h3, h4⟩ := h.2 i l hi
  have hb := hn ad e
  have hc : ∀ o, (w.setCell ⟨b, j, none⟩ x).cell? ⟨(ad.add (i * 4)).block, o, none⟩ = w.cell? ⟨(ad.add (i * 4)).block, o, none⟩ := fun o => World.cell?_setCell_other _ _ _ _ (fun e => by injection e with e _; rw [addr_block] at e; exact hb e.symm)
  refine ⟨ad, e, hB, ?_, (hc _).trans h2, (hc _).trans h3, (hc _).trans h4⟩
  exact (World.cell?_setCell_other _ _ _ _ (fun e => by rw [← addr_block ad (i * 4)] at hb; exact hb (by rw [← e]))).trans h1⟩
def sagg (s : Su) (A : Option Addr) (k c : Nat) : Value := .agg #[.int .i64 s.g, .int .i64 s.p, .int .i64 s.m, .int .i64 s.t, .int .i64 s.n, .int .i64 s.T.a, .int .i64 s.T.b, .int .i64 s.T.c, .int .i64 s.T.d, .int .i64 s.H.a, .int .i64 s.H.b, .int .i64 s.H.c, .int .i64 s.H.d, .slice A k c]
def szero : Su := ⟨0, 0, 0, 0, 0, ⟨0, 0, 0, 0⟩, ⟨0, 0, 0, 0⟩, []⟩
/-- What Decode leaves. -/
def SDecRes (r : Option Su) (w : World) (e : Ending) (w' : World) : Prop :=
  ∃ A k c, e = .returned (.tuple #[sagg (r.getD szero) A k c, .bool r.isSome]) ∧ LAt w' w'.heap.size A k (r.getD szero).fs ∧ k ≤ c ∧ c ≤ 2 ∧ Below w.heap.size w w'
/-- The same, and where its list lies. -/
def SDecLo (r : Option Su) (w : World) (e : Ending) (w' : World) : Prop :=
  ∃ A k c, e = .returned (.tuple #[sagg (r.getD szero) A k c, .bool r.isSome]) ∧ LAt w' w'.heap.size A k (r.getD szero).fs ∧ k ≤ c ∧ c ≤ 2 ∧ Below w.heap.size w w' ∧ (∀ ad, A = some ad → w.heap.size ≤ ad.block)

set_option maxRecDepth 100000 in
set_option maxHeartbeats 64000000 in
theorem sdecode_lo (t : Int) (bs : List UInt8) (A : Option Addr) (n cap B : Nat) (w : World) (ht : TabAt w) (h0 : 0 < w.heap.size) (hb : Byt w B A n bs) (hn : n ≤ cap) (hcap : cap ≤ 9223372036854775807) (hB : B ≤ w.heap.size) (r : Option Su) (hr : sdecW sread t bs = r) :
    Calls Tryd.prog 22 #[.slice A n cap, .int .i64 t] w (SDecLo r w) := by
  have HT : Hid (∀ w', Below w.heap.size w w' → TabAt w' ∧ 0 < w'.heap.size) := fun w' hw => ⟨ht.below hw h0, Nat.lt_of_lt_of_le h0 hw.size⟩
  have HY : Hid (∀ w', Below w.heap.size w w' → Byt w' w.heap.size A n bs) := fun w' hw => (hb.more hB).below hw
  have HB0 : Hid (∀ o, Below w.heap.size w (w.alloc o)) := fun o => (Below.refl _ _).alloc (Nat.le_refl _) _
  clear hb ht h0 hB
  cases hd : dec 3 0 t bs with
  | none =>
    obtain rfl : r = none := by rw [← hr, sdec_none hd]
    have HD := Lib.hid hd
    clear hr hd
    go_enter Tryd.func22, Tryd.ntmps22
    go_wp2_with fail
    refine (decode_any 3 0 t bs A n cap w.heap.size _ (HT.out _ (HB0.out _)).1 (HT.out _ (HB0.out _)).2 (HY.out _ (HB0.out _)) hn hcap (by simp) (by decide) none HD.out).mono ?_
    rintro e w1 ⟨A1, c1, rfl, hown, hbel⟩
    obtain ⟨hcc, hcf⟩ := cells_of_below hbel
    have HB1 : Hid (Below w.heap.size w w1) := (HB0.out _).trans (hbel.mono (by simp))
    have hw1 : w.heap.size < w1.heap.size := by have := hbel.size; simp at this; omega
    simp only [Option.getD_none, Option.isSome_none, List.length_nil]
    clear hown hbel
    go_wp2
    refine bodyPost_ret (v := .tuple #[.agg #[.int .i64 0, .int .i64 0, .int .i64 0, .int .i64 0, .int .i64 0, .int .i64 0, .int .i64 0, .int .i64 0, .int .i64 0, .int .i64 0, .int .i64 0, .int .i64 0, .int .i64 0, .slice none 0 0], .bool false]) (by simp [results, Tryd.results22, go_sem, *]) rfl ?_
    exact ⟨none, 0, 0, rfl, LAt.nil _ _ _, by omega, by omega, (by repeat (first | with_reducible exact HB1.out | with_reducible refine Below.setCell ?_ (by first | (simp; done) | (simp; omega) | omega) _)), (fun ad e => by cases e)⟩
  | some p =>
    have hpl : p.length = 59 := by obtain ⟨_, hl, rfl, _⟩ := dec_some hd; exact pay_len hl
    have hmay := (dec_some hd).1
    have h64 : n = 64 := by rw [← (HY.out w (Below.refl _ _)).len]; exact (dec_some hd).2.1
    obtain ⟨n1, hn1⟩ : ∃ x, num ((p.drop 0).take 5) = x := ⟨_, rfl⟩
    obtain ⟨n2, hn2⟩ : ∃ x, num ((p.drop 5).take 1) = x := ⟨_, rfl⟩
    obtain ⟨n3, hn3⟩ : ∃ x, num ((p.drop 6).take 4) = x := ⟨_, rfl⟩
    obtain ⟨n4, hn4⟩ : ∃ x, num ((p.drop 10).take 6) = x := ⟨_, rfl⟩
    obtain ⟨n5, hn5⟩ : ∃ x, num ((p.drop 16).take 5) = x := ⟨_, rfl⟩
    obtain ⟨k8, hk8⟩ : ∃ x, num ((p.drop 35).take 1) = x := ⟨_, rfl⟩
    obtain ⟨t1, ht1⟩ : ∃ x, num (((p.drop 21).drop 0).take 4) = x := ⟨_, rfl⟩
    obtain ⟨t2, ht2⟩ : ∃ x, num (((p.drop 21).drop 4).take 1) = x := ⟨_, rfl⟩
    obtain ⟨tk, htk⟩ : ∃ x, num (((p.drop 21).drop 5).take 1) = x := ⟨_, rfl⟩
    obtain ⟨t4, ht4⟩ : ∃ x, num (((p.drop 21).drop 6).take 1) = x := ⟨_, rfl⟩
    obtain ⟨t3, ht3⟩ : ∃ x, lrs t1 tk = x := ⟨_, rfl⟩
    have hLt : lyRd (p.drop 21) = ⟨t1, t2, t3, t4⟩ := by unfold lyRd; rw [ht1, ht2, htk, ht4, ht3]
    have okt : (⟨t1, t2, t3, t4⟩ : Ly).ok := by rw [← hLt]; exact lyRd_ok _
    obtain ⟨u1, hu1⟩ : ∃ x, num (((p.drop 28).drop 0).take 4) = x := ⟨_, rfl⟩
    obtain ⟨u2, hu2⟩ : ∃ x, num (((p.drop 28).drop 4).take 1) = x := ⟨_, rfl⟩
    obtain ⟨uk, huk⟩ : ∃ x, num (((p.drop 28).drop 5).take 1) = x := ⟨_, rfl⟩
    obtain ⟨u4, hu4⟩ : ∃ x, num (((p.drop 28).drop 6).take 1) = x := ⟨_, rfl⟩
    obtain ⟨u3, hu3⟩ : ∃ x, lrs u1 uk = x := ⟨_, rfl⟩
    have hLu : lyRd (p.drop 28) = ⟨u1, u2, u3, u4⟩ := by unfold lyRd; rw [hu1, hu2, huk, hu4, hu3]
    have oku : (⟨u1, u2, u3, u4⟩ : Ly).ok := by rw [← hLu]; exact lyRd_ok _
    obtain ⟨f1, hf1⟩ : ∃ x, num (((p.drop 36).drop 0).take 4) = x := ⟨_, rfl⟩
    obtain ⟨f2, hf2⟩ : ∃ x, num (((p.drop 36).drop 4).take 1) = x := ⟨_, rfl⟩
    obtain ⟨fk, hfk⟩ : ∃ x, num (((p.drop 36).drop 5).take 1) = x := ⟨_, rfl⟩
    obtain ⟨f4, hf4⟩ : ∃ x, num (((p.drop 36).drop 6).take 1) = x := ⟨_, rfl⟩
    obtain ⟨f3, hf3⟩ : ∃ x, lrs f1 fk = x := ⟨_, rfl⟩
    have hLf : lyRd (p.drop 36) = ⟨f1, f2, f3, f4⟩ := by unfold lyRd; rw [hf1, hf2, hfk, hf4, hf3]
    have okf : (⟨f1, f2, f3, f4⟩ : Ly).ok := by rw [← hLf]; exact lyRd_ok _
    obtain ⟨fs, hfs⟩ : ∃ fs, fsRd ⟨u1, u2, u3, u4⟩ k8 (p.drop 36) = fs := ⟨_, rfl⟩
    have hrd : sread p = ⟨n1, n2, n3, n4, n5, ⟨t1, t2, t3, t4⟩, ⟨u1, u2, u3, u4⟩, fs⟩ := by unfold sread; rw [hn1, hn2, hn3, hn4, hn5, hk8, hLt, hLu, hfs]
    have hfs2 : fs = if k8 = 1 then [⟨u1, u2, u3, u4⟩] else if k8 = 2 then [⟨u1, u2, u3, u4⟩, ⟨f1, f2, f3, f4⟩] else [] := by rw [← hfs]; unfold fsRd; rw [hLf]
    have T1 := Lib.hid (fun (u : World) (c g : Nat) (hS : QS w u g c 0 p) => (snum_any 0 5 5 n1 u u g c p hS.rs rfl (by omega) (by decide) (by decide) hn1).mono (fun e u' (h : e = .returned (.int .i64 (n1 : Int)) ∧ RS u u' g c p 5) => (⟨h.1, hS.step h.2, (farc h.2.grown).1, (farc h.2.grown).2, h.2.grown.size⟩ : e = .returned (.int .i64 (n1 : Int)) ∧ QS w u' g c 5 p ∧ (∀ b o, b < u.heap.size → ¬ b = g → u'.cell? ⟨b, o, none⟩ = u.cell? ⟨b, o, none⟩) ∧ (∀ b o, b < u.heap.size → ¬ b = g → u'.frozen? ⟨b, o, none⟩ = u.frozen? ⟨b, o, none⟩) ∧ u.heap.size ≤ u'.heap.size)))
    have T2 := Lib.hid (fun (u : World) (c g : Nat) (hS : QS w u g c 5 p) => (snum_any 5 1 6 n2 u u g c p hS.rs rfl (by omega) (by decide) (by decide) hn2).mono (fun e u' (h : e = .returned (.int .i64 (n2 : Int)) ∧ RS u u' g c p 6) => (⟨h.1, hS.step h.2, (farc h.2.grown).1, (farc h.2.grown).2, h.2.grown.size⟩ : e = .returned (.int .i64 (n2 : Int)) ∧ QS w u' g c 6 p ∧ (∀ b o, b < u.heap.size → ¬ b = g → u'.cell? ⟨b, o, none⟩ = u.cell? ⟨b, o, none⟩) ∧ (∀ b o, b < u.heap.size → ¬ b = g → u'.frozen? ⟨b, o, none⟩ = u.frozen? ⟨b, o, none⟩) ∧ u.heap.size ≤ u'.heap.size)))
    have T3 := Lib.hid (fun (u : World) (c g : Nat) (hS : QS w u g c 6 p) => (snum_any 6 4 10 n3 u u g c p hS.rs rfl (by omega) (by decide) (by decide) hn3).mono (fun e u' (h : e = .returned (.int .i64 (n3 : Int)) ∧ RS u u' g c p 10) => (⟨h.1, hS.step h.2, (farc h.2.grown).1, (farc h.2.grown).2, h.2.grown.size⟩ : e = .returned (.int .i64 (n3 : Int)) ∧ QS w u' g c 10 p ∧ (∀ b o, b < u.heap.size → ¬ b = g → u'.cell? ⟨b, o, none⟩ = u.cell? ⟨b, o, none⟩) ∧ (∀ b o, b < u.heap.size → ¬ b = g → u'.frozen? ⟨b, o, none⟩ = u.frozen? ⟨b, o, none⟩) ∧ u.heap.size ≤ u'.heap.size)))
    have T4 := Lib.hid (fun (u : World) (c g : Nat) (hS : QS w u g c 10 p) => (snum_any 10 6 16 n4 u u g c p hS.rs rfl (by omega) (by decide) (by decide) hn4).mono (fun e u' (h : e = .returned (.int .i64 (n4 : Int)) ∧ RS u u' g c p 16) => (⟨h.1, hS.step h.2, (farc h.2.grown).1, (farc h.2.grown).2, h.2.grown.size⟩ : e = .returned (.int .i64 (n4 : Int)) ∧ QS w u' g c 16 p ∧ (∀ b o, b < u.heap.size → ¬ b = g → u'.cell? ⟨b, o, none⟩ = u.cell? ⟨b, o, none⟩) ∧ (∀ b o, b < u.heap.size → ¬ b = g → u'.frozen? ⟨b, o, none⟩ = u.frozen? ⟨b, o, none⟩) ∧ u.heap.size ≤ u'.heap.size)))
    have T5 := Lib.hid (fun (u : World) (c g : Nat) (hS : QS w u g c 16 p) => (snum_any 16 5 21 n5 u u g c p hS.rs rfl (by omega) (by decide) (by decide) hn5).mono (fun e u' (h : e = .returned (.int .i64 (n5 : Int)) ∧ RS u u' g c p 21) => (⟨h.1, hS.step h.2, (farc h.2.grown).1, (farc h.2.grown).2, h.2.grown.size⟩ : e = .returned (.int .i64 (n5 : Int)) ∧ QS w u' g c 21 p ∧ (∀ b o, b < u.heap.size → ¬ b = g → u'.cell? ⟨b, o, none⟩ = u.cell? ⟨b, o, none⟩) ∧ (∀ b o, b < u.heap.size → ¬ b = g → u'.frozen? ⟨b, o, none⟩ = u.frozen? ⟨b, o, none⟩) ∧ u.heap.size ≤ u'.heap.size)))
    have T8 := Lib.hid (fun (u : World) (c g : Nat) (hS : QS w u g c 35 p) => (snum_any 35 1 36 k8 u u g c p hS.rs rfl (by omega) (by decide) (by decide) hk8).mono (fun e u' (h : e = .returned (.int .i64 (k8 : Int)) ∧ RS u u' g c p 36) => (⟨h.1, hS.step h.2, (farc h.2.grown).1, (farc h.2.grown).2, h.2.grown.size⟩ : e = .returned (.int .i64 (k8 : Int)) ∧ QS w u' g c 36 p ∧ (∀ b o, b < u.heap.size → ¬ b = g → u'.cell? ⟨b, o, none⟩ = u.cell? ⟨b, o, none⟩) ∧ (∀ b o, b < u.heap.size → ¬ b = g → u'.frozen? ⟨b, o, none⟩ = u.frozen? ⟨b, o, none⟩) ∧ u.heap.size ≤ u'.heap.size)))
    have T6 : Hid (∀ (u : World) (c g : Nat) (hS : QS w u g c 21 p), Calls Tryd.prog 39 #[.pointer (some ⟨g, 0, none⟩)] u fun e u' => e = .returned (.agg #[.int .i64 (t1 : Int), .int .i64 (t2 : Int), .int .i64 t3, .int .i64 (t4 : Int)]) ∧ QS w u' g c 28 p ∧ (∀ b o, b < u.heap.size → ¬ b = g → u'.cell? ⟨b, o, none⟩ = u.cell? ⟨b, o, none⟩) ∧ (∀ b o, b < u.heap.size → ¬ b = g → u'.frozen? ⟨b, o, none⟩ = u.frozen? ⟨b, o, none⟩) ∧ u.heap.size ≤ u'.heap.size) := fun u c g hS => by
      have h := readLay_any g t1 t2 tk t4 (p.drop 21) u hS.rdr (by rw [List.length_drop]; omega) ht1 ht2 htk ht4
      rw [ht3] at h
      refine h.mono ?_
      rintro e u' ⟨h1, h2, h3⟩
      exact ⟨h1, hS.lay h2 h3, (farc h3).1, (farc h3).2, h3.size⟩
    have T7 : Hid (∀ (u : World) (c g : Nat) (hS : QS w u g c 28 p), Calls Tryd.prog 39 #[.pointer (some ⟨g, 0, none⟩)] u fun e u' => e = .returned (.agg #[.int .i64 (u1 : Int), .int .i64 (u2 : Int), .int .i64 u3, .int .i64 (u4 : Int)]) ∧ QS w u' g c 35 p ∧ (∀ b o, b < u.heap.size → ¬ b = g → u'.cell? ⟨b, o, none⟩ = u.cell? ⟨b, o, none⟩) ∧ (∀ b o, b < u.heap.size → ¬ b = g → u'.frozen? ⟨b, o, none⟩ = u.frozen? ⟨b, o, none⟩) ∧ u.heap.size ≤ u'.heap.size) := fun u c g hS => by
      have h := readLay_any g u1 u2 uk u4 (p.drop 28) u hS.rdr (by rw [List.length_drop]; omega) hu1 hu2 huk hu4
      rw [hu3] at h
      refine h.mono ?_
      rintro e u' ⟨h1, h2, h3⟩
      exact ⟨h1, hS.lay h2 h3, (farc h3).1, (farc h3).2, h3.size⟩
    have T9 : Hid (∀ (u : World) (c g : Nat) (hS : QS w u g c 36 p), Calls Tryd.prog 39 #[.pointer (some ⟨g, 0, none⟩)] u fun e u' => e = .returned (.agg #[.int .i64 (f1 : Int), .int .i64 (f2 : Int), .int .i64 f3, .int .i64 (f4 : Int)]) ∧ QS w u' g c 43 p ∧ (∀ b o, b < u.heap.size → ¬ b = g → u'.cell? ⟨b, o, none⟩ = u.cell? ⟨b, o, none⟩) ∧ (∀ b o, b < u.heap.size → ¬ b = g → u'.frozen? ⟨b, o, none⟩ = u.frozen? ⟨b, o, none⟩) ∧ u.heap.size ≤ u'.heap.size) := fun u c g hS => by
      have h := readLay_any g f1 f2 fk f4 (p.drop 36) u hS.rdr (by rw [List.length_drop]; omega) hf1 hf2 hfk hf4
      rw [hf3] at h
      refine h.mono ?_
      rintro e u' ⟨h1, h2, h3⟩
      exact ⟨h1, hS.lay h2 h3, (farc h3).1, (farc h3).2, h3.size⟩
    have hokfs : ∀ l ∈ fs, l.ok := by
      rw [hfs2]; intro l hl
      split at hl
      · rw [List.mem_singleton.1 hl]; exact oku
      · split at hl
        · rcases List.mem_cons.1 hl with e | e; rw [e]; exact oku; rw [List.mem_singleton.1 e]; exact okf
        · cases hl
    rw [sdec_some hd, hrd] at hr
    have hC : (sencS ⟨n1, n2, n3, n4, n5, ⟨t1, t2, t3, t4⟩, ⟨u1, u2, u3, u4⟩, fs⟩ t = ([], 4) ∧ r = none) ∨ (sencS ⟨n1, n2, n3, n4, n5, ⟨t1, t2, t3, t4⟩, ⟨u1, u2, u3, u4⟩, fs⟩ t = (sencF ⟨n1, n2, n3, n4, n5, ⟨t1, t2, t3, t4⟩, ⟨u1, u2, u3, u4⟩, fs⟩ t, 0) ∧ sencF ⟨n1, n2, n3, n4, n5, ⟨t1, t2, t3, t4⟩, ⟨u1, u2, u3, u4⟩, fs⟩ t = bs ∧ r = some ⟨n1, n2, n3, n4, n5, ⟨t1, t2, t3, t4⟩, ⟨u1, u2, u3, u4⟩, fs⟩) ∨ (sencS ⟨n1, n2, n3, n4, n5, ⟨t1, t2, t3, t4⟩, ⟨u1, u2, u3, u4⟩, fs⟩ t = (sencF ⟨n1, n2, n3, n4, n5, ⟨t1, t2, t3, t4⟩, ⟨u1, u2, u3, u4⟩, fs⟩ t, 0) ∧ sencF ⟨n1, n2, n3, n4, n5, ⟨t1, t2, t3, t4⟩, ⟨u1, u2, u3, u4⟩, fs⟩ t ≠ bs ∧ r = none) := by
      cases hv : svalid ⟨n1, n2, n3, n4, n5, ⟨t1, t2, t3, t4⟩, ⟨u1, u2, u3, u4⟩, fs⟩
      · exact .inl ⟨sencS_bad hv, by rw [← hr, if_neg (by rw [hv]; simp)]⟩
      · by_cases he : sencF ⟨n1, n2, n3, n4, n5, ⟨t1, t2, t3, t4⟩, ⟨u1, u2, u3, u4⟩, fs⟩ t = bs
        · exact .inr (.inl ⟨sencS_ok hv hmay, he, by rw [← hr, if_pos ⟨hv, he⟩]⟩)
        · exact .inr (.inr ⟨sencS_ok hv hmay, he, by rw [← hr, if_neg (fun h => he h.2)]⟩)
    have HC := Lib.hid hC
    have HD := Lib.hid hd
    have HPL := Lib.hid hpl
    have HFS := Lib.hid hfs2
    have HOK := Lib.hid hokfs
    have HOT := Lib.hid okt
    have HOU := Lib.hid oku
    have b8 : k8 < 256 := by rw [← hk8]; exact take_lt1
    clear hC hr hd hrd hpl hmay hn1 hn2 hn3 hn4 hn5 hk8 ht1 ht2 htk ht4 ht3 hu1 hu2 huk hu4 hu3 hf1 hf2 hfk hf4 hf3 hLt hLu hLf hfs hfs2 hokfs okt oku okf
    subst h64
    go_enter Tryd.func22, Tryd.ntmps22
    go_wp2_with fail
    refine (decode_any 3 0 t bs A 64 cap w.heap.size _ (HT.out _ (HB0.out _)).1 (HT.out _ (HB0.out _)).2 (HY.out _ (HB0.out _)) hn hcap (by simp) (by decide) (some p) HD.out).mono ?_
    rintro e w1 ⟨A1, c1, rfl, hown, hbel⟩
    simp only [Option.getD_some, Option.isSome_some, HPL.out] at hown ⊢
    have HB1 : Hid (Below w.heap.size w w1) := (HB0.out _).trans (hbel.mono (by simp))
    have HR1 : Hid (Below (w.heap.size + 1) (w.alloc (.cells #[.int .i64 0, .int .i64 0, .int .i64 0, .int .i64 0, .int .i64 0, .int .i64 0, .int .i64 0, .int .i64 0, .int .i64 0, .int .i64 0, .int .i64 0, .int .i64 0, .int .i64 0, .slice none 0 0] 41)) w1) := hbel.mono (by simp)
    have hw1 : w.heap.size < w1.heap.size := by have := hbel.size; simp at this; omega
    have HO1 := Lib.hid hown
    clear hown hbel
    go_wp2_with fail
    refine (newReader_any p A1 59 c1 w1.heap.size w1 HO1.out.byt (by decide) (Nat.le_refl _)).mono ?_
    rintro e w2 ⟨g, rfl, hrdr, hg, hbel⟩
    have hgl := hrdr.lt
    have HB2 := Lib.hid (HB1.out.trans (hbel.mono HB1.out.size))
    have HR2 := Lib.hid (HR1.out.trans (hbel.mono hw1))
    have hw2 : w.heap.size < w2.heap.size := Nat.lt_of_lt_of_le hw1 hbel.size
    have HRD := Lib.hid hrdr
    clear hrdr hbel HO1
    have HS0 : Hid (QS w (w2.alloc (.cells #[.pointer (some ⟨g, 0, none⟩)] 61)) g w2.heap.size 0 p) :=
      ⟨HRD.out.below (Below.alloc (Below.refl _ _) (Nat.le_refl _) _) hgl, cell_of_row _ _ _ _ _ _ (heap_alloc_new w2 _), HB2.out.alloc HB2.out.size _, HR2.out.alloc (by omega) _, by omega, by omega, by simp⟩
    go_upto_region 6 with fail
    have hp0 := HS0.out.ptr
    have hgn1 : ¬ w2.heap.size + 1 = g := by omega
    have hgn0 : ¬ w2.heap.size = g := by omega
    go_cut [10] (fun a wx => ∃ bl : Nat, a = .pointer (some ⟨bl, 0, none⟩) ∧ Cells wx bl #[.int .i64 (n1 : Int), .int .i64 (n2 : Int), .int .i64 (n3 : Int), .int .i64 (n4 : Int), .int .i64 (n5 : Int), .int .i64 (t1 : Int), .int .i64 (t2 : Int), .int .i64 t3, .int .i64 (t4 : Int), .int .i64 (u1 : Int), .int .i64 (u2 : Int), .int .i64 u3, .int .i64 (u4 : Int), .slice none 0 0].toList ∧ Soft wx bl ∧ QS w wx g w2.heap.size 35 p ∧ bl < wx.heap.size ∧ w2.heap.size < bl)
    case first =>
      go_region_held3 (fun w' => w'.cell? ⟨w2.heap.size, 0, none⟩ = some (.pointer (some ⟨g, 0, none⟩))) (first | go_keep | exact ((World.cell?_setCell_other _ _ _ _ (fun e => by injection e; omega)).trans ((World.cell?_setCell_other _ _ _ _ (fun e => by injection e; omega)).trans ((World.cell?_setCell_other _ _ _ _ (fun e => by injection e; omega)).trans ((World.cell?_setCell_other _ _ _ _ (fun e => by injection e; omega)).trans ((World.cell?_setCell_other _ _ _ _ (fun e => by injection e; omega)).trans ((World.cell?_setCell_other _ _ _ _ (fun e => by injection e; omega)).trans ((World.cell?_setCell_other _ _ _ _ (fun e => by injection e; omega)).trans ((World.cell?_setCell_other _ _ _ _ (fun e => by injection e; omega)).trans ((World.cell?_setCell_other _ _ _ _ (fun e => by injection e; omega)).trans ((World.cell?_setCell_other _ _ _ _ (fun e => by injection e; omega)).trans ((World.cell?_setCell_other _ _ _ _ (fun e => by injection e; omega)).trans ((World.cell?_setCell_other _ _ _ _ (fun e => by injection e; omega)).trans ((World.cell?_setCell_other _ _ _ _ (fun e => by injection e; omega)).trans ((World.cell?_setCell_other _ _ _ _ (fun e => by injection e; omega)).trans hp7))))))))))))))) (first
        | (go_at_call 47; refine (T1.out _ w2.heap.size g (by first | exact HS0.out | exact HS0.out.drew | exact (HS0.out.alloc _).drew | exact HS0.out.alloc _)).mono ?_; rintro e v1 ⟨rfl, hs, hk, hf, hz⟩; (first | (have HE1 : Hid (EB v1 (w2.heap.size + 1) g w2.heap.size) := EB.carry (EB.new1 w2 (.cells #[.pointer (some ⟨g, 0, none⟩)] 61) g hgl).drew hk hf hz) | (have HE1 : Hid (EB v1 (w2.heap.size + 1) g w2.heap.size) := EB.carry (EB.new1 w2 (.cells #[.pointer (some ⟨g, 0, none⟩)] 61) g hgl) hk hf hz) | skip); have HS1 := Lib.hid hs; have hp1 := hs.ptr; clear hs hk hf hz)
        | (go_at_call 47; refine (T2.out _ w2.heap.size g (by first | exact HS1.out | exact HS1.out.drew | exact (HS1.out.alloc _).drew | exact HS1.out.alloc _)).mono ?_; rintro e v2 ⟨rfl, hs, hk, hf, hz⟩; (first | (have HE2 : Hid (EB v2 v1.heap.size g w2.heap.size) := EB.carry (EB.new v1 g w2.heap.size (Nat.lt_trans hgl HS1.out.lt) HS1.out.lt).drew hk hf hz) | (have HE2 : Hid (EB v2 v1.heap.size g w2.heap.size) := EB.carry (EB.new v1 g w2.heap.size (Nat.lt_trans hgl HS1.out.lt) HS1.out.lt) hk hf hz) | (have HE2 := Lib.hid (EB.carry HE1.out hk hf hz)) | skip); have HS2 := Lib.hid hs; have hp2 := hs.ptr; clear hs hk hf hz)
        | (go_at_call 47; refine (T3.out _ w2.heap.size g (by first | exact HS2.out | exact HS2.out.drew | exact (HS2.out.alloc _).drew | exact HS2.out.alloc _)).mono ?_; rintro e v3 ⟨rfl, hs, hk, hf, hz⟩; (first | (have HE3 : Hid (EB v3 v2.heap.size g w2.heap.size) := EB.carry (EB.new v2 g w2.heap.size (Nat.lt_trans hgl HS2.out.lt) HS2.out.lt).drew hk hf hz) | (have HE3 : Hid (EB v3 v2.heap.size g w2.heap.size) := EB.carry (EB.new v2 g w2.heap.size (Nat.lt_trans hgl HS2.out.lt) HS2.out.lt) hk hf hz) | (have HE3 := Lib.hid (EB.carry HE2.out hk hf hz)) | skip); have HS3 := Lib.hid hs; have hp3 := hs.ptr; clear hs hk hf hz)
        | (go_at_call 47; refine (T4.out _ w2.heap.size g (by first | exact HS3.out | exact HS3.out.drew | exact (HS3.out.alloc _).drew | exact HS3.out.alloc _)).mono ?_; rintro e v4 ⟨rfl, hs, hk, hf, hz⟩; (first | (have HE4 : Hid (EB v4 v3.heap.size g w2.heap.size) := EB.carry (EB.new v3 g w2.heap.size (Nat.lt_trans hgl HS3.out.lt) HS3.out.lt).drew hk hf hz) | (have HE4 : Hid (EB v4 v3.heap.size g w2.heap.size) := EB.carry (EB.new v3 g w2.heap.size (Nat.lt_trans hgl HS3.out.lt) HS3.out.lt) hk hf hz) | (have HE4 := Lib.hid (EB.carry HE3.out hk hf hz)) | skip); have HS4 := Lib.hid hs; have hp4 := hs.ptr; clear hs hk hf hz)
        | (go_at_call 47; refine (T5.out _ w2.heap.size g (by first | exact HS4.out | exact HS4.out.drew | exact (HS4.out.alloc _).drew | exact HS4.out.alloc _)).mono ?_; rintro e v5 ⟨rfl, hs, hk, hf, hz⟩; (first | (have HE5 : Hid (EB v5 v4.heap.size g w2.heap.size) := EB.carry (EB.new v4 g w2.heap.size (Nat.lt_trans hgl HS4.out.lt) HS4.out.lt).drew hk hf hz) | (have HE5 : Hid (EB v5 v4.heap.size g w2.heap.size) := EB.carry (EB.new v4 g w2.heap.size (Nat.lt_trans hgl HS4.out.lt) HS4.out.lt) hk hf hz) | (have HE5 := Lib.hid (EB.carry HE4.out hk hf hz)) | skip); have HS5 := Lib.hid hs; have hp5 := hs.ptr; clear hs hk hf hz)
        | (go_at_call 39; refine (T6.out _ w2.heap.size g (by first | exact HS5.out | exact HS5.out.drew | exact (HS5.out.alloc _).drew | exact HS5.out.alloc _)).mono ?_; rintro e v6 ⟨rfl, hs, hk, hf, hz⟩; (first | (have HE6 : Hid (EB v6 v5.heap.size g w2.heap.size) := EB.carry (EB.new v5 g w2.heap.size (Nat.lt_trans hgl HS5.out.lt) HS5.out.lt).drew hk hf hz) | (have HE6 : Hid (EB v6 v5.heap.size g w2.heap.size) := EB.carry (EB.new v5 g w2.heap.size (Nat.lt_trans hgl HS5.out.lt) HS5.out.lt) hk hf hz) | (have HE6 := Lib.hid (EB.carry HE5.out hk hf hz)) | skip); have HS6 := Lib.hid hs; have hp6 := hs.ptr; clear hs hk hf hz)
        | (go_at_call 39; refine (T7.out _ w2.heap.size g (by first | exact HS6.out | exact HS6.out.drew | exact (HS6.out.alloc _).drew | exact HS6.out.alloc _)).mono ?_; rintro e v7 ⟨rfl, hs, hk, hf, hz⟩; (first | (have HE7 : Hid (EB v7 v6.heap.size g w2.heap.size) := EB.carry (EB.new v6 g w2.heap.size (Nat.lt_trans hgl HS6.out.lt) HS6.out.lt).drew hk hf hz) | (have HE7 : Hid (EB v7 v6.heap.size g w2.heap.size) := EB.carry (EB.new v6 g w2.heap.size (Nat.lt_trans hgl HS6.out.lt) HS6.out.lt) hk hf hz) | (have HE7 := Lib.hid (EB.carry HE6.out hk hf hz)) | skip); have HS7 := Lib.hid hs; have hp7 := hs.ptr; (try have hbc := HE7.out.gt); (try have hbd := HE7.out.cgt); (try have ee0 := HE7.out.cells 0 _ rfl); (try have ff0 := HE7.out.soft 0); (try have ee1 := HE7.out.cells 1 _ rfl); (try have ff1 := HE7.out.soft 1); (try have ee2 := HE7.out.cells 2 _ rfl); (try have ff2 := HE7.out.soft 2); (try have ee3 := HE7.out.cells 3 _ rfl); (try have ff3 := HE7.out.soft 3); (try have ee4 := HE7.out.cells 4 _ rfl); (try have ff4 := HE7.out.soft 4); (try have ee5 := HE7.out.cells 5 _ rfl); (try have ff5 := HE7.out.soft 5); (try have ee6 := HE7.out.cells 6 _ rfl); (try have ff6 := HE7.out.soft 6); (try have ee7 := HE7.out.cells 7 _ rfl); (try have ff7 := HE7.out.soft 7); (try have ee8 := HE7.out.cells 8 _ rfl); (try have ff8 := HE7.out.soft 8); (try have ee9 := HE7.out.cells 9 _ rfl); (try have ff9 := HE7.out.soft 9); (try have ee10 := HE7.out.cells 10 _ rfl); (try have ff10 := HE7.out.soft 10); (try have ee11 := HE7.out.cells 11 _ rfl); (try have ff11 := HE7.out.soft 11); (try have ee12 := HE7.out.cells 12 _ rfl); (try have ff12 := HE7.out.soft 12); (try have ee13 := HE7.out.cells 13 _ rfl); (try have ff13 := HE7.out.soft 13); clear hs hk hf hz)
        | fail)
      all_goals
        go_wp2_with fail
        (try go_simp)
        go_meet
        first
          | (refine ⟨v7.heap.size, (by with_reducible rfl), ?_, ?_, ?_, ?_, ?_⟩
             · exact Cells.new v7 _ #[.int .i64 (n1 : Int), .int .i64 (n2 : Int), .int .i64 (n3 : Int), .int .i64 (n4 : Int), .int .i64 (n5 : Int), .int .i64 (t1 : Int), .int .i64 (t2 : Int), .int .i64 t3, .int .i64 (t4 : Int), .int .i64 (u1 : Int), .int .i64 (u2 : Int), .int .i64 u3, .int .i64 (u4 : Int), .slice none 0 0]
             · exact Soft.new v7 _ _
             · exact HS7.out.alloc _
             · simp
             · exact HS7.out.lt)
          | (have hlt7 := HE7.out.lt
             have hgt7 := HE7.out.gt
             have hcg7 := HE7.out.cgt
             refine ⟨_, rfl, cells_set14 HE7.out.cells, ((((((((((((((HE7.out.soft.set _ _).set _ _).set _ _).set _ _).set _ _).set _ _).set _ _).set _ _).set _ _).set _ _).set _ _).set _ _).set _ _).set _ _), ?_, ?_, ?_⟩
             · exact ((((((((((((((HS7.out.set (by omega) (by omega) 0 _).set (by omega) (by omega) 1 _).set (by omega) (by omega) 2 _).set (by omega) (by omega) 3 _).set (by omega) (by omega) 4 _).set (by omega) (by omega) 5 _).set (by omega) (by omega) 6 _).set (by omega) (by omega) 7 _).set (by omega) (by omega) 8 _).set (by omega) (by omega) 9 _).set (by omega) (by omega) 10 _).set (by omega) (by omega) 11 _).set (by omega) (by omega) 12 _).set (by omega) (by omega) 13 _)
             · simp [World.setCell]; omega
             · omega)
    case rest =>
      obtain ⟨bl, rfl, hcx, hsf, hqs, hlt, hgt⟩ := hcut
      have HX5 := Lib.hid hcx
      have HSF5 := Lib.hid hsf
      have HQ5 := Lib.hid hqs
      have hp5 := hqs.ptr
      obtain ⟨w5, hw5⟩ : ∃ x, x = wc := ⟨_, rfl⟩
      subst hw5
      have hbg : ¬ bl = g := by omega
      have hbw : w.heap.size < bl := by omega
      clear hcx hsf hqs HS0 hp0 T1 T2 T3 T4 T5 T6 T7 HRD HR1 HR2 HB1 HB2
      go_upto_block 0 with (go_at_call 47; refine (T8.out _ w2.heap.size g HQ5.out).mono ?_; rintro e w6 ⟨rfl, hs, hk, hf, hz⟩; have HQ6 := Lib.hid hs; have hp6 := hs.ptr; have HX6 : Hid (Cells w6 bl #[.int .i64 (n1 : Int), .int .i64 (n2 : Int), .int .i64 (n3 : Int), .int .i64 (n4 : Int), .int .i64 (n5 : Int), .int .i64 (t1 : Int), .int .i64 (t2 : Int), .int .i64 t3, .int .i64 (t4 : Int), .int .i64 (u1 : Int), .int .i64 (u2 : Int), .int .i64 u3, .int .i64 (u4 : Int), .slice none 0 0].toList) := (fun j x hj => (hk bl j hlt hbg).trans (HX5.out j x hj)); have HSF6 : Hid (Soft w6 bl) := (fun j => (hf bl j hlt hbg).trans (HSF5.out j)); have hlt6 : bl < w6.heap.size := Nat.lt_of_lt_of_le hlt hz; clear hs hk hf hz)
      have d9 := HX6.out 9 _ rfl
      have d10 := HX6.out 10 _ rfl
      have d11 := HX6.out 11 _ rfl
      have d12 := HX6.out 12 _ rfl
      have d13 := HX6.out 13 _ rfl
      have f13 := HSF6.out 13
      go_cut [] (fun wx => ∃ (A0 : Option Addr) (k0 c0 : Nat), Cells wx bl [.int .i64 (n1 : Int), .int .i64 (n2 : Int), .int .i64 (n3 : Int), .int .i64 (n4 : Int), .int .i64 (n5 : Int), .int .i64 (t1 : Int), .int .i64 (t2 : Int), .int .i64 t3, .int .i64 (t4 : Int), .int .i64 (u1 : Int), .int .i64 (u2 : Int), .int .i64 u3, .int .i64 (u4 : Int), .slice A0 k0 c0] ∧ LAt wx wx.heap.size A0 k0 fs ∧ (∀ ad, A0 = some ad → w.heap.size < ad.block) ∧ k0 ≤ c0 ∧ c0 ≤ 2 ∧ Below w.heap.size w wx ∧ Below (w.heap.size + 1) (w.alloc (.cells #[.int .i64 0, .int .i64 0, .int .i64 0, .int .i64 0, .int .i64 0, .int .i64 0, .int .i64 0, .int .i64 0, .int .i64 0, .int .i64 0, .int .i64 0, .int .i64 0, .int .i64 0, .slice none 0 0] 41)) wx ∧ bl < wx.heap.size)
      case first =>
        by_cases h1 : k8 = 1
        · have hfs := HFS.out
          rw [if_pos h1] at hfs
          have HF1 := Lib.hid hfs
          subst h1
          clear hfs HFS
          go_wp2_with fail
          go_meet
          have hsz : (w6.setCell ⟨bl, 13, none⟩ (.slice (some ⟨w6.heap.size, 0, none⟩) 1 1)).heap.size = w6.heap.size := by simp [World.setCell]
          have hc6 := Cells.new (w6.setCell ⟨bl, 13, none⟩ (.slice (some ⟨w6.heap.size, 0, none⟩) 1 1)) 23 #[.int .i64 (u1 : Int), .int .i64 (u2 : Int), .int .i64 u3, .int .i64 (u4 : Int)]
          rw [hsz] at hc6
          refine ⟨some ⟨w6.heap.size, 0, none⟩, 1, 1, ((HX6.out.set 13 _).below (below_al _ _) (by rw [hsz]; exact hlt6)), ?_, ?_, by omega, by omega, ?_, ?_, ?_⟩
          · rw [HF1.out]
            exact LAt.ofCells1 (l := ⟨u1, u2, u3, u4⟩) hc6 (by rw [World.size_alloc, hsz]; omega)
          · intro ad e; injection e with e; subst e; show w.heap.size < w6.heap.size; omega
          · exact (HQ6.out.bel.setCell (by show _ ≤ bl; omega) _).alloc (by rw [hsz]; exact HQ6.out.bel.size) _
          · exact (HQ6.out.belR.setCell (by show _ ≤ bl; omega) _).alloc (by rw [hsz]; have := HQ6.out.belR.size; simp at this; omega) _
          · simp [World.setCell]; omega
        by_cases h2 : k8 = 2
        · have hfs := HFS.out
          rw [if_neg h1, if_pos h2] at hfs
          have HF1 := Lib.hid hfs
          subst h2
          clear hfs HFS h1
          go_upto_region 11 with fail
          go_region_held3 (fun w' => w'.cell? ⟨bl, 9, none⟩ = some (.int .i64 (u1 : Int)) ∧ w'.cell? ⟨bl, 10, none⟩ = some (.int .i64 (u2 : Int)) ∧ w'.cell? ⟨bl, 11, none⟩ = some (.int .i64 u3) ∧ w'.cell? ⟨bl, 12, none⟩ = some (.int .i64 (u4 : Int)) ∧ w'.cell? ⟨w2.heap.size, 0, none⟩ = some (.pointer (some ⟨g, 0, none⟩))) (first | go_keep | exact ⟨(by first | exact e9 | exact (World.cell?_alloc_lt _ _ _ (by show bl < _; rw [show (w7.setCell _ _).heap.size = w7.heap.size by simp [World.setCell]]; omega)).trans ((World.cell?_setCell_other _ _ _ _ (fun e => by injection e; omega)).trans e9) | exact (World.cell?_setCell_other _ _ _ _ (fun e => by injection e; omega)).trans e9 | exact (World.cell?_setCell_other _ _ _ _ (fun e => by injection e; omega)).trans ((World.cell?_alloc_lt _ _ _ (by show bl < _; omega)).trans e9)), (by first | exact e10 | exact (World.cell?_alloc_lt _ _ _ (by show bl < _; rw [show (w7.setCell _ _).heap.size = w7.heap.size by simp [World.setCell]]; omega)).trans ((World.cell?_setCell_other _ _ _ _ (fun e => by injection e; omega)).trans e10) | exact (World.cell?_setCell_other _ _ _ _ (fun e => by injection e; omega)).trans e10 | exact (World.cell?_setCell_other _ _ _ _ (fun e => by injection e; omega)).trans ((World.cell?_alloc_lt _ _ _ (by show bl < _; omega)).trans e10)), (by first | exact e11 | exact (World.cell?_alloc_lt _ _ _ (by show bl < _; rw [show (w7.setCell _ _).heap.size = w7.heap.size by simp [World.setCell]]; omega)).trans ((World.cell?_setCell_other _ _ _ _ (fun e => by injection e; omega)).trans e11) | exact (World.cell?_setCell_other _ _ _ _ (fun e => by injection e; omega)).trans e11 | exact (World.cell?_setCell_other _ _ _ _ (fun e => by injection e; omega)).trans ((World.cell?_alloc_lt _ _ _ (by show bl < _; omega)).trans e11)), (by first | exact e12 | exact (World.cell?_alloc_lt _ _ _ (by show bl < _; rw [show (w7.setCell _ _).heap.size = w7.heap.size by simp [World.setCell]]; omega)).trans ((World.cell?_setCell_other _ _ _ _ (fun e => by injection e; omega)).trans e12) | exact (World.cell?_setCell_other _ _ _ _ (fun e => by injection e; omega)).trans e12 | exact (World.cell?_setCell_other _ _ _ _ (fun e => by injection e; omega)).trans ((World.cell?_alloc_lt _ _ _ (by show bl < _; omega)).trans e12)), (by first | exact hp7 | exact (World.cell?_alloc_lt _ _ _ (by show w2.heap.size < _; rw [show (w7.setCell _ _).heap.size = w7.heap.size by simp [World.setCell]]; omega)).trans ((World.cell?_setCell_other _ _ _ _ (fun e => by injection e; omega)).trans hp7) | exact (World.cell?_setCell_other _ _ _ _ (fun e => by injection e; omega)).trans hp7 | exact (World.cell?_setCell_other _ _ _ _ (fun e => by injection e; omega)).trans ((World.cell?_alloc_lt _ _ _ (by show w2.heap.size < _; omega)).trans hp7))⟩) (first
            | (go_at_call 39; refine (T9.out _ w2.heap.size g (by first | exact HQ6.out | exact HQ6.out.drew)).mono ?_; rintro e w7 ⟨rfl, hs, hk, hf, hz⟩; have HQ7 := Lib.hid hs; have hp7 := hs.ptr; have HX7 : Hid (Cells w7 bl #[.int .i64 (n1 : Int), .int .i64 (n2 : Int), .int .i64 (n3 : Int), .int .i64 (n4 : Int), .int .i64 (n5 : Int), .int .i64 (t1 : Int), .int .i64 (t2 : Int), .int .i64 t3, .int .i64 (t4 : Int), .int .i64 (u1 : Int), .int .i64 (u2 : Int), .int .i64 u3, .int .i64 (u4 : Int), .slice none 0 0].toList) := (fun j x hj => (hk bl j hlt6 hbg).trans (HX6.out j x hj)); have HSF7 : Hid (Soft w7 bl) := (fun j => (hf bl j hlt6 hbg).trans (HSF6.out j)); have hlt7 : bl < w7.heap.size := Nat.lt_of_lt_of_le hlt6 hz; have e9 := HX7.out 9 _ rfl; have e10 := HX7.out 10 _ rfl; have e11 := HX7.out 11 _ rfl; have e12 := HX7.out 12 _ rfl; have e13 := HX7.out 13 _ rfl; have g13 := HSF7.out 13; clear hs hk hf hz)
            | fail)
          all_goals
            go_wp2_with fail
            (try go_simp)
            go_meet
            have hsz : (w7.setCell ⟨bl, 13, none⟩ (.slice (some ⟨w7.heap.size, 0, none⟩) 2 2)).heap.size = w7.heap.size := by simp [World.setCell]
            have hc7 := Cells.new (w7.setCell ⟨bl, 13, none⟩ (.slice (some ⟨w7.heap.size, 0, none⟩) 2 2)) 23 #[.int .i64 (u1 : Int), .int .i64 (u2 : Int), .int .i64 u3, .int .i64 (u4 : Int), .int .i64 (f1 : Int), .int .i64 (f2 : Int), .int .i64 f3, .int .i64 (f4 : Int)]
            rw [hsz] at hc7
            refine ⟨some ⟨w7.heap.size, 0, none⟩, 2, 2, ((HX7.out.set 13 _).below (below_al _ _) (by rw [hsz]; exact hlt7)), ?_, ?_, by omega, by omega, ?_, ?_, ?_⟩
            · rw [HF1.out]
              exact LAt.ofCells2 (x := ⟨u1, u2, u3, u4⟩) (y := ⟨f1, f2, f3, f4⟩) hc7 (by rw [World.size_alloc, hsz]; omega)
            · intro ad e; injection e with e; subst e; show w.heap.size < w7.heap.size; omega
            · exact (HQ7.out.bel.setCell (by show _ ≤ bl; omega) _).alloc (by rw [hsz]; exact HQ7.out.bel.size) _
            · exact (HQ7.out.belR.setCell (by show _ ≤ bl; omega) _).alloc (by rw [hsz]; have := HQ7.out.belR.size; simp at this; omega) _
            · simp [World.setCell]; omega
        · have hfs := HFS.out
          rw [if_neg h1, if_neg h2] at hfs
          have HF1 := Lib.hid hfs
          have hb1 : ((k8 : Int) == 1) = false := by simp; omega
          have hb2 : ((k8 : Int) == 2) = false := by simp; omega
          clear hfs HFS
          go_wp2_with fail
          go_meet
          exact ⟨none, 0, 0, HX6.out, by rw [HF1.out]; exact LAt.nil _ _ _, (fun ad e => by cases e), by omega, by omega, HQ6.out.bel, HQ6.out.belR, hlt6⟩
      case rest =>
        obtain ⟨A0, k0, c0, hcx, hla, hA0, hkc, hc2, hbel, hbelR, hlt8⟩ := hcut
        obtain ⟨w8, hw8⟩ : ∃ x, x = wc := ⟨_, rfl⟩
        subst hw8
        have HX := Lib.hid hcx
        have HLA := Lib.hid hla
        have HA0 := Lib.hid hA0
        have HB8 := Lib.hid hbel
        have HR8 := Lib.hid hbelR
        have l0 := hcx 0 _ rfl; have l1 := hcx 1 _ rfl; have l2 := hcx 2 _ rfl; have l3 := hcx 3 _ rfl; have l4 := hcx 4 _ rfl; have l5 := hcx 5 _ rfl; have l6 := hcx 6 _ rfl; have l7 := hcx 7 _ rfl; have l8 := hcx 8 _ rfl; have l9 := hcx 9 _ rfl; have l10 := hcx 10 _ rfl; have l11 := hcx 11 _ rfl; have l12 := hcx 12 _ rfl; have l13 := hcx 13 _ rfl
        clear hcx hla hA0 hbel hbelR d9 d10 d11 d12 d13 f13 hp5 hp6 HX5 HSF5 HQ5 HQ6 HX6 HSF6 T8 T9 HFS
        go_wp2_with fail
        clear l0 l1 l2 l3 l4 l5 l6 l7 l8 l9 l10 l11 l12 l13
        have EN := Lib.hid (fun rr hrr => sencode_any n1 n2 n3 n4 n5 t1 t2 t3 t4 u1 u2 u3 u4 t fs A0 k0 c0 w8.heap.size w8 HLA.out hkc (by omega) (Nat.le_refl _) HOK.out HOT.out.1 HOT.out.2.1 HOT.out.2.2.1 HOT.out.2.2.2 HOU.out.1 HOU.out.2.1 HOU.out.2.2.1 HOU.out.2.2.2 (HT.out _ HB8.out).1 (HT.out _ HB8.out).2 rr hrr)
        rcases HC.out with ⟨h1, rfl⟩ | ⟨h1, h2, rfl⟩ | ⟨h1, h2, rfl⟩
        · refine (EN.out ([], 4) h1).mono ?_
          rintro e w9 ⟨A5, c5, rfl, hown, hbel⟩
          have HB9 := Lib.hid (HB8.out.trans (hbel.mono HB8.out.size))
          obtain ⟨hcc, hcf⟩ := cells_of_below (HR8.out.trans (hbel.mono (by omega)))
          have hw9 : w.heap.size < w9.heap.size := by have := hbel.size; omega
          clear hown hbel h1 HC
          go_wp2
          refine bodyPost_ret (v := .tuple #[.agg #[.int .i64 0, .int .i64 0, .int .i64 0, .int .i64 0, .int .i64 0, .int .i64 0, .int .i64 0, .int .i64 0, .int .i64 0, .int .i64 0, .int .i64 0, .int .i64 0, .int .i64 0, .slice none 0 0], .bool false]) (by simp [results, Tryd.results22, go_sem, *]) rfl ?_
          exact ⟨none, 0, 0, rfl, LAt.nil _ _ _, by omega, by omega, (by repeat (first | with_reducible exact HB9.out | with_reducible refine Below.setCell ?_ (by first | (simp; done) | (simp; omega) | omega) _)), (fun ad e => by cases e)⟩
        · refine (EN.out (sencF ⟨n1, n2, n3, n4, n5, ⟨t1, t2, t3, t4⟩, ⟨u1, u2, u3, u4⟩, fs⟩ t, 0) h1).mono ?_
          rintro e w9 ⟨A5, c5, rfl, hown, hbel⟩
          have HB9 := Lib.hid (HB8.out.trans (hbel.mono HB8.out.size))
          obtain ⟨hcc, hcf⟩ := cells_of_below (HR8.out.trans (hbel.mono (by omega)))
          have hcx := HX.out.below hbel hlt8
          have l0 := hcx 0 _ rfl; have l1 := hcx 1 _ rfl; have l2 := hcx 2 _ rfl; have l3 := hcx 3 _ rfl; have l4 := hcx 4 _ rfl; have l5 := hcx 5 _ rfl; have l6 := hcx 6 _ rfl; have l7 := hcx 7 _ rfl; have l8 := hcx 8 _ rfl; have l9 := hcx 9 _ rfl; have l10 := hcx 10 _ rfl; have l11 := hcx 11 _ rfl; have l12 := hcx 12 _ rfl; have l13 := hcx 13 _ rfl
          clear hcx
          have HLA9 := Lib.hid (HLA.out.below hbel)
          have hs98 := hbel.size
          have hw9 : w.heap.size < w9.heap.size := by omega
          have HO5 := Lib.hid hown
          have h3 := Lib.hid h2
          clear hown hbel h1 h2 HC
          go_wp2_with fail
          refine (equal_any (sencF ⟨n1, n2, n3, n4, n5, ⟨t1, t2, t3, t4⟩, ⟨u1, u2, u3, u4⟩, fs⟩ t) bs A5 A (sencF ⟨n1, n2, n3, n4, n5, ⟨t1, t2, t3, t4⟩, ⟨u1, u2, u3, u4⟩, fs⟩ t).length 64 c5 cap _ w.heap.size w9 HO5.out.byt (HY.out _ HB9.out)).mono ?_
          rintro e w' ⟨rfl, rfl⟩
          rw [decide_eq_true h3.out]
          go_wp2
          refine bodyPost_ret (v := .tuple #[.agg #[.int .i64 (n1 : Int), .int .i64 (n2 : Int), .int .i64 (n3 : Int), .int .i64 (n4 : Int), .int .i64 (n5 : Int), .int .i64 (t1 : Int), .int .i64 (t2 : Int), .int .i64 t3, .int .i64 (t4 : Int), .int .i64 (u1 : Int), .int .i64 (u2 : Int), .int .i64 u3, .int .i64 (u4 : Int), .slice A0 k0 c0], .bool true]) (by simp [results, Tryd.results22, go_sem, *]) rfl ?_
          refine ⟨A0, k0, c0, rfl, ?_, hkc, hc2, (by repeat (first | with_reducible exact HB9.out | with_reducible refine Below.setCell ?_ (by first | (simp; done) | (simp; omega) | omega) _)), (fun ad e => by have := HA0.out ad e; omega)⟩
          refine LAt.more (B := w8.heap.size) ?_ (by simp [World.setCell]; omega)
          have hne : ∀ ad, A0 = some ad → ¬ ad.block = w.heap.size := fun ad e h => by have := HA0.out ad e; omega
          exact ((((((((((((((HLA9.out.setc hne 0 _).setc hne 1 _).setc hne 2 _).setc hne 3 _).setc hne 4 _).setc hne 5 _).setc hne 6 _).setc hne 7 _).setc hne 8 _).setc hne 9 _).setc hne 10 _).setc hne 11 _).setc hne 12 _).setc hne 13 _)
        · refine (EN.out (sencF ⟨n1, n2, n3, n4, n5, ⟨t1, t2, t3, t4⟩, ⟨u1, u2, u3, u4⟩, fs⟩ t, 0) h1).mono ?_
          rintro e w9 ⟨A5, c5, rfl, hown, hbel⟩
          have HB9 := Lib.hid (HB8.out.trans (hbel.mono HB8.out.size))
          obtain ⟨hcc, hcf⟩ := cells_of_below (HR8.out.trans (hbel.mono (by omega)))
          have hw9 : w.heap.size < w9.heap.size := by have := hbel.size; omega
          have HO5 := Lib.hid hown
          have h3 := Lib.hid h2
          clear hown hbel h1 h2 HC
          go_wp2_with fail
          refine (equal_any (sencF ⟨n1, n2, n3, n4, n5, ⟨t1, t2, t3, t4⟩, ⟨u1, u2, u3, u4⟩, fs⟩ t) bs A5 A (sencF ⟨n1, n2, n3, n4, n5, ⟨t1, t2, t3, t4⟩, ⟨u1, u2, u3, u4⟩, fs⟩ t).length 64 c5 cap _ w.heap.size w9 HO5.out.byt (HY.out _ HB9.out)).mono ?_
          rintro e w' ⟨rfl, rfl⟩
          rw [decide_eq_false h3.out]
          go_wp2
          refine bodyPost_ret (v := .tuple #[.agg #[.int .i64 0, .int .i64 0, .int .i64 0, .int .i64 0, .int .i64 0, .int .i64 0, .int .i64 0, .int .i64 0, .int .i64 0, .int .i64 0, .int .i64 0, .int .i64 0, .int .i64 0, .slice none 0 0], .bool false]) (by simp [results, Tryd.results22, go_sem, *]) rfl ?_
          exact ⟨none, 0, 0, rfl, LAt.nil _ _ _, by omega, by omega, (by repeat (first | with_reducible exact HB9.out | with_reducible refine Below.setCell ?_ (by first | (simp; done) | (simp; omega) | omega) _)), (fun ad e => by cases e)⟩
theorem sdecode_any (t : Int) (bs : List UInt8) (A : Option Addr) (n cap B : Nat) (w : World) (ht : TabAt w) (h0 : 0 < w.heap.size) (hb : Byt w B A n bs) (hn : n ≤ cap) (hcap : cap ≤ 9223372036854775807) (hB : B ≤ w.heap.size) (r : Option Su) (hr : sdecW sread t bs = r) :
    Calls Tryd.prog 22 #[.slice A n cap, .int .i64 t] w (SDecRes r w) :=
  (sdecode_lo t bs A n cap B w ht h0 hb hn hcap hB r hr).mono fun _ _ ⟨A, k, c, h1, h2, h3, h4, h5, _⟩ => ⟨A, k, c, h1, h2, h3, h4, h5⟩
end Go.Proofs.YthjnbdbbeidhgaaDoor
