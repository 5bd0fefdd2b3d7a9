/- The walk of record.Encode. -/
import Derived.Test.YthgpmnblkhehkaaDoorFields
import Derived.Test.YthgpmnblkhehkaaDoorRecCheck
import Derived.Test.YthgpmnblkhehkaaDoorCrcWalks
import Derived.Test.YthgpmnblkhehkaaDoorConcat
import Derived.Deep.RegionHeld3
import Derived.IntWalk
namespace Go.Proofs.YthgpmnblkhehkaaDoor
open Go.RowKit

/-- What Encode leaves: the bytes and the error. -/
def REncRes (r : List UInt8 × Int) (w : World) (e : Ending) (w' : World) : Prop :=
  ∃ A c, e = .returned (.tuple #[.slice A r.1.length c, .int .i64 r.2]) ∧ Own w' w.heap.size 5 (.slice A r.1.length c) r.1.length r.1 ∧ Below w.heap.size w w'

/-- A block of a record. -/
def BoxR (w : World) (g : Nat) (ki : Int) (Ak : Option Addr) (nk ck : Nat) (Av : Option Addr) (nv cv : Nat) (ex : Int) : Prop :=
  w.cell? ⟨g, 0, none⟩ = some (.int .i64 ki) ∧ w.cell? ⟨g, 1, none⟩ = some (.slice Ak nk ck) ∧ w.cell? ⟨g, 2, none⟩ = some (.slice Av nv cv) ∧ w.cell? ⟨g, 3, none⟩ = some (.int .i64 ex)
theorem BoxR.below {w w' : World} {g B : Nat} {ki ex : Int} {Ak Av : Option Addr} {nk ck nv cv : Nat} (h : BoxR w g ki Ak nk ck Av nv cv ex) (hb : Below B w w') (hg : g < B) : BoxR w' g ki Ak nk ck Av nv cv ex :=
  ⟨(hb.cell (by exact hg)).trans h.1, (hb.cell (by exact hg)).trans h.2.1, (hb.cell (by exact hg)).trans h.2.2.1, (hb.cell (by exact hg)).trans h.2.2.2⟩
theorem BoxR.new (w : World) (ty : TypeId) (ki ex : Int) (Ak Av : Option Addr) (nk ck nv cv : Nat) : BoxR (w.alloc (.cells #[.int .i64 ki, .slice Ak nk ck, .slice Av nv cv, .int .i64 ex] ty)) w.heap.size ki Ak nk ck Av nv cv ex :=
  ⟨cell_of_row _ _ _ _ _ _ (heap_alloc_new w _), cell_of_row _ _ _ _ _ _ (heap_alloc_new w _), cell_of_row _ _ _ _ _ _ (heap_alloc_new w _), cell_of_row _ _ _ _ _ _ (heap_alloc_new w _)⟩

/-- The place's bytes. -/
theorem place_any (s o : Nat) (hs : s ≤ 9223372036854775807) (ho : o ≤ 2147483647) (g g' c c' : Nat) (w : World) (h1 : w.cell? ⟨g, 0, none⟩ = some (.int .i64 (s : Int))) (h2 : w.cell? ⟨g, 1, none⟩ = some (.int .i64 (o : Int)))
    (h3 : w.cell? ⟨g', 0, none⟩ = some (.int .i64 8)) (h4 : w.cell? ⟨g', 1, none⟩ = some (.int .i64 4)) (hg : g < w.heap.size) (hg' : g' < w.heap.size) :
    Calls Tryd.prog 77 #[.slice none 0 0, .slice (some ⟨g, 0, none⟩) 2 c, .slice (some ⟨g', 0, none⟩) 2 c'] w (BytRes (rplace s o) w) := by
  refine fields_any [(s, 8), (o, 4)] _ (by simp [putAll, rplace]) ?_ 2 rfl (by decide) g g' c c' w ?_ hg hg'
  · intro p hp
    simp only [List.mem_cons, List.not_mem_nil, or_false] at hp
    rcases hp with rfl | rfl <;> simp only <;> omega
  · intro j p hj
    match j, hj with
    | 0, hj => simp at hj; subst hj; exact ⟨h1, h3⟩
    | 1, hj => simp at hj; subst hj; exact ⟨h2, h4⟩

theorem parts4 {w : World} {A1 A2 A3 A4 : Option Addr} {n1 n2 n3 n4 c1 c2 c3 c4 : Nat} {b1 b2 b3 b4 : List UInt8} (ty : TypeId) (h1 : Byt w w.heap.size A1 n1 b1) (h2 : Byt w w.heap.size A2 n2 b2) (h3 : Byt w w.heap.size A3 n3 b3) (h4 : Byt w w.heap.size A4 n4 b4) :
    Parts (w.alloc (.cells #[.slice A1 n1 c1, .slice A2 n2 c2, .slice A3 n3 c3, .slice A4 n4 c4] ty)) w.heap.size w.heap.size [(A1, n1, c1, b1), (A2, n2, c2, b2), (A3, n3, c3, b3), (A4, n4, c4, b4)] := by
  intro j A' n' c' bs' hj
  match j, hj with
  | 0, hj => cases hj; exact ⟨cell_of_row _ _ _ _ _ _ (heap_alloc_new w _), h1.alloc (Nat.le_refl _) _⟩
  | 1, hj => cases hj; exact ⟨cell_of_row _ _ _ _ _ _ (heap_alloc_new w _), h2.alloc (Nat.le_refl _) _⟩
  | 2, hj => cases hj; exact ⟨cell_of_row _ _ _ _ _ _ (heap_alloc_new w _), h3.alloc (Nat.le_refl _) _⟩
  | 3, hj => cases hj; exact ⟨cell_of_row _ _ _ _ _ _ (heap_alloc_new w _), h4.alloc (Nat.le_refl _) _⟩
theorem parts3 {w : World} {A1 A2 A3 : Option Addr} {n1 n2 n3 c1 c2 c3 : Nat} {b1 b2 b3 : List UInt8} (ty : TypeId) (h1 : Byt w w.heap.size A1 n1 b1) (h2 : Byt w w.heap.size A2 n2 b2) (h3 : Byt w w.heap.size A3 n3 b3) :
    Parts (w.alloc (.cells #[.slice A1 n1 c1, .slice A2 n2 c2, .slice A3 n3 c3] ty)) w.heap.size w.heap.size [(A1, n1, c1, b1), (A2, n2, c2, b2), (A3, n3, c3, b3)] := by
  intro j A' n' c' bs' hj
  match j, hj with
  | 0, hj => cases hj; exact ⟨cell_of_row _ _ _ _ _ _ (heap_alloc_new w _), h1.alloc (Nat.le_refl _) _⟩
  | 1, hj => cases hj; exact ⟨cell_of_row _ _ _ _ _ _ (heap_alloc_new w _), h2.alloc (Nat.le_refl _) _⟩
  | 2, hj => cases hj; exact ⟨cell_of_row _ _ _ _ _ _ (heap_alloc_new w _), h3.alloc (Nat.le_refl _) _⟩

def PlaceRes (s o : Nat) (w : World) (e : Ending) (w' : World) : Prop := ∃ A c, e = .returned (.slice A 12 c) ∧ Byt w' w'.heap.size A 12 (rplace s o) ∧ Below w.heap.size w w'
theorem place_at0 (s o : Nat) (hs : s ≤ 9223372036854775807) (ho : o ≤ 2147483647) (e : TypeId) (w : World) :
    Calls Tryd.prog 77 #[.slice none 0 0, .slice (some ⟨w.heap.size, 0, none⟩) 2 2, .slice (some ⟨w.heap.size + 1, 0, none⟩) 2 2] ((w.alloc (.cells #[.int .i64 (s : Int), .int .i64 (o : Int)] e)).alloc (.cells #[.int .i64 8, .int .i64 4] e)).drew (PlaceRes s o w) := by
  have hb : Below w.heap.size w ((w.alloc (.cells #[.int .i64 (s : Int), .int .i64 (o : Int)] e)).alloc (.cells #[.int .i64 8, .int .i64 4] e)).drew := Below.drew (Below.alloc (Below.alloc (Below.refl _ _) (Nat.le_refl _) _) (by simp) _)
  have r1 : ((w.alloc (.cells #[.int .i64 (s : Int), .int .i64 (o : Int)] e)).alloc (.cells #[.int .i64 8, .int .i64 4] e)).heap[w.heap.size]? = some (.cells #[.int .i64 (s : Int), .int .i64 (o : Int)] e) := (Below.heap_alloc _ _ _ (by simp)).trans (heap_alloc_new w _)
  have r2 : ((w.alloc (.cells #[.int .i64 (s : Int), .int .i64 (o : Int)] e)).alloc (.cells #[.int .i64 8, .int .i64 4] e)).heap[w.heap.size + 1]? = some (.cells #[.int .i64 8, .int .i64 4] e) := by
    have := heap_alloc_new (w.alloc (.cells #[.int .i64 (s : Int), .int .i64 (o : Int)] e)) (.cells #[.int .i64 8, .int .i64 4] e)
    rwa [World.size_alloc] at this
  refine (place_any s o hs ho w.heap.size (w.heap.size + 1) 2 2 ((w.alloc (.cells #[.int .i64 (s : Int), .int .i64 (o : Int)] e)).alloc (.cells #[.int .i64 8, .int .i64 4] e)).drew (cell_of_row _ _ _ _ _ _ r1) (cell_of_row _ _ _ _ _ _ r1) (cell_of_row _ _ _ _ _ _ r2) (cell_of_row _ _ _ _ _ _ r2) (by simp; omega) (by simp)).mono ?_
  rintro en w' ⟨A, c, rfl, hby, hbel⟩
  rw [rplace_len] at hby ⊢
  exact ⟨A, c, rfl, hby, hb.trans (hbel.mono hb.size)⟩
theorem place_at1 (s o : Nat) (hs : s ≤ 9223372036854775807) (ho : o ≤ 2147483647) (e : TypeId) (w : World) :
    Calls Tryd.prog 77 #[.slice none 0 0, .slice (some ⟨w.heap.size + 1, 0, none⟩) 2 2, .slice (some ⟨w.heap.size, 0, none⟩) 2 2] ((w.alloc (.cells #[.int .i64 8, .int .i64 4] e)).alloc (.cells #[.int .i64 (s : Int), .int .i64 (o : Int)] e)).drew (PlaceRes s o w) := by
  have hb : Below w.heap.size w ((w.alloc (.cells #[.int .i64 8, .int .i64 4] e)).alloc (.cells #[.int .i64 (s : Int), .int .i64 (o : Int)] e)).drew := Below.drew (Below.alloc (Below.alloc (Below.refl _ _) (Nat.le_refl _) _) (by simp) _)
  have r1 : ((w.alloc (.cells #[.int .i64 8, .int .i64 4] e)).alloc (.cells #[.int .i64 (s : Int), .int .i64 (o : Int)] e)).heap[w.heap.size]? = some (.cells #[.int .i64 8, .int .i64 4] e) := (Below.heap_alloc _ _ _ (by simp)).trans (heap_alloc_new w _)
  have r2 : ((w.alloc (.cells #[.int .i64 8, .int .i64 4] e)).alloc (.cells #[.int .i64 (s : Int), .int .i64 (o : Int)] e)).heap[w.heap.size + 1]? = some (.cells #[.int .i64 (s : Int), .int .i64 (o : Int)] e) := by
    have := heap_alloc_new (w.alloc (.cells #[.int .i64 8, .int .i64 4] e)) (.cells #[.int .i64 (s : Int), .int .i64 (o : Int)] e)
    rwa [World.size_alloc] at this
  refine (place_any s o hs ho (w.heap.size + 1) w.heap.size 2 2 ((w.alloc (.cells #[.int .i64 8, .int .i64 4] e)).alloc (.cells #[.int .i64 (s : Int), .int .i64 (o : Int)] e)).drew (cell_of_row _ _ _ _ _ _ r2) (cell_of_row _ _ _ _ _ _ r2) (cell_of_row _ _ _ _ _ _ r1) (cell_of_row _ _ _ _ _ _ r1) (by simp) (by simp; omega)).mono ?_
  rintro en w' ⟨A, c, rfl, hby, hbel⟩
  rw [rplace_len] at hby ⊢
  exact ⟨A, c, rfl, hby, hb.trans (hbel.mono hb.size)⟩

set_option maxRecDepth 100000 in
set_option maxHeartbeats 4000000 in
theorem recEncode_any (v s o ki ex : Int) (key val : List UInt8) (Ak Av : Option Addr) (nk ck nv cv B : Nat) (w : World) (ht : TabAt w) (h0 : 0 < w.heap.size) (hk : Byt w B Ak nk key) (hv : Byt w B Av nv val) (hB : B ≤ w.heap.size) (hkn : nk ≤ 100000) (hvn : nv ≤ 100000)
    (hs : s ≤ 9223372036854775807) (r : List UInt8 × Int) (hr : rencS v s o ki ex key val = r) :
    Calls Tryd.prog 61 #[.int .i64 v, .int .i64 s, .int .i64 o, .agg #[.int .i64 ki, .slice Ak nk ck, .slice Av nv cv, .int .i64 ex]] w (REncRes r w) := by
  have hkl := hk.len
  have hvl := hv.len
  have HT : Hid (∀ w', Below w.heap.size w w' → TabAt w' ∧ 0 < w'.heap.size) := fun w' hw => ⟨ht.below hw h0, Nat.lt_of_lt_of_le h0 hw.size⟩
  have HK : Hid (∀ w', Below w.heap.size w w' → Byt w' w.heap.size Ak nk key) := fun w' hw => (hk.more hB).below hw
  have HV : Hid (∀ w', Below w.heap.size w w' → Byt w' w.heap.size Av nv val) := fun w' hw => (hv.more hB).below hw
  have HB0 : Hid (Below w.heap.size w (w.alloc (.cells #[.int .i64 ki, .slice Ak nk ck, .slice Av nv cv, .int .i64 ex] 36))) := (Below.refl _ _).alloc (Nat.le_refl _) _
  have HX0 := Lib.hid (BoxR.new w 36 ki ex Ak Av nk ck nv cv)
  clear hk hv hB ht h0
  unfold rencS at hr
  rw [hkl, hvl] at hr
  obtain ⟨rc, hrc⟩ : ∃ rc, rcheck v ki ex nk nv = rc := ⟨_, rfl⟩
  have CK := Lib.hid (rcheck_any v ki ex Ak Av nk ck nv cv (by omega) (by omega) rc hrc)
  by_cases hz : rc = 0
  · subst hz
    rw [hrc, if_neg (by decide)] at hr
    by_cases hpl : s < 0 ∨ o < 0 ∨ 2147483647 < o
    · rw [if_pos hpl] at hr
      subst hr
      clear hrc
      rcases Int.lt_or_le s 0 with q | q
      · go_enter Tryd.func61, Tryd.ntmps61
        go_wp2_with (go_at_call 75; (with_reducible refine (CK.out _).mono ?_); rintro e w1 ⟨rfl, hbel⟩; have HB1 : Hid (Below w.heap.size w w1) := HB0.out.trans (hbel.mono HB0.out.size); clear hbel)
        go_ret2
        exact ⟨none, 0, rfl, Own.nil _ _ _, HB1.out⟩
      rcases Int.lt_or_le o 0 with q2 | q2
      · go_enter Tryd.func61, Tryd.ntmps61
        go_wp2_with (go_at_call 75; (with_reducible refine (CK.out _).mono ?_); rintro e w1 ⟨rfl, hbel⟩; have HB1 : Hid (Below w.heap.size w w1) := HB0.out.trans (hbel.mono HB0.out.size); clear hbel)
        go_ret2
        exact ⟨none, 0, rfl, Own.nil _ _ _, HB1.out⟩
      have q3 : 2147483647 < o := by omega
      go_enter Tryd.func61, Tryd.ntmps61
      go_wp2_with (go_at_call 75; (with_reducible refine (CK.out _).mono ?_); rintro e w1 ⟨rfl, hbel⟩; have HB1 : Hid (Below w.heap.size w w1) := HB0.out.trans (hbel.mono HB0.out.size); clear hbel)
      go_ret2
      exact ⟨none, 0, rfl, Own.nil _ _ _, HB1.out⟩
    · rw [if_neg hpl] at hr
      obtain ⟨hv12, k1, k2, _, _, _, e255, e65, ee0, ee1, ee2⟩ := rcheck_zero hrc
      obtain ⟨s, rfl⟩ := Int.eq_ofNat_of_zero_le (show 0 ≤ s by omega)
      obtain ⟨o, rfl⟩ := Int.eq_ofNat_of_zero_le (show 0 ≤ o by omega)
      obtain ⟨ki, rfl⟩ := Int.eq_ofNat_of_zero_le (show 0 ≤ ki by omega)
      obtain ⟨ex, rfl⟩ := Int.eq_ofNat_of_zero_le ee0
      have hs' : s ≤ 9223372036854775807 := by omega
      have ho' : o ≤ 2147483647 := by omega
      simp only [Int.toNat_natCast] at hr
      obtain ⟨hd, hhd⟩ : ∃ hd, rhead v ki nk nv ex = hd := ⟨_, rfl⟩
      have hdl : hd.length = 12 := by rw [← hhd]; exact rhead_len _ _ _ _ _
      have CH := head_any v ki nk nv ex Ak Av ck cv hv12 (by omega) (by omega) (by omega) (by omega)
      rw [hhd] at CH
      have CH := Lib.hid CH
      obtain ⟨al, hal⟩ : ∃ al, rplace s o ++ hd ++ key ++ val = al := ⟨_, rfl⟩
      have HALL : ∀ (A3 A2 : Option Addr) (c3 c2 : Nat), cat [(A3, 12, c3, rplace s o), (A2, 12, c2, hd), (Ak, nk, ck, key), (Av, nv, cv, val)] = al := fun A3 A2 c3 c2 => by rw [← hal]; simp [cat]
      have HALL := Lib.hid HALL
      have hall : al.length = 24 + nk + nv := by rw [← hal]; simp [rplace_len, hdl, hkl, hvl]; omega
      obtain ⟨z, hz⟩ : ∃ z, Crc.sum al = z := ⟨_, rfl⟩
      have hz32 : z < 4294967296 := by rw [← hz]; exact Crc.sum_lt _
      have HZ := Lib.hid hz
      obtain ⟨out, hout⟩ : ∃ out, hd ++ be 4 z ++ key ++ val = out := ⟨_, rfl⟩
      have HOUT : ∀ (A5 : Option Addr) (c5 : Nat), cat [(A5, 16, c5, hd ++ be 4 z), (Ak, nk, ck, key), (Av, nv, cv, val)] = out := fun A5 c5 => by rw [← hout]; simp [cat]
      have HOUT := Lib.hid HOUT
      have houtl : out.length = 16 + nk + nv := by rw [← hout]; simp [hdl, hkl, hvl, be_len]; omega
      have HR : Hid (r = (out, 0)) := by
        show r = _
        rw [← hr, ← hout, ← hz, ← hal, ← hhd, ← hkl, ← hvl]
        simp [rbytes, rsum]
      have HL := Lib.hid (show al.length ≤ 1000000 ∧ out.length ≤ 1000000 ∧ hd.length = 12 from ⟨by omega, by omega, hdl⟩)
      have HPL : Hid ((rplace s o).length = 12) := rplace_len _ _
      clear hr hhd hal hz hout hrc hkl hvl hall houtl hdl hpl ee0 ee1 ee2 k1 k2
      go_enter Tryd.func61, Tryd.ntmps61
      go_wp2_with (go_at_call 75; (with_reducible refine (CK.out _).mono ?_); rintro e w1 ⟨rfl, hbel⟩; have HB1 : Hid (Below w.heap.size w w1) := HB0.out.trans (hbel.mono HB0.out.size); have HX1 : Hid (BoxR w1 w.heap.size ki Ak nk ck Av nv cv ex) := HX0.out.below (B := w.heap.size + 1) (hbel.mono (by simp)) (by omega); have hw1 : w.heap.size < w1.heap.size := (by have := hbel.size; simp at this; omega); clear hbel; obtain ⟨l0, l1, l2, l3⟩ := HX1.out)
      refine (CH.out _).mono ?_
      rintro e w2 ⟨A2, c2, rfl, hb, hbel⟩
      rw [HL.out.2.2] at hb ⊢
      have HB2 : Hid (Below w.heap.size w w2) := HB1.out.trans (hbel.mono HB1.out.size)
      have HX2 : Hid (BoxR w2 w.heap.size ki Ak nk ck Av nv cv ex) := HX1.out.below hbel hw1
      have hw2 : w.heap.size < w2.heap.size := Nat.lt_of_lt_of_le hw1 hbel.size
      have HH2 : Hid (∀ w', Below w2.heap.size w2 w' → Byt w' w2.heap.size A2 12 hd) := fun w' hw => hb.below hw
      clear hb hbel l0 l1 l2 l3
      obtain ⟨-, l1, l2, -⟩ := HX2.out
      go_wp2_with fail
      have HP0 := Lib.hid (place_at0 s o hs' ho' 3 w2)
      have HP1 := Lib.hid (place_at1 s o hs' ho' 3 w2)
      have hwz : IntKind.u64.wrap (z : Int) = (z : Int) := IntWalk.u64_in _ (by omega)
      go_region_held3 (fun w' => w'.cell? ⟨w.heap.size, 1, none⟩ = some (.slice Ak nk ck) ∧ w'.cell? ⟨w.heap.size, 2, none⟩ = some (.slice Av nv cv)) (go_keep) (first
        | (go_at_call 77; (with_reducible refine HP0.out.mono ?_); rintro e w3 ⟨A3, c3, rfl, hb3, hbel3⟩; have HA3 := Lib.hid hb3; have HS3 := Lib.hid hbel3; have HB3 : Hid (Below w.heap.size w w3) := HB2.out.trans (hbel3.mono HB2.out.size); obtain ⟨-, n1, n2, -⟩ := HX2.out.below hbel3 hw2; clear hb3 hbel3)
        | (go_at_call 77; (with_reducible refine HP1.out.mono ?_); rintro e w3 ⟨A3, c3, rfl, hb3, hbel3⟩; have HA3 := Lib.hid hb3; have HS3 := Lib.hid hbel3; have HB3 : Hid (Below w.heap.size w w3) := HB2.out.trans (hbel3.mono HB2.out.size); obtain ⟨-, n1, n2, -⟩ := HX2.out.below hbel3 hw2; clear hb3 hbel3)
        | (go_at_call 72; refine (concat_any [(A3, 12, c3, rplace s o), (A2, 12, c2, hd), (Ak, nk, ck, key), (Av, nv, cv, val)] al (HALL.out _ _ _ _) w3.heap.size 4 w3.heap.size _ (parts4 _ HA3.out ((HH2.out _ HS3.out).more HS3.out.size) ((HK.out _ HB3.out).more HB3.out.size) ((HV.out _ HB3.out).more HB3.out.size)) (by simp) (by simp) HL.out.1 4 rfl (by decide)).mono ?_; rintro e w4 ⟨A4, c4, rfl, hown4, hbel4⟩; have HO4 := Lib.hid hown4; have HS4 : Hid (Below w2.heap.size w2 w4) := (HS3.out.alloc HS3.out.size _).trans (hbel4.mono (by have := HS3.out.size; simp; omega)); have HB4 : Hid (Below w.heap.size w w4) := HB2.out.trans (HS4.out.mono HB2.out.size); obtain ⟨-, p1, p2, -⟩ := HX2.out.below HS4.out hw2; clear hown4 hbel4)
        | (go_at_call 74; refine (sum_any al A4 al.length c4 _ w4 (HT.out _ HB4.out).1 HO4.out.byt (by have := HL.out.1; omega)).mono ?_; rintro e w' ⟨rfl, rfl⟩; rw [HZ.out]))
      all_goals
        go_wp2_with fail
        go_region_held3 (fun w' => w'.cell? ⟨w.heap.size, 1, none⟩ = some (.slice Ak nk ck) ∧ w'.cell? ⟨w.heap.size, 2, none⟩ = some (.slice Av nv cv)) (go_keep) (first
          | (go_at_call 55; refine (put_any hd A2 12 c2 w2.heap.size z 4 _ (HH2.out _ (Below.drew HS4.out)) (by decide) HS4.out.size (by decide) (by decide)).mono ?_; rintro e w5 ⟨A5, c5, rfl, hown5, hbel5⟩; have HPB : putB hd z 4 = hd ++ be 4 z := rfl; rw [HPB] at hown5 ⊢; have HP5 : (hd ++ be 4 z).length = 16 := (by rw [List.length_append, be_len, HL.out.2.2]); rw [HP5] at hown5 ⊢; have HA5 := Lib.hid hown5.byt; have HS5 : Hid (Below w2.heap.size w2 w5) := (Below.drew HS4.out).trans (hbel5.mono HS4.out.size); have HB5 : Hid (Below w.heap.size w w5) := HB2.out.trans (HS5.out.mono HB2.out.size); obtain ⟨-, q1, q2, -⟩ := HX2.out.below HS5.out hw2; clear hown5 hbel5 HPB HP5)
          | (go_at_call 72; refine (concat_any [(A5, 16, c5, hd ++ be 4 z), (Ak, nk, ck, key), (Av, nv, cv, val)] out (HOUT.out _ _) w5.heap.size 3 w5.heap.size _ (parts3 _ HA5.out ((HK.out _ HB5.out).more HB5.out.size) ((HV.out _ HB5.out).more HB5.out.size)) (by simp) (by simp) HL.out.2.1 3 rfl (by decide)).mono ?_; rintro e w6 ⟨A6, c6, rfl, hown6, hbel6⟩; have HO6 := Lib.hid hown6; have HB6 : Hid (Below w.heap.size w w6) := (HB5.out.alloc HB5.out.size _).trans (hbel6.mono (by have := HB5.out.size; simp; omega)); have HZ6 := Lib.hid (Nat.le_trans HB5.out.size (show w5.heap.size ≤ (w5.alloc (.cells #[.slice A5 16 c5, .slice Ak nk ck, .slice Av nv cv] 34)).heap.size from by simp)); obtain ⟨-, r1, r2, -⟩ := HX2.out.below (HS5.out.trans ((Below.alloc (Below.refl _ _) (Nat.le_refl _) _).trans (hbel6.mono (by simp)) |>.mono HS5.out.size)) hw2; clear hown6 hbel6))
        all_goals (try go_wp2)
        all_goals go_ret2
        all_goals (rw [REncRes, HR.out]; exact ⟨A6, c6, rfl, HO6.out.mono HZ6.out, HB6.out⟩)
  · have hr2 : r = ([], rc) := by rw [← hr, hrc, if_pos hz]
    subst hr2
    clear hr hrc
    go_enter Tryd.func61, Tryd.ntmps61
    go_wp2_with (go_at_call 75; (with_reducible refine (CK.out _).mono ?_); rintro e w1 ⟨rfl, hbel⟩; have HB1 : Hid (Below w.heap.size w w1) := HB0.out.trans (hbel.mono HB0.out.size); clear hbel)
    go_ret2
    exact ⟨none, 0, rfl, Own.nil _ _ _, HB1.out⟩
end Go.Proofs.YthgpmnblkhehkaaDoor
