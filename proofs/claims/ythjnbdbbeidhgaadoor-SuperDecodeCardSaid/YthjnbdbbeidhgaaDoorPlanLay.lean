/- The walks of bits.Len, superblock.Layout and the reference's put and Layout. -/
import Derived.Test.YthjnbdbbeidhgaaDoorPlanValid
import Derived.Test.YthjnbdbbeidhgaaDoorBitsLen
import Derived.Deep.RegionHeld3
import Derived.IntWalk
namespace Go.Proofs.YthjnbdbbeidhgaaDoor
open Go.RowKit


/-- A layout that is well-formed, or zero. -/
def LayOk (a b c d : Int) : Prop := form a b c d = true ∨ (a = 0 ∧ b = 0 ∧ c = 0 ∧ d = 0)
theorem LayOk.nats {a b c d : Int} (h : LayOk a b c d) : ∃ (id ve rg g : Nat), a = (id : Int) ∧ b = (ve : Int) ∧ d = (rg : Int) ∧ id ≤ 4294967295 ∧ ve ≤ 2 ∧ rg ≤ 16 ∧ g ≤ 11 ∧ lbytes a b c d = be 4 id ++ [UInt8.ofNat ve, UInt8.ofNat g, UInt8.ofNat rg] ∧ 0 ≤ c ∧ c ≤ 2048 ∧ ((c = 0 ∧ g = 0 ∧ logR c = -1) ∨ (c = ((2 ^ g : Nat) : Int) ∧ 1 ≤ g ∧ logR c = (g : Int))) := by
  rcases h with h | ⟨rfl, rfl, rfl, rfl⟩
  · obtain ⟨a1, a2, b12, c1, c2, _, d1, d2⟩ := form_true h
    obtain ⟨k, k1, k2, hk, hc⟩ := form_log h
    exact ⟨a.toNat, b.toNat, d.toNat, k, by omega, by omega, by omega, by omega, by omega, by omega, k2, by simp only [lbytes, hk, Int.toNat_natCast], by omega, by omega, .inr ⟨hc, k1, hk⟩⟩
  · exact ⟨0, 0, 0, 0, rfl, rfl, rfl, by decide, by decide, by decide, by decide, rfl, by decide, by decide, .inl ⟨rfl, rfl, rfl⟩⟩

set_option maxRecDepth 100000 in
set_option maxHeartbeats 4000000 in
theorem lay_any (a b c d : Int) (bs : List UInt8) (A : Option Addr) (m cap B : Nat) (w : World) (hl : LayOk a b c d) (hb : Byt w B A m bs) (hm : m ≤ 1000) (hB : B ≤ w.heap.size) :
    Calls Tryd.prog 32 #[.slice A m cap, .agg #[.int .i64 a, .int .i64 b, .int .i64 c, .int .i64 d]] w (PutRes w.heap.size (bs ++ lbytes a b c d) w) := by
  obtain ⟨id, ve, rg, g, rfl, rfl, rfl, id1, ve1, rg1, g1, hlb, c1, c2', hg⟩ := hl.nats
  clear hl
  have hbl := hb.len
  have HOUT : Hid ((bs ++ be 4 id) ++ [UInt8.ofNat ve, UInt8.ofNat g, UInt8.ofNat rg] = bs ++ lbytes (id : Int) (ve : Int) c (rg : Int)) := by show _ = _; rw [hlb, List.append_assoc]
  have HLEN : Hid ((bs ++ lbytes (id : Int) (ve : Int) c (rg : Int)).length = m + 4 + 3) := by show _ = _; rw [List.length_append, lbytes_len, hbl]
  have hu1 : (UInt8.ofNat ve).toNat = ve := by simp only [UInt8.toNat_ofNat']; omega
  have hu2 : (UInt8.ofNat g).toNat = g := by simp only [UInt8.toNat_ofNat']; omega
  have hu3 : (UInt8.ofNat rg).toNat = rg := by simp only [UInt8.toNat_ofNat']; omega
  have HCS : Hid ((#[.int .u8 (ve : Int), .int .u8 (g : Int), .int .u8 (rg : Int)] : Array Value).toList = bytes [UInt8.ofNat ve, UInt8.ofNat g, UInt8.ofNat rg]) := by
    show _ = _
    simp only [bytes, List.map_cons, List.map_nil, hu1, hu2, hu3]
  have HY : Hid (∀ w', Below w.heap.size w w' → Byt w' w.heap.size A m bs) := fun w' hw => (hb.more hB).below hw
  have HB0 : Hid (Below w.heap.size w (w.alloc (.cells #[.int .i64 (id : Int), .int .i64 (ve : Int), .int .i64 c, .int .i64 (rg : Int)] 23))) := (Below.refl _ _).alloc (Nat.le_refl _) _
  have HX0 := Lib.hid (Cells.new w 23 #[.int .i64 (id : Int), .int .i64 (ve : Int), .int .i64 c, .int .i64 (rg : Int)])
  have HPL : Hid ((bs ++ be 4 id).length = m + 4) := by show _ = _; rw [List.length_append, be_len, hbl]
  have wv : IntKind.u8.wrap (ve : Int) = (ve : Int) := IntWalk.u8_in _ (by omega)
  have wg : IntKind.u8.wrap (g : Int) = (g : Int) := IntWalk.u8_in _ (by omega)
  have wr : IntKind.u8.wrap (rg : Int) = (rg : Int) := IntWalk.u8_in _ (by omega)
  have wm : IntKind.i64.wrap (-1) = -1 := by decide
  have wm2 : IntKind.i64.wrap (0 - 1) = -1 := by decide
  have wgi : IntKind.i64.wrap (g : Int) = (g : Int) := IntWalk.i64_in _ (by omega)
  have hm1 : max (-1 : Int) 0 = 0 := by decide
  have hm2 : max (g : Int) 0 = (g : Int) := by omega
  have w0 : IntKind.u8.wrap 0 = 0 := by decide
  have HG := Lib.hid hg
  clear hlb hbl hb hB hu1 hu2 hu3 hg
  go_enter Tryd.func32, Tryd.ntmps32
  go_wp2_with fail
  refine (put_any bs A m cap w.heap.size id 4 _ (HY.out _ HB0.out) (by omega) HB0.out.size (by decide) (by decide)).mono ?_
  rw [show putB bs id 4 = bs ++ be 4 id from rfl]
  rintro e w2 ⟨A2, c2, rfl, hown, hbel⟩
  rw [HPL.out] at hown ⊢
  have HO2 : Hid (Own w2 (w.heap.size + 1) 5 (.slice A2 (m + 4) c2) (m + 4) (bs ++ be 4 id)) := hown.mono (by simp)
  have HB2 := Lib.hid (HB0.out.trans (hbel.mono HB0.out.size))
  have HX2 := Lib.hid (HX0.out.below hbel (by simp))
  have hw2 : w.heap.size < w2.heap.size := by have := hbel.size; simp at this; omega
  clear hown hbel
  have l1 := HX2.out 1 _ rfl
  have l2 := HX2.out 2 _ rfl
  have l3 := HX2.out 3 _ rfl
  go_wp2_with fail
  rcases HG.out with ⟨hc0, rfl, hlr⟩ | ⟨hc0, g2, hlr⟩
  all_goals have HLR := Lib.hid hlr
  all_goals clear hlr HG
  · have LE : Hid (∀ w, Calls Tryd.prog 57 #[.int .u64 c] w fun e w' => e = .returned (.int .i64 0) ∧ w = w') := fun w => by rw [hc0]; exact len_zero w
    have wx : IntKind.u64.wrap c = c := IntWalk.u64_in _ (by omega)
    clear hc0
    go_region_held3 (fun w' => w'.cell? ⟨w.heap.size, 1, none⟩ = some (.int .i64 (ve : Int)) ∧ w'.cell? ⟨w.heap.size, 2, none⟩ = some (.int .i64 c) ∧ w'.cell? ⟨w.heap.size, 3, none⟩ = some (.int .i64 (rg : Int))) (go_keep) (first
      | (go_at_call 57; refine (LE.out _).mono ?_; rintro e w' ⟨rfl, rfl⟩)
      | ((refine step_append_byt rfl Tryd.u8w (.tmp 10) (.tmp 24) rfl rfl (HO2.out.keep ?_) rfl (Byt.drew (Byt.new w2 _ 5 (0, 0) [UInt8.ofNat ve, UInt8.ofNat 0, UInt8.ofNat rg] HCS.out)) ?_ ?_ ?_); (repeat (first | with_reducible exact Below.refl _ _ | with_reducible refine Below.drew ?_ | with_reducible refine Below.alloc ?_ (Nat.le_refl _) _)); ((try simp only [List.length_cons, List.length_nil]); omega); (simp; omega); intro A3 c3 w3 hown3 hbel3; rw [HOUT.out] at hown3; have HO3 := Lib.hid hown3; have HB3 : Hid (Below w.heap.size w w3) := Below.trans (Below.drew (HB2.out.alloc HB2.out.size _)) (hbel3.mono (by omega)); have HXW := HX2.out.below (Below.trans (Below.drew (Below.alloc (Below.refl (w.heap.size + 1) w2) (by omega) _)) hbel3) (by omega); have n1 := HXW 1 _ rfl; have n2 := HXW 2 _ rfl; have n3 := HXW 3 _ rfl; clear hown3 hbel3 HXW))
    all_goals
      (try go_wp2)
      go_ret
      exact ⟨A3, c3, by rw [HLEN.out]; rfl, by rw [HLEN.out]; exact HO3.out.mono (by omega), HB3.out⟩
  · have LE : Hid (∀ w, Calls Tryd.prog 57 #[.int .u64 c] w fun e w' => e = .returned (.int .i64 ((g : Int) + 1)) ∧ w = w') := fun w => by rw [hc0]; exact len_any g g1 w
    have wx : IntKind.u64.wrap c = c := IntWalk.u64_in _ (by omega)
    have wy : IntKind.i64.wrap ((g : Int) + 1 - 1) = (g : Int) := by rw [IntWalk.i64_in _ (by omega)]; omega
    clear hc0
    go_region_held3 (fun w' => w'.cell? ⟨w.heap.size, 1, none⟩ = some (.int .i64 (ve : Int)) ∧ w'.cell? ⟨w.heap.size, 2, none⟩ = some (.int .i64 c) ∧ w'.cell? ⟨w.heap.size, 3, none⟩ = some (.int .i64 (rg : Int))) (go_keep) (first
      | (go_at_call 57; refine (LE.out _).mono ?_; rintro e w' ⟨rfl, rfl⟩)
      | ((refine step_append_byt rfl Tryd.u8w (.tmp 10) (.tmp 24) rfl rfl (HO2.out.keep ?_) rfl (Byt.drew (Byt.new w2 _ 5 (0, 0) [UInt8.ofNat ve, UInt8.ofNat g, UInt8.ofNat rg] HCS.out)) ?_ ?_ ?_); (repeat (first | with_reducible exact Below.refl _ _ | with_reducible refine Below.drew ?_ | with_reducible refine Below.alloc ?_ (Nat.le_refl _) _)); ((try simp only [List.length_cons, List.length_nil]); omega); (simp; omega); intro A3 c3 w3 hown3 hbel3; rw [HOUT.out] at hown3; have HO3 := Lib.hid hown3; have HB3 : Hid (Below w.heap.size w w3) := Below.trans (Below.drew (HB2.out.alloc HB2.out.size _)) (hbel3.mono (by omega)); have HXW := HX2.out.below (Below.trans (Below.drew (Below.alloc (Below.refl (w.heap.size + 1) w2) (by omega) _)) hbel3) (by omega); have n1 := HXW 1 _ rfl; have n2 := HXW 2 _ rfl; have n3 := HXW 3 _ rfl; clear hown3 hbel3 HXW))
    all_goals
      (try go_wp2)
      go_ret
      exact ⟨A3, c3, by rw [HLEN.out]; rfl, by rw [HLEN.out]; exact HO3.out.mono (by omega), HB3.out⟩

set_option maxRecDepth 100000 in
set_option maxHeartbeats 4000000 in
theorem rput_any (a b c d : Int) (bs : List UInt8) (A : Option Addr) (m cap B : Nat) (w : World) (hl : LayOk a b c d) (hb : Byt w B A m bs) (hm : m ≤ 1000) (hB : B ≤ w.heap.size) :
    Calls Tryd.prog 48 #[.slice A m cap, .agg #[.int .i64 a, .int .i64 b, .int .i64 c, .int .i64 d]] w (PutRes w.heap.size (bs ++ lbytes a b c d) w) := by
  obtain ⟨id, ve, rg, g, rfl, rfl, rfl, id1, ve1, rg1, g1, hlb, c1, c2', hg⟩ := hl.nats
  clear hl
  have hbl := hb.len
  have HOUT : Hid ((bs ++ be 4 id) ++ [UInt8.ofNat ve, UInt8.ofNat g, UInt8.ofNat rg] = bs ++ lbytes (id : Int) (ve : Int) c (rg : Int)) := by show _ = _; rw [hlb, List.append_assoc]
  have HLEN : Hid ((bs ++ lbytes (id : Int) (ve : Int) c (rg : Int)).length = m + 4 + 3) := by show _ = _; rw [List.length_append, lbytes_len, hbl]
  have hu1 : (UInt8.ofNat ve).toNat = ve := by simp only [UInt8.toNat_ofNat']; omega
  have hu2 : (UInt8.ofNat g).toNat = g := by simp only [UInt8.toNat_ofNat']; omega
  have hu3 : (UInt8.ofNat rg).toNat = rg := by simp only [UInt8.toNat_ofNat']; omega
  have HCS : Hid ((#[.int .u8 (ve : Int), .int .u8 (g : Int), .int .u8 (rg : Int)] : Array Value).toList = bytes [UInt8.ofNat ve, UInt8.ofNat g, UInt8.ofNat rg]) := by
    show _ = _
    simp only [bytes, List.map_cons, List.map_nil, hu1, hu2, hu3]
  have HY : Hid (∀ w', Below w.heap.size w w' → Byt w' w.heap.size A m bs) := fun w' hw => (hb.more hB).below hw
  have HB0 : Hid (Below w.heap.size w (w.alloc (.cells #[.int .i64 (id : Int), .int .i64 (ve : Int), .int .i64 c, .int .i64 (rg : Int)] 23))) := (Below.refl _ _).alloc (Nat.le_refl _) _
  have HX0 := Lib.hid (Cells.new w 23 #[.int .i64 (id : Int), .int .i64 (ve : Int), .int .i64 c, .int .i64 (rg : Int)])
  have HPL : Hid ((bs ++ be 4 id).length = m + 4) := by show _ = _; rw [List.length_append, be_len, hbl]
  have wv : IntKind.u8.wrap (ve : Int) = (ve : Int) := IntWalk.u8_in _ (by omega)
  have wg : IntKind.u8.wrap (g : Int) = (g : Int) := IntWalk.u8_in _ (by omega)
  have wr : IntKind.u8.wrap (rg : Int) = (rg : Int) := IntWalk.u8_in _ (by omega)
  have wm : IntKind.i64.wrap (-1) = -1 := by decide
  have wm2 : IntKind.i64.wrap (0 - 1) = -1 := by decide
  have wgi : IntKind.i64.wrap (g : Int) = (g : Int) := IntWalk.i64_in _ (by omega)
  have hm1 : max (-1 : Int) 0 = 0 := by decide
  have hm2 : max (g : Int) 0 = (g : Int) := by omega
  have w0 : IntKind.u8.wrap 0 = 0 := by decide
  have HG := Lib.hid hg
  clear hlb hbl hb hB hu1 hu2 hu3 hg
  go_enter Tryd.func48, Tryd.ntmps48
  go_wp2_with fail
  refine (refPut_any bs A m cap w.heap.size id 4 _ (HY.out _ HB0.out) (by omega) HB0.out.size (by decide) (by decide)).mono ?_
  rw [show putB bs id 4 = bs ++ be 4 id from rfl]
  rintro e w2 ⟨A2, c2, rfl, hown, hbel⟩
  rw [HPL.out] at hown ⊢
  have HO2 : Hid (Own w2 (w.heap.size + 1) 5 (.slice A2 (m + 4) c2) (m + 4) (bs ++ be 4 id)) := hown.mono (by simp)
  have HB2 := Lib.hid (HB0.out.trans (hbel.mono HB0.out.size))
  have HX2 := Lib.hid (HX0.out.below hbel (by simp))
  have hw2 : w.heap.size < w2.heap.size := by have := hbel.size; simp at this; omega
  clear hown hbel
  have l1 := HX2.out 1 _ rfl
  have l2 := HX2.out 2 _ rfl
  have l3 := HX2.out 3 _ rfl
  go_wp2_with fail
  rcases HG.out with ⟨hc0, rfl, hlr⟩ | ⟨hc0, g2, hlr⟩
  all_goals have HLR := Lib.hid hlr
  all_goals clear hlr HG
  · clear hc0
    go_region_held3 (fun w' => w'.cell? ⟨w.heap.size, 1, none⟩ = some (.int .i64 (ve : Int)) ∧ w'.cell? ⟨w.heap.size, 2, none⟩ = some (.int .i64 c) ∧ w'.cell? ⟨w.heap.size, 3, none⟩ = some (.int .i64 (rg : Int))) (go_keep) (first
      | (go_at_call 49; refine (log_any _ _).mono ?_; rintro e w' ⟨rfl, rfl⟩; rw [HLR.out])
      | ((refine step_append_byt rfl Tryd.u8w (.tmp 10) (.tmp 22) rfl rfl (HO2.out.keep ?_) rfl (Byt.drew (Byt.new w2 _ 5 (0, 0) [UInt8.ofNat ve, UInt8.ofNat 0, UInt8.ofNat rg] HCS.out)) ?_ ?_ ?_); (repeat (first | with_reducible exact Below.refl _ _ | with_reducible refine Below.drew ?_ | with_reducible refine Below.alloc ?_ (Nat.le_refl _) _)); ((try simp only [List.length_cons, List.length_nil]); omega); (simp; omega); intro A3 c3 w3 hown3 hbel3; rw [HOUT.out] at hown3; have HO3 := Lib.hid hown3; have HB3 : Hid (Below w.heap.size w w3) := Below.trans (Below.drew (HB2.out.alloc HB2.out.size _)) (hbel3.mono (by omega)); have HXW := HX2.out.below (Below.trans (Below.drew (Below.alloc (Below.refl (w.heap.size + 1) w2) (by omega) _)) hbel3) (by omega); have n1 := HXW 1 _ rfl; have n2 := HXW 2 _ rfl; have n3 := HXW 3 _ rfl; clear hown3 hbel3 HXW))
    all_goals
      (try go_wp2)
      go_ret
      exact ⟨A3, c3, by rw [HLEN.out]; rfl, by rw [HLEN.out]; exact HO3.out.mono (by omega), HB3.out⟩
  · clear hc0
    go_region_held3 (fun w' => w'.cell? ⟨w.heap.size, 1, none⟩ = some (.int .i64 (ve : Int)) ∧ w'.cell? ⟨w.heap.size, 2, none⟩ = some (.int .i64 c) ∧ w'.cell? ⟨w.heap.size, 3, none⟩ = some (.int .i64 (rg : Int))) (go_keep) (first
      | (go_at_call 49; refine (log_any _ _).mono ?_; rintro e w' ⟨rfl, rfl⟩; rw [HLR.out])
      | ((refine step_append_byt rfl Tryd.u8w (.tmp 10) (.tmp 22) rfl rfl (HO2.out.keep ?_) rfl (Byt.drew (Byt.new w2 _ 5 (0, 0) [UInt8.ofNat ve, UInt8.ofNat g, UInt8.ofNat rg] HCS.out)) ?_ ?_ ?_); (repeat (first | with_reducible exact Below.refl _ _ | with_reducible refine Below.drew ?_ | with_reducible refine Below.alloc ?_ (Nat.le_refl _) _)); ((try simp only [List.length_cons, List.length_nil]); omega); (simp; omega); intro A3 c3 w3 hown3 hbel3; rw [HOUT.out] at hown3; have HO3 := Lib.hid hown3; have HB3 : Hid (Below w.heap.size w w3) := Below.trans (Below.drew (HB2.out.alloc HB2.out.size _)) (hbel3.mono (by omega)); have HXW := HX2.out.below (Below.trans (Below.drew (Below.alloc (Below.refl (w.heap.size + 1) w2) (by omega) _)) hbel3) (by omega); have n1 := HXW 1 _ rfl; have n2 := HXW 2 _ rfl; have n3 := HXW 3 _ rfl; clear hown3 hbel3 HXW))
    all_goals
      (try go_wp2)
      go_ret
      exact ⟨A3, c3, by rw [HLEN.out]; rfl, by rw [HLEN.out]; exact HO3.out.mono (by omega), HB3.out⟩

set_option maxHeartbeats 1000000 in
theorem refLay_any (a b c d : Int) (w : World) (hl : LayOk a b c d) :
    Calls Tryd.prog 42 #[.agg #[.int .i64 a, .int .i64 b, .int .i64 c, .int .i64 d]] w (PutRes w.heap.size (lbytes a b c d) w) := by
  have T := Lib.hid (fun (u : World) => rput_any a b c d [] none 0 0 0 u hl (Byt.nil _ _ _) (by decide) (Nat.zero_le _))
  have HB0 : Hid (Below w.heap.size w (w.alloc (.cells #[.int .i64 a, .int .i64 b, .int .i64 c, .int .i64 d] 23))) := (Below.refl _ _).alloc (Nat.le_refl _) _
  have HLEN : Hid ((lbytes a b c d).length = 7) := lbytes_len _ _ _ _
  clear hl
  go_enter Tryd.func42, Tryd.ntmps42
  go_wp2_with fail
  refine (T.out _).mono ?_
  rintro e w2 ⟨A2, c2, rfl, hown, hbel⟩
  rw [List.nil_append] at hown ⊢
  rw [HLEN.out] at hown ⊢
  have HO2 := Lib.hid hown
  have HB2 := Lib.hid (HB0.out.trans (hbel.mono HB0.out.size))
  clear hown hbel
  go_wp2_with fail
  go_ret
  exact ⟨A2, c2, by rw [HLEN.out]; rfl, by rw [HLEN.out]; exact HO2.out.mono (by simp), HB2.out⟩
end Go.Proofs.YthjnbdbbeidhgaaDoor
