/- The walk of the law WireRead. -/
import Derived.Test.YtmbelomekihdkaaWirePutLaw
namespace Go.Proofs.Ytmbelomekihdkaa
open Go.RowKit

/-- The operations: n structs of two numbers. -/
def OpsAt (w : World) (B : Nat) (A : Option Addr) (n : Nat) (f : Nat → Int × Int) : Prop :=
  ∀ i, i < n → ∃ ad, A = some ad ∧ ad.block < B ∧ w.cell? (ad.add (i * 2)) = some (.int .i64 (f i).1) ∧ w.cell? ⟨(ad.add (i * 2)).block, (ad.add (i * 2)).off + 1, none⟩ = some (.int .i64 (f i).2) ∧
    -9223372036854775808 ≤ (f i).2 ∧ (f i).2 ≤ 9223372036854775807
theorem OpsAt.below {w w' : World} {B : Nat} {A : Option Addr} {n : Nat} {f : Nat → Int × Int} (h : OpsAt w B A n f) (hb : Below B w w') : OpsAt w' B A n f := fun i hi => by
  obtain ⟨ad, e, hB, h1, h2, h3⟩ := h i hi
  exact ⟨ad, e, hB, (hb.cell (by rw [addr_block]; exact hB)).trans h1, (hb.cell (by show (ad.add _).block < B; rw [addr_block]; exact hB)).trans h2, h3⟩

theorem below_drewN' {B : Nat} {a w : World} (h : Below B a w) (n : Nat) : Below B a (w.drewN n) := ⟨h.os, h.tape, h.output, h.size, h.block⟩

theorem nz_mono (l : List UInt8) (q k : Nat) (hq : q ≤ k) (h : nz (l.take q) = true) : nz (l.take k) = true := by
  unfold nz at *
  rw [List.any_eq_true] at *
  obtain ⟨x, hx, h1⟩ := h
  refine ⟨x, ?_, h1⟩
  have : l.take q = (l.take k).take q := by rw [List.take_take, Nat.min_eq_left hq]
  rw [this] at hx
  exact List.mem_of_mem_take hx

/-- What holds of the reader at the head of a round. -/
def RdInv (bs : List UInt8) (g : Nat) (W wr : World) (a : Nat) (gd : Bool) : Prop :=
  ∃ rest, Rdr wr g rest (!gd) ∧ (gd = true → rest = bs.drop a) ∧ a ≤ bs.length ∧ Below W.heap.size W wr

theorem rest_true (bs : List UInt8) : ((restS bs true : Nat) : Int) = 0 := rfl

set_option maxRecDepth 100000 in
set_option maxHeartbeats 8000000 in
theorem wireRead_n (bs : List UInt8) (A A' : Option Addr) (n cap n' cap' : Nat) (f : Nat → Int × Int) (w : World) (hb : Byt w w.heap.size A n bs) (hops : OpsAt w w.heap.size A' n' f) (hn : n ≤ cap) (hcap : cap ≤ 9223372036854775807) (_hn' : n' ≤ cap') (_hcap' : cap' ≤ 9223372036854775807) (h40 : n ≤ 40) :
    Calls Try.prog 8 #[.slice A n cap, .slice A' n' cap'] w fun e w' => e = .returned (.bool true) ∧ Below w.heap.size w w' := by
  have HL := Lib.hid hb.len
  have HBY : Hid (∀ wr, Below w.heap.size w wr → Byt wr w.heap.size A n bs) := fun wr h => hb.below h
  have HOP : Hid (∀ wr, Below w.heap.size w wr → OpsAt wr w.heap.size A' n' f) := fun wr h => hops.below h
  clear hb hops
  go_enter Try.func8, Try.ntmps8
  go_wp2_with (go_at_call 22; refine (newReader_any bs _ _ _ w.heap.size w (HBY.out w (Below.refl _ _)) (by omega) (Nat.le_refl _)).mono ?_; rintro e w0 ⟨g, rfl, hr0, hg0, hb0⟩; have HI0 : Hid (RdInv bs g w w0 0 true) := ⟨bs, hr0, fun _ => by simp, Nat.zero_le _, hb0⟩; have HGL : Hid (w.heap.size ≤ g) := hg0; clear hr0 hg0 hb0)
  go_loopw [6, 7, 8] (fun v6 v7 v8 wr => ∃ (a i : Nat) (gd : Bool), v6 = .int .i64 a ∧ v7 = .bool gd ∧ v8 = .int .i64 i ∧ i ≤ n' ∧ i ≤ 12 ∧ RdInv bs g w wr a gd) (fun _ _ v8 _ => 12 - (intOf v8).toNat)
  case atStart => exact ⟨0, 0, true, rfl, rfl, rfl, Nat.zero_le _, by omega, HI0.out⟩
  case round =>
    obtain ⟨a, i, gd, rfl, rfl, rfl, hin, hi12, rest, hr, hrest, ha, hbl⟩ := hrel
    have HR := Lib.hid hr
    have HBL := Lib.hid hbl
    have HA := Lib.hid ha
    rw [HL.out] at ha
    have HREST := Lib.hid hrest
    clear hr hbl hrest HI0
    by_cases hi : i < n' ∧ i < 12
    · obtain ⟨hi1, hi2⟩ := hi
      obtain ⟨ad, rfl, _, hc0, hc1, hlo, hhi⟩ := HOP.out wr HBL.out i hi1
      generalize (f i).1 = kd at hc0
      generalize (f i).2 = nn at hc1 hlo hhi
      have HRR := HR
      cases gd
      · obtain ⟨rest', hrr⟩ : ∃ r, r = rest := ⟨_, rfl⟩
        subst hrr
        have HR : Hid (Rdr wr g rest' true) := HRR.out
        clear HRR HREST
        by_cases hk0 : kd = 0
        · have hkb : (kd == 0) = true := by simpa using hk0
          clear hk0
          have HBAD : Hid (true = true ∨ nn < 1 ∨ 8 < nn ∨ (rest'.length : Int) < nn) := .inl rfl
          go_wp2_with (first | (go_at_call 23; refine (num_bad g nn rest' _ wr HR.out HBAD.out).mono ?_; rintro e w1 ⟨rfl, hr1, hgr, hsz⟩; have HR1 := Lib.hid hr1; have HB1 := Lib.hid (HBL.out.trans (only_below hgr HGL.out HBL.out.size)); clear hr1 hgr hsz) | (go_at_call 24; refine (ok_any g _ _ _ HR1.out).mono ?_; rintro e w' ⟨rfl, rfl⟩) | (go_at_call 25; refine (rest_any g _ _ _ HR1.out).mono ?_; rintro e w' ⟨rfl, rfl⟩; rw [rest_true]))
          go_roundw
          case rel => exact ⟨a, i + 1, false, rfl, (by first | rfl | exact congrArg Value.bool (decide_eq_false (by omega))), by go_num, by omega, by omega, rest', HR1.out, (fun h => by cases h), HA.out, HB1.out⟩
          case measure => first | (simp [intOf]; done) | (simp [intOf]; omega)
        have hkb0 : (kd == 0) = false := by simpa using hk0
        clear hk0
        by_cases hk1 : kd = 1
        · have hkb : (kd == 1) = true := by simpa using hk1
          clear hk1
          have HBAD : Hid (true = true ∨ nn < 0 ∨ (rest'.length : Int) < nn) := .inl rfl
          go_wp2_with (first | (go_at_call 27; refine (bytes_bad g nn rest' _ wr HR.out HBAD.out).mono ?_; rintro e w1 ⟨A1, c1, rfl, hown, hr1, hgr⟩; have HO1 := Lib.hid hown; have HR0 := Lib.hid hr1; have HB0 := Lib.hid (HBL.out.trans (only_below hgr HGL.out HBL.out.size)); clear hown hr1 hgr) | (go_at_call 19; refine (eq_any _ _ _ _ _ _ _ _ _ _ w1 HO1.out.byt (Byt.nil _ 0 none) (own_le HO1.out) (by omega)).mono ?_; rintro e w2 ⟨rfl, q, rfl⟩; rw [decide_eq_true rfl]; have HR1 := Lib.hid (HR0.out.drewN q); have HB1 := Lib.hid (below_drewN' HB0.out q)) | (go_at_call 24; refine (ok_any g _ _ _ HR1.out).mono ?_; rintro e w' ⟨rfl, rfl⟩) | (go_at_call 25; refine (rest_any g _ _ _ HR1.out).mono ?_; rintro e w' ⟨rfl, rfl⟩; rw [rest_true]))
          go_roundw
          case rel => exact ⟨a, i + 1, false, rfl, (by first | rfl | exact congrArg Value.bool (decide_eq_false (by omega))), by go_num, by omega, by omega, rest', HR1.out, (fun h => by cases h), HA.out, HB1.out⟩
          case measure => first | (simp [intOf]; done) | (simp [intOf]; omega)
        have hkb1 : (kd == 1) = false := by simpa using hk1
        clear hk1
        go_wp2
        go_loop [10, 13] (fun v10 v13 => v10 = .bool false ∧ v13 = .int .i64 0) (fun _ _ => 0)
        case atStart => exact ⟨by first | rfl | exact congrArg Value.bool (decide_eq_false (by omega)), rfl⟩
        case round =>
          obtain ⟨rfl, rfl⟩ := hrel
          have HBAD : Hid (true = true ∨ nn < 0 ∨ (rest'.length : Int) < nn) := .inl rfl
          go_wp2_with (first | (go_at_call 28; refine (zeros_bad g nn rest' _ wr HR.out HBAD.out).mono ?_; rintro e w1 ⟨rfl, hr1, hgr, hsz⟩; have HR1 := Lib.hid hr1; have HB1 := Lib.hid (HBL.out.trans (only_below hgr HGL.out HBL.out.size)); clear hr1 hgr hsz) | (go_at_call 24; refine (ok_any g _ _ _ HR1.out).mono ?_; rintro e w' ⟨rfl, rfl⟩) | (go_at_call 25; refine (rest_any g _ _ _ HR1.out).mono ?_; rintro e w' ⟨rfl, rfl⟩; rw [rest_true]))
          go_roundw
          case rel => exact ⟨a, i + 1, false, rfl, (by first | rfl | exact congrArg Value.bool (decide_eq_false (by omega))), by go_num, by omega, by omega, rest', HR1.out, (fun h => by cases h), HA.out, HB1.out⟩
          case measure => first | (simp [intOf]; done) | (simp [intOf]; omega)
      · have hre : rest = bs.drop a := HREST.out rfl
        subst hre
        have HRL0 : Hid ((bs.drop a).length = n - a) := by show _ = _; rw [List.length_drop, HL.out]
        have HR : Hid (Rdr wr g (bs.drop a) false) := HRR.out
        clear HRR HREST
        by_cases hnb : nn < 0 ∨ (n : Int) - a < nn
        · have HNB : Hid (nn < 0 ∨ ((bs.drop a).length : Int) < nn) := by show _ ∨ _; rw [HRL0.out]; omega
          obtain ⟨rest', hrr⟩ : ∃ r, r = bs.drop a := ⟨_, rfl⟩
          have hrl : (rest'.length : Int) ≤ (n : Int) - a := by rw [hrr, HRL0.out]; omega
          rw [← hrr] at HR HNB
          clear hrr HRL0
          rcases hnb with hnb | hnb
          · by_cases hk0 : kd = 0
            · have hkb : (kd == 0) = true := by simpa using hk0
              clear hk0
              have HBAD : Hid (false = true ∨ nn < 1 ∨ 8 < nn ∨ (rest'.length : Int) < nn) := by first | exact .inr (.inl (by omega)) | exact .inr (.inr (.inr (by omega)))
              go_wp2_with (first | (go_at_call 23; refine (num_bad g nn rest' _ wr HR.out HBAD.out).mono ?_; rintro e w1 ⟨rfl, hr1, hgr, hsz⟩; have HR1 := Lib.hid hr1; have HB1 := Lib.hid (HBL.out.trans (only_below hgr HGL.out HBL.out.size)); clear hr1 hgr hsz) | (go_at_call 24; refine (ok_any g _ _ _ HR1.out).mono ?_; rintro e w' ⟨rfl, rfl⟩) | (go_at_call 25; refine (rest_any g _ _ _ HR1.out).mono ?_; rintro e w' ⟨rfl, rfl⟩; rw [rest_true]))
              go_roundw
              case rel => exact ⟨a, i + 1, false, rfl, (by first | rfl | exact congrArg Value.bool (decide_eq_false (by omega))), by go_num, by omega, by omega, rest', HR1.out, (fun h => by cases h), HA.out, HB1.out⟩
              case measure => first | (simp [intOf]; done) | (simp [intOf]; omega)
            have hkb0 : (kd == 0) = false := by simpa using hk0
            clear hk0
            by_cases hk1 : kd = 1
            · have hkb : (kd == 1) = true := by simpa using hk1
              clear hk1
              have HBAD : Hid (false = true ∨ nn < 0 ∨ (rest'.length : Int) < nn) := .inr (by first | exact .inl (by omega) | exact .inr (by omega))
              go_wp2_with (first | (go_at_call 27; refine (bytes_bad g nn rest' _ wr HR.out HBAD.out).mono ?_; rintro e w1 ⟨A1, c1, rfl, hown, hr1, hgr⟩; have HO1 := Lib.hid hown; have HR0 := Lib.hid hr1; have HB0 := Lib.hid (HBL.out.trans (only_below hgr HGL.out HBL.out.size)); clear hown hr1 hgr) | (go_at_call 19; refine (eq_any _ _ _ _ _ _ _ _ _ _ w1 HO1.out.byt (Byt.nil _ 0 none) (own_le HO1.out) (by omega)).mono ?_; rintro e w2 ⟨rfl, q, rfl⟩; rw [decide_eq_true rfl]; have HR1 := Lib.hid (HR0.out.drewN q); have HB1 := Lib.hid (below_drewN' HB0.out q)) | (go_at_call 24; refine (ok_any g _ _ _ HR1.out).mono ?_; rintro e w' ⟨rfl, rfl⟩) | (go_at_call 25; refine (rest_any g _ _ _ HR1.out).mono ?_; rintro e w' ⟨rfl, rfl⟩; rw [rest_true]))
              go_roundw
              case rel => exact ⟨a, i + 1, false, rfl, (by first | rfl | exact congrArg Value.bool (decide_eq_false (by omega))), by go_num, by omega, by omega, rest', HR1.out, (fun h => by cases h), HA.out, HB1.out⟩
              case measure => first | (simp [intOf]; done) | (simp [intOf]; omega)
            have hkb1 : (kd == 1) = false := by simpa using hk1
            clear hk1
            go_wp2
            go_loop [10, 13] (fun v10 v13 => v10 = .bool false ∧ v13 = .int .i64 0) (fun _ _ => 0)
            case atStart => exact ⟨by first | rfl | exact congrArg Value.bool (decide_eq_false (by omega)), rfl⟩
            case round =>
              obtain ⟨rfl, rfl⟩ := hrel
              have HBAD : Hid (false = true ∨ nn < 0 ∨ (rest'.length : Int) < nn) := .inr (by first | exact .inl (by omega) | exact .inr (by omega))
              go_wp2_with (first | (go_at_call 28; refine (zeros_bad g nn rest' _ wr HR.out HBAD.out).mono ?_; rintro e w1 ⟨rfl, hr1, hgr, hsz⟩; have HR1 := Lib.hid hr1; have HB1 := Lib.hid (HBL.out.trans (only_below hgr HGL.out HBL.out.size)); clear hr1 hgr hsz) | (go_at_call 24; refine (ok_any g _ _ _ HR1.out).mono ?_; rintro e w' ⟨rfl, rfl⟩) | (go_at_call 25; refine (rest_any g _ _ _ HR1.out).mono ?_; rintro e w' ⟨rfl, rfl⟩; rw [rest_true]))
              go_roundw
              case rel => exact ⟨a, i + 1, false, rfl, (by first | rfl | exact congrArg Value.bool (decide_eq_false (by omega))), by go_num, by omega, by omega, rest', HR1.out, (fun h => by cases h), HA.out, HB1.out⟩
              case measure => first | (simp [intOf]; done) | (simp [intOf]; omega)
          · by_cases hk0 : kd = 0
            · have hkb : (kd == 0) = true := by simpa using hk0
              clear hk0
              have HBAD : Hid (false = true ∨ nn < 1 ∨ 8 < nn ∨ (rest'.length : Int) < nn) := by first | exact .inr (.inl (by omega)) | exact .inr (.inr (.inr (by omega)))
              go_wp2_with (first | (go_at_call 23; refine (num_bad g nn rest' _ wr HR.out HBAD.out).mono ?_; rintro e w1 ⟨rfl, hr1, hgr, hsz⟩; have HR1 := Lib.hid hr1; have HB1 := Lib.hid (HBL.out.trans (only_below hgr HGL.out HBL.out.size)); clear hr1 hgr hsz) | (go_at_call 24; refine (ok_any g _ _ _ HR1.out).mono ?_; rintro e w' ⟨rfl, rfl⟩) | (go_at_call 25; refine (rest_any g _ _ _ HR1.out).mono ?_; rintro e w' ⟨rfl, rfl⟩; rw [rest_true]))
              go_roundw
              case rel => exact ⟨a, i + 1, false, rfl, (by first | rfl | exact congrArg Value.bool (decide_eq_false (by omega))), by go_num, by omega, by omega, rest', HR1.out, (fun h => by cases h), HA.out, HB1.out⟩
              case measure => first | (simp [intOf]; done) | (simp [intOf]; omega)
            have hkb0 : (kd == 0) = false := by simpa using hk0
            clear hk0
            by_cases hk1 : kd = 1
            · have hkb : (kd == 1) = true := by simpa using hk1
              clear hk1
              have HBAD : Hid (false = true ∨ nn < 0 ∨ (rest'.length : Int) < nn) := .inr (by first | exact .inl (by omega) | exact .inr (by omega))
              go_wp2_with (first | (go_at_call 27; refine (bytes_bad g nn rest' _ wr HR.out HBAD.out).mono ?_; rintro e w1 ⟨A1, c1, rfl, hown, hr1, hgr⟩; have HO1 := Lib.hid hown; have HR0 := Lib.hid hr1; have HB0 := Lib.hid (HBL.out.trans (only_below hgr HGL.out HBL.out.size)); clear hown hr1 hgr) | (go_at_call 19; refine (eq_any _ _ _ _ _ _ _ _ _ _ w1 HO1.out.byt (Byt.nil _ 0 none) (own_le HO1.out) (by omega)).mono ?_; rintro e w2 ⟨rfl, q, rfl⟩; rw [decide_eq_true rfl]; have HR1 := Lib.hid (HR0.out.drewN q); have HB1 := Lib.hid (below_drewN' HB0.out q)) | (go_at_call 24; refine (ok_any g _ _ _ HR1.out).mono ?_; rintro e w' ⟨rfl, rfl⟩) | (go_at_call 25; refine (rest_any g _ _ _ HR1.out).mono ?_; rintro e w' ⟨rfl, rfl⟩; rw [rest_true]))
              go_roundw
              case rel => exact ⟨a, i + 1, false, rfl, (by first | rfl | exact congrArg Value.bool (decide_eq_false (by omega))), by go_num, by omega, by omega, rest', HR1.out, (fun h => by cases h), HA.out, HB1.out⟩
              case measure => first | (simp [intOf]; done) | (simp [intOf]; omega)
            have hkb1 : (kd == 1) = false := by simpa using hk1
            clear hk1
            go_wp2
            go_loop [10, 13] (fun v10 v13 => v10 = .bool false ∧ v13 = .int .i64 0) (fun _ _ => 0)
            case atStart => exact ⟨by first | rfl | exact congrArg Value.bool (decide_eq_false (by omega)), rfl⟩
            case round =>
              obtain ⟨rfl, rfl⟩ := hrel
              have HBAD : Hid (false = true ∨ nn < 0 ∨ (rest'.length : Int) < nn) := .inr (by first | exact .inl (by omega) | exact .inr (by omega))
              go_wp2_with (first | (go_at_call 28; refine (zeros_bad g nn rest' _ wr HR.out HBAD.out).mono ?_; rintro e w1 ⟨rfl, hr1, hgr, hsz⟩; have HR1 := Lib.hid hr1; have HB1 := Lib.hid (HBL.out.trans (only_below hgr HGL.out HBL.out.size)); clear hr1 hgr hsz) | (go_at_call 24; refine (ok_any g _ _ _ HR1.out).mono ?_; rintro e w' ⟨rfl, rfl⟩) | (go_at_call 25; refine (rest_any g _ _ _ HR1.out).mono ?_; rintro e w' ⟨rfl, rfl⟩; rw [rest_true]))
              go_roundw
              case rel => exact ⟨a, i + 1, false, rfl, (by first | rfl | exact congrArg Value.bool (decide_eq_false (by omega))), by go_num, by omega, by omega, rest', HR1.out, (fun h => by cases h), HA.out, HB1.out⟩
              case measure => first | (simp [intOf]; done) | (simp [intOf]; omega)
        obtain ⟨k, rfl⟩ := Int.eq_ofNat_of_zero_le (by omega : 0 ≤ nn)
        have hkm : a + k ≤ n := by omega
        have HKL : Hid (k ≤ (bs.drop a).length) := by show _ ≤ _; rw [HRL0.out]; omega
        have HAK : Hid (a + k ≤ bs.length) := by show _ ≤ _; rw [HL.out]; exact hkm
        have HRL : Hid (((restS ((bs.drop a).drop k) false : Nat) : Int) = (n : Int) - (a + k)) := by show _ = _; simp only [restS, Bool.false_eq_true, if_false, List.length_drop]; rw [HL.out]; omega
        have HTL : Hid (((bs.drop a).take k).length = k) := by show _ = _; rw [List.length_take, Nat.min_eq_left HKL.out]
        have HCUT : Hid (∀ w1, Below w.heap.size w w1 → Byt w1 w.heap.size (if cap = a then A else A.map (·.add a)) k ((bs.drop a).take k)) := fun w1 h => ((HBY.out w1 h).cut (cap := cap) (by omega) (by omega)).take (by omega)
        clear hnb
        by_cases hk0 : kd = 0
        · have hkb : (kd == 0) = true := by simpa using hk0
          clear hk0
          by_cases h18 : 1 ≤ k ∧ k ≤ 8
          · obtain ⟨hk1, hk8⟩ := h18
            have hca : ¬ cap = a := by omega
            have HSL := Lib.hid (HCUT.out wr HBL.out)
            rw [if_neg hca] at HSL
            obtain ⟨v, hv⟩ : ∃ v, num ((bs.drop a).take k) = v := ⟨_, rfl⟩
            have HV := Lib.hid hv
            clear hv HCUT
            go_wp2_with (first | (go_at_call 26; refine (refNum_any _ _ _ _ _ wr HSL.out hk8).mono ?_; rintro e w' ⟨rfl, rfl⟩; rw [HV.out]) | (go_at_call 23; refine (num_ok g k (bs.drop a) wr HR.out HKL.out hk1 hk8).mono ?_; rintro e w1 ⟨rfl, hr1, hgr, hsz⟩; rw [HV.out]; have HR1 := Lib.hid hr1; have HB1 := Lib.hid (HBL.out.trans (only_below hgr HGL.out HBL.out.size)); clear hr1 hgr hsz) | (go_at_call 24; refine (ok_any g _ _ _ HR1.out).mono ?_; rintro e w' ⟨rfl, rfl⟩) | (go_at_call 25; refine (rest_any g _ _ _ HR1.out).mono ?_; rintro e w' ⟨rfl, rfl⟩; rw [HRL.out]))
            go_roundw
            case rel => exact ⟨a + k, i + 1, true, by go_num, (by first | rfl | exact congrArg Value.bool (decide_eq_true (by omega))), by go_num, by omega, by omega, _, HR1.out, fun _ => List.drop_drop, HAK.out, HB1.out⟩
            case measure => first | (simp [intOf]; done) | (simp [intOf]; omega)
          · have h18' : (k : Int) < 1 ∨ 8 < (k : Int) := by omega
            obtain ⟨rest', hrr⟩ : ∃ r, r = bs.drop a := ⟨_, rfl⟩
            rw [← hrr] at HR
            clear h18 hrr HRL0 HKL HAK HRL HTL HCUT
            rcases h18' with h18 | h18
            · have HBAD : Hid (false = true ∨ (k : Int) < 1 ∨ 8 < (k : Int) ∨ (rest'.length : Int) < (k : Int)) := .inr (.inl h18)
              go_wp2_with (first | (go_at_call 23; refine (num_bad g (k : Int) rest' _ wr HR.out HBAD.out).mono ?_; rintro e w1 ⟨rfl, hr1, hgr, hsz⟩; have HR1 := Lib.hid hr1; have HB1 := Lib.hid (HBL.out.trans (only_below hgr HGL.out HBL.out.size)); clear hr1 hgr hsz) | (go_at_call 24; refine (ok_any g _ _ _ HR1.out).mono ?_; rintro e w' ⟨rfl, rfl⟩) | (go_at_call 25; refine (rest_any g _ _ _ HR1.out).mono ?_; rintro e w' ⟨rfl, rfl⟩; rw [rest_true]))
              go_roundw
              case rel => exact ⟨a, i + 1, false, rfl, (by first | rfl | exact congrArg Value.bool (decide_eq_false (by omega))), by go_num, by omega, by omega, rest', HR1.out, (fun h => by cases h), HA.out, HB1.out⟩
              case measure => first | (simp [intOf]; done) | (simp [intOf]; omega)
            · have HBAD : Hid (false = true ∨ (k : Int) < 1 ∨ 8 < (k : Int) ∨ (rest'.length : Int) < (k : Int)) := .inr (.inr (.inl h18))
              go_wp2_with (first | (go_at_call 23; refine (num_bad g (k : Int) rest' _ wr HR.out HBAD.out).mono ?_; rintro e w1 ⟨rfl, hr1, hgr, hsz⟩; have HR1 := Lib.hid hr1; have HB1 := Lib.hid (HBL.out.trans (only_below hgr HGL.out HBL.out.size)); clear hr1 hgr hsz) | (go_at_call 24; refine (ok_any g _ _ _ HR1.out).mono ?_; rintro e w' ⟨rfl, rfl⟩) | (go_at_call 25; refine (rest_any g _ _ _ HR1.out).mono ?_; rintro e w' ⟨rfl, rfl⟩; rw [rest_true]))
              go_roundw
              case rel => exact ⟨a, i + 1, false, rfl, (by first | rfl | exact congrArg Value.bool (decide_eq_false (by omega))), by go_num, by omega, by omega, rest', HR1.out, (fun h => by cases h), HA.out, HB1.out⟩
              case measure => first | (simp [intOf]; done) | (simp [intOf]; omega)
        have hkb0 : (kd == 0) = false := by simpa using hk0
        clear hk0
        by_cases hk1 : kd = 1
        · have hkb : (kd == 1) = true := by simpa using hk1
          clear hk1
          by_cases hca0 : a = cap
          · subst hca0
            have HSF := HCUT
            rw [if_pos rfl] at HSF
            go_wp2_with (first | (go_at_call 27; refine (bytes_ok g k (bs.drop a) wr HR.out HKL.out (by omega)).mono ?_; rintro e w1 ⟨A1, c1, rfl, hown, hr1, hgr⟩; rw [HTL.out] at hown; rw [HTL.out]; have HO1 := Lib.hid hown; have HR0 := Lib.hid hr1; have HB0 := Lib.hid (HBL.out.trans (only_below hgr HGL.out HBL.out.size)); clear hown hr1 hgr) | (go_at_call 19; with_reducible refine (eq_any _ _ _ _ _ _ _ _ _ _ w1 HO1.out.byt (HSF.out w1 HB0.out) (own_le HO1.out) (by omega)).mono ?_; rintro e w2 ⟨rfl, q, rfl⟩; rw [decide_eq_true rfl]; have HR1 := Lib.hid (HR0.out.drewN q); have HB1 := Lib.hid (below_drewN' HB0.out q)) | (go_at_call 24; refine (ok_any g _ _ _ HR1.out).mono ?_; rintro e w' ⟨rfl, rfl⟩) | (go_at_call 25; refine (rest_any g _ _ _ HR1.out).mono ?_; rintro e w' ⟨rfl, rfl⟩; rw [HRL.out]))
            go_roundw
            case rel => exact ⟨a + k, i + 1, true, by go_num, (by first | rfl | exact congrArg Value.bool (decide_eq_true (by omega))), by go_num, by omega, by omega, _, HR1.out, fun _ => List.drop_drop, HAK.out, HB1.out⟩
            case measure => first | (simp [intOf]; done) | (simp [intOf]; omega)
          · have hca : ¬ cap = a := fun h => hca0 h.symm
            clear hca0
            have HSF := HCUT
            rw [if_neg hca] at HSF
            go_wp2_with (first | (go_at_call 27; refine (bytes_ok g k (bs.drop a) wr HR.out HKL.out (by omega)).mono ?_; rintro e w1 ⟨A1, c1, rfl, hown, hr1, hgr⟩; rw [HTL.out] at hown; rw [HTL.out]; have HO1 := Lib.hid hown; have HR0 := Lib.hid hr1; have HB0 := Lib.hid (HBL.out.trans (only_below hgr HGL.out HBL.out.size)); clear hown hr1 hgr) | (go_at_call 19; with_reducible refine (eq_any _ _ _ _ _ _ _ _ _ _ w1 HO1.out.byt (HSF.out w1 HB0.out) (own_le HO1.out) (by omega)).mono ?_; rintro e w2 ⟨rfl, q, rfl⟩; rw [decide_eq_true rfl]; have HR1 := Lib.hid (HR0.out.drewN q); have HB1 := Lib.hid (below_drewN' HB0.out q)) | (go_at_call 24; refine (ok_any g _ _ _ HR1.out).mono ?_; rintro e w' ⟨rfl, rfl⟩) | (go_at_call 25; refine (rest_any g _ _ _ HR1.out).mono ?_; rintro e w' ⟨rfl, rfl⟩; rw [HRL.out]))
            go_roundw
            case rel => exact ⟨a + k, i + 1, true, by go_num, (by first | rfl | exact congrArg Value.bool (decide_eq_true (by omega))), by go_num, by omega, by omega, _, HR1.out, fun _ => List.drop_drop, HAK.out, HB1.out⟩
            case measure => first | (simp [intOf]; done) | (simp [intOf]; omega)
        have hkb1 : (kd == 1) = false := by simpa using hk1
        clear hk1
        go_wp2
        go_loop [10, 13] (fun v10 v13 => ∃ q : Nat, q ≤ k ∧ v13 = .int .i64 q ∧ v10 = .bool (!nz ((bs.drop a).take q))) (fun _ v13 => k - (intOf v13).toNat)
        case atStart => exact ⟨0, Nat.zero_le _, rfl, by first | rfl | exact congrArg Value.bool (decide_eq_true (by omega))⟩
        case round =>
          obtain ⟨q, hq, rfl, rfl⟩ := hrel
          cases hz : nz ((bs.drop a).take q)
          · by_cases hqk : q < k
            · obtain ⟨ad2, x, rfl, _, hx, hxc⟩ := (HBY.out wr HBL.out).get (k := a + q) (by omega)
              have HS : Hid (nz ((bs.drop a).take (q + 1)) = (x != 0)) := by
                have hql : q < (bs.drop a).length := Nat.lt_of_lt_of_le hqk HKL.out
                show _ = _
                rw [List.take_succ_eq_append_getElem hql, nz_snoc, hz]
                have : (bs.drop a)[q]? = some x := by rw [List.getElem?_drop]; exact hx
                rw [List.getElem?_eq_getElem hql] at this
                injection this with this
                rw [this]; rfl
              clear hx
              by_cases hx0 : x = 0
              · have hxb : ((x.toNat : Int) != 0) = false := by subst hx0; rfl
                have HS2 : Hid (nz ((bs.drop a).take (q + 1)) = false) := by show _ = _; rw [HS.out, hx0]; rfl
                clear hx0 hz
                go_wp2
                go_round
                case rel => exact ⟨q + 1, by omega, by go_num, by rw [HS2.out]⟩
                case measure => first | (simp [intOf]; done) | (simp [intOf]; omega)
              · have hxb : ((x.toNat : Int) != 0) = true := by
                  simp only [bne_iff_ne, ne_eq]
                  intro h
                  exact hx0 (UInt8.toNat_inj.1 (by simpa using h))
                have HS2 : Hid (nz ((bs.drop a).take (q + 1)) = true) := by show _ = _; rw [HS.out]; simp [hx0]
                clear hx0 hz
                go_wp2
                go_round
                case rel => exact ⟨q + 1, by omega, by go_num, by rw [HS2.out]⟩
                case measure => first | (simp [intOf]; done) | (simp [intOf]; omega)
            · obtain rfl : q = k := by omega
              have HNZ : Hid (nz ((bs.drop a).take q) = false) := hz
              clear hz
              go_wp2_with (first | (go_at_call 28; refine (zeros_ok g q (bs.drop a) wr HR.out HKL.out).mono ?_; rintro e w1 ⟨rfl, hr1, hgr, hsz⟩; rw [HNZ.out] at hr1; have HR1 := Lib.hid hr1; have HB1 := Lib.hid (HBL.out.trans (only_below hgr HGL.out HBL.out.size)); clear hr1 hgr hsz) | (go_at_call 24; refine (ok_any g _ _ _ HR1.out).mono ?_; rintro e w' ⟨rfl, rfl⟩) | (go_at_call 25; refine (rest_any g _ _ _ HR1.out).mono ?_; rintro e w' ⟨rfl, rfl⟩; rw [HRL.out]))
              go_roundw
              case rel => exact ⟨a + q, i + 1, true, by go_num, (by first | rfl | exact congrArg Value.bool (decide_eq_true (by omega))), by go_num, by omega, by omega, _, HR1.out, fun _ => List.drop_drop, HAK.out, HB1.out⟩
              case measure => first | (simp [intOf]; done) | (simp [intOf]; omega)
          · have HNZ : Hid (nz ((bs.drop a).take k) = true) := nz_mono _ q k hq hz
            clear hz
            go_wp2_with (first | (go_at_call 28; refine (zeros_ok g k (bs.drop a) wr HR.out HKL.out).mono ?_; rintro e w1 ⟨rfl, hr1, hgr, hsz⟩; rw [HNZ.out] at hr1; have HR1 := Lib.hid hr1; have HB1 := Lib.hid (HBL.out.trans (only_below hgr HGL.out HBL.out.size)); clear hr1 hgr hsz) | (go_at_call 24; refine (ok_any g _ _ _ HR1.out).mono ?_; rintro e w' ⟨rfl, rfl⟩) | (go_at_call 25; refine (rest_any g _ _ _ HR1.out).mono ?_; rintro e w' ⟨rfl, rfl⟩; rw [rest_true]))
            go_roundw
            case rel => exact ⟨a, i + 1, false, rfl, (by first | rfl | exact congrArg Value.bool (decide_eq_false (by omega))), by go_num, by omega, by omega, _, HR1.out, (fun h => by cases h), HA.out, HB1.out⟩
            case measure => first | (simp [intOf]; done) | (simp [intOf]; omega)
    · have hi' : n' ≤ i ∨ i = 12 := by omega
      have HI := Lib.hid hi'
      clear hi
      by_cases hin2 : i < n'
      all_goals
        have h12 : ¬ (i < n' ∧ i < 12) := by have := HI.out; omega
        clear hi'
        go_wp2_with (go_at_call 18; refine (wireAwake_any _).mono ?_; rintro e w1 ⟨rfl, hb1⟩; have HW1 := Lib.hid (HBL.out.trans (hb1.mono HBL.out.size)); clear hb1)
        go_ret
        exact ⟨rfl, HW1.out⟩

end Go.Proofs.Ytmbelomekihdkaa
