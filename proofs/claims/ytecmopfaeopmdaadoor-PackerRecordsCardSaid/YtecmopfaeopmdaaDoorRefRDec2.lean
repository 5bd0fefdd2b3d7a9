/- The walk of the reference's Decode of records: the numbers are read. -/
import Derived.Test.YtecmopfaeopmdaaDoorRefRDec
import Derived.Deep.DeepCutAuto
import Derived.Deep.RegionHeld3
import Derived.IntWalk
namespace Go.Proofs.YtecmopfaeopmdaaDoor
open Go.RowKit

theorem num_at {p : List UInt8} {k : Nat} {b : UInt8} (h : p[k]? = some b) : num ((p.drop k).take 1) = b.toNat := by
  have h1 : (p.drop k)[0]? = some b := by rw [List.getElem?_drop]; exact h
  cases hd : p.drop k with
  | nil => rw [hd] at h1; cases h1
  | cons x l => rw [hd] at h1; injection h1 with h1; subst h1; simp [num]

/-- The result's block and the record's, behind each other; the record's holds these numbers. -/
structure Rel2 (w wx : World) (ki ex : Int) : Prop where
  bel : Below w.heap.size w wx
  belR : Below (w.heap.size + 1) (w.alloc (.cells #[.int .i64 0, .slice none 0 0, .slice none 0 0, .int .i64 0] 33)) wx
  box : BoxR wx (w.heap.size + 1) ki none 0 0 none 0 0 ex
  frz : ∀ j, wx.frozen? ⟨w.heap.size + 1, j, none⟩ = false
  size : wx.heap.size = w.heap.size + 1 + 1
theorem Rel2.new (w : World) (ki ex : Int) : Rel2 w ((w.alloc (.cells #[.int .i64 0, .slice none 0 0, .slice none 0 0, .int .i64 0] 33)).alloc (.cells #[.int .i64 ki, .slice none 0 0, .slice none 0 0, .int .i64 ex] 33)).drew ki ex := by
  have hb := BoxR.new (w.alloc (.cells #[.int .i64 0, .slice none 0 0, .slice none 0 0, .int .i64 0] 33)) 33 ki ex none none 0 0 0 0
  rw [World.size_alloc] at hb
  have hf := heap_alloc_new (w.alloc (.cells #[.int .i64 0, .slice none 0 0, .slice none 0 0, .int .i64 0] 33)) (.cells #[.int .i64 ki, .slice none 0 0, .slice none 0 0, .int .i64 ex] 33)
  rw [World.size_alloc] at hf
  exact ⟨Below.drew (Below.alloc (Below.alloc (Below.refl _ _) (Nat.le_refl _) _) (by simp) _), Below.drew (Below.alloc (Below.refl _ _) (by simp) _), hb, fun j => frozen_of_row ((w.alloc (.cells #[.int .i64 0, .slice none 0 0, .slice none 0 0, .int .i64 0] 33)).alloc (.cells #[.int .i64 ki, .slice none 0 0, .slice none 0 0, .int .i64 ex] 33)) _ j _ _ hf, by simp⟩
theorem Rel2.drew {w wx : World} {ki ex : Int} (h : Rel2 w wx ki ex) : Rel2 w wx.drew ki ex := ⟨Below.drew h.bel, Below.drew h.belR, h.box, h.frz, h.size⟩
theorem Rel2.set {w wx v' : World} {ki ex ki' ex' : Int} (h : Rel2 w wx ki ex) (hs : BoxR v' (w.heap.size + 1) ki' none 0 0 none 0 0 ex' ∧ v'.heap.size = wx.heap.size ∧ ∀ B, B ≤ w.heap.size + 1 → Below B wx v') (hf : ∀ j, v'.frozen? ⟨w.heap.size + 1, j, none⟩ = wx.frozen? ⟨w.heap.size + 1, j, none⟩) : Rel2 w v' ki' ex' :=
  ⟨h.bel.trans (hs.2.2 _ (by omega)), h.belR.trans (hs.2.2 _ (Nat.le_refl _)), hs.1, fun j => (hf j).trans (h.frz j), hs.2.1.trans h.size⟩

theorem box_f1 {v : World} {g : Nat} {ki ex : Int} (h : BoxR v g ki none 0 0 none 0 0 ex) (A : Option Addr) (n c : Nat) : BoxR (v.setCell ⟨g, 1, none⟩ (.slice A n c)) g ki A n c none 0 0 ex := by
  have ot : ∀ (j : Nat) (x : Value), 1 ≠ j → (v.setCell ⟨g, 1, none⟩ x).cell? ⟨g, j, none⟩ = v.cell? ⟨g, j, none⟩ := fun j x hij => World.cell?_setCell_other _ _ _ _ (fun e => by injection e; omega)
  exact ⟨(ot 0 _ (by decide)).trans h.1, World.cell?_setCell_same _ _ _ h.2.1, (ot 2 _ (by decide)).trans h.2.2.1, (ot 3 _ (by decide)).trans h.2.2.2⟩
theorem box_f2 {v : World} {g : Nat} {ki ex : Int} {Ak : Option Addr} {nk ck : Nat} (h : BoxR v g ki Ak nk ck none 0 0 ex) (A : Option Addr) (n c : Nat) : BoxR (v.setCell ⟨g, 2, none⟩ (.slice A n c)) g ki Ak nk ck A n c ex := by
  have ot : ∀ (j : Nat) (x : Value), 2 ≠ j → (v.setCell ⟨g, 2, none⟩ x).cell? ⟨g, j, none⟩ = v.cell? ⟨g, j, none⟩ := fun j x hij => World.cell?_setCell_other _ _ _ _ (fun e => by injection e; omega)
  exact ⟨(ot 0 _ (by decide)).trans h.1, (ot 1 _ (by decide)).trans h.2.1, World.cell?_setCell_same _ _ _ h.2.2.1, (ot 3 _ (by decide)).trans h.2.2.2⟩

set_option maxRecDepth 100000 in
set_option maxHeartbeats 8000000 in
theorem refRdec_good (v s o : Int) (bs : List UInt8) (A : Option Addr) (n cap B : Nat) (w : World) (hb : Byt w B A n bs) (hn : n ≤ cap) (hcap : cap ≤ 9223372036854775807) (hB : B ≤ w.heap.size) (hs : s ≤ 9223372036854775807) (r : Option (Rcd × Nat)) (hr : rdec v s o bs = r) (hv : v = 1 ∨ v = 2) (hs0 : 0 ≤ s) (ho0 : 0 ≤ o) (ho1 : o ≤ 2147483647) (h16 : 16 ≤ n) :
    Calls Tryd.prog 27 #[.int .i64 v, .int .i64 s, .int .i64 o, .slice A n cap] w (RDecRes r w) := by
  have hbl := hb.len
  obtain ⟨ad, b1, rfl, hadB, hb1, q1⟩ := hb.get (show 1 < n by omega)
  obtain ⟨ad', b2, had, _, hb2, q2⟩ := hb.get (show 2 < n by omega)
  injection had with had
  subst had
  have e1 : ad.add 1 = ⟨ad.block, ad.off + 1, none⟩ := by unfold Addr.add; simp
  have e2 : ad.add 2 = ⟨ad.block, ad.off + 2, none⟩ := by unfold Addr.add; simp
  rw [e1] at q1
  rw [e2] at q2
  have HY : Hid (∀ w', Below w.heap.size w w' → Byt w' w.heap.size (some ad) n bs) := fun w' hw => (hb.more hB).below hw
  have hadw : ad.block < w.heap.size := Nat.lt_of_lt_of_le hadB hB
  have HQ1 : Hid (∀ w', Below w.heap.size w w' → w'.cell? ⟨ad.block, ad.off + 1, none⟩ = some (.int .u8 (b1.toNat : Int))) := fun w' hw => (hw.cell (by exact hadw)).trans q1
  have HQ2 : Hid (∀ w', Below w.heap.size w w' → w'.cell? ⟨ad.block, ad.off + 2, none⟩ = some (.int .u8 (b2.toNat : Int))) := fun w' hw => (hw.cell (by exact hadw)).trans q2
  obtain ⟨n84, hn84⟩ : ∃ x, num ((bs.drop 8).take 4) = x := ⟨_, rfl⟩
  obtain ⟨n44, hn44⟩ : ∃ x, num ((bs.drop 4).take 4) = x := ⟨_, rfl⟩
  obtain ⟨n75, hn75⟩ : ∃ x, num ((bs.drop 7).take 5) = x := ⟨_, rfl⟩
  obtain ⟨n33, hn33⟩ : ∃ x, num ((bs.drop 3).take 3) = x := ⟨_, rfl⟩
  have hl84 : n84 < 281474976710656 := by rw [← hn84]; exact take_lt (by decide)
  have HN84 : Hid (∀ w' c, Below w.heap.size w w' → Calls Tryd.prog 39 #[.slice (some ⟨ad.block, ad.off + 8, none⟩) 4 c] w' fun e w'' => e = .returned (.int .u64 (n84 : Int)) ∧ w' = w'') := fun w' c hw => by
    have h1 := ((HY.out w' hw).cut (k := 8) (cap := cap) (by omega) hn).take (k := 4) (by omega)
    rw [if_neg (by omega), show Option.map (fun x => x.add 8) (some ad) = some ⟨ad.block, ad.off + 8, none⟩ from by rw [Option.map_some]; unfold Addr.add; simp] at h1
    have h2 := refNum_any _ _ 4 c w.heap.size w' h1 (by decide)
    rwa [hn84] at h2
  have hl44 : n44 < 281474976710656 := by rw [← hn44]; exact take_lt (by decide)
  have HN44 : Hid (∀ w' c, Below w.heap.size w w' → Calls Tryd.prog 39 #[.slice (some ⟨ad.block, ad.off + 4, none⟩) 4 c] w' fun e w'' => e = .returned (.int .u64 (n44 : Int)) ∧ w' = w'') := fun w' c hw => by
    have h1 := ((HY.out w' hw).cut (k := 4) (cap := cap) (by omega) hn).take (k := 4) (by omega)
    rw [if_neg (by omega), show Option.map (fun x => x.add 4) (some ad) = some ⟨ad.block, ad.off + 4, none⟩ from by rw [Option.map_some]; unfold Addr.add; simp] at h1
    have h2 := refNum_any _ _ 4 c w.heap.size w' h1 (by decide)
    rwa [hn44] at h2
  have hl75 : n75 < 281474976710656 := by rw [← hn75]; exact take_lt (by decide)
  have HN75 : Hid (∀ w' c, Below w.heap.size w w' → Calls Tryd.prog 39 #[.slice (some ⟨ad.block, ad.off + 7, none⟩) 5 c] w' fun e w'' => e = .returned (.int .u64 (n75 : Int)) ∧ w' = w'') := fun w' c hw => by
    have h1 := ((HY.out w' hw).cut (k := 7) (cap := cap) (by omega) hn).take (k := 5) (by omega)
    rw [if_neg (by omega), show Option.map (fun x => x.add 7) (some ad) = some ⟨ad.block, ad.off + 7, none⟩ from by rw [Option.map_some]; unfold Addr.add; simp] at h1
    have h2 := refNum_any _ _ 5 c w.heap.size w' h1 (by decide)
    rwa [hn75] at h2
  have hl33 : n33 < 281474976710656 := by rw [← hn33]; exact take_lt (by decide)
  have HN33 : Hid (∀ w' c, Below w.heap.size w w' → Calls Tryd.prog 39 #[.slice (some ⟨ad.block, ad.off + 3, none⟩) 3 c] w' fun e w'' => e = .returned (.int .u64 (n33 : Int)) ∧ w' = w'') := fun w' c hw => by
    have h1 := ((HY.out w' hw).cut (k := 3) (cap := cap) (by omega) hn).take (k := 3) (by omega)
    rw [if_neg (by omega), show Option.map (fun x => x.add 3) (some ad) = some ⟨ad.block, ad.off + 3, none⟩ from by rw [Option.map_some]; unfold Addr.add; simp] at h1
    have h2 := refNum_any _ _ 3 c w.heap.size w' h1 (by decide)
    rwa [hn33] at h2
  have hx1 := b1.toNat_lt
  have hx2 := b2.toNat_lt
  have hA1 : ∀ i : Int, i = 1 → True := fun _ _ => trivial
  obtain ⟨ki, ex, nk, nv, hrd, hd1, hd2, lki, lex, lnk, lnv⟩ : ∃ ki ex nk nv, rread v bs = (ki, ex, nk, nv) ∧ (v = 1 → ki = b1.toNat ∧ ex = n84 ∧ nk = b2.toNat ∧ nv = n44) ∧ (v = 2 → ki = b2.toNat / 16 ∧ ex = n75 ∧ nk = b1.toNat ∧ nv = n33) ∧ ki < 256 ∧ ex < 281474976710656 ∧ nk < 256 ∧ nv < 281474976710656 := by
    rcases hv with rfl | rfl
    · exact ⟨b1.toNat, n84, b2.toNat, n44, by unfold rread; rw [if_pos rfl, num_at hb1, num_at hb2, hn84, hn44], fun _ => ⟨rfl, rfl, rfl, rfl⟩, fun h => absurd h (by decide), by omega, by omega, by omega, by omega⟩
    · exact ⟨b2.toNat / 16, n75, b1.toNat, n33, by unfold rread; rw [if_neg (by decide), num_at hb1, num_at hb2, hn75, hn33], fun h => absurd h (by decide), fun _ => ⟨rfl, rfl, rfl, rfl⟩, by omega, by omega, by omega, by omega⟩
  clear hA1
  have HD1 := Lib.hid hd1
  have HD2 := Lib.hid hd2
  have HRD := Lib.hid hrd
  have HR := Lib.hid hr
  have HV12 := Lib.hid hv
  have HBLEN := Lib.hid hbl
  have wb1 : IntKind.i64.wrap (b1.toNat : Int) = (b1.toNat : Int) := IntWalk.i64_in _ (by omega)
  have wb2 : IntKind.i64.wrap (b2.toNat : Int) = (b2.toNat : Int) := IntWalk.i64_in _ (by omega)
  have w84 : IntKind.i64.wrap (n84 : Int) = (n84 : Int) := IntWalk.i64_in _ (by omega)
  have w44 : IntKind.i64.wrap (n44 : Int) = (n44 : Int) := IntWalk.i64_in _ (by omega)
  have w75 : IntKind.i64.wrap (n75 : Int) = (n75 : Int) := IntWalk.i64_in _ (by omega)
  have w33 : IntKind.i64.wrap (n33 : Int) = (n33 : Int) := IntWalk.i64_in _ (by omega)
  have wq2 : IntKind.i64.wrap ((b2.toNat : Int) / 16) = (b2.toNat : Int) / 16 := IntWalk.i64_in _ (by omega)
  have hc16 : (16 : Int) ≤ (cap : Int) := by omega
  have hni : ¬ (n : Int) < 16 := by omega
  have hc8 : ¬ cap = 8 := by omega
  have hc4 : ¬ cap = 4 := by omega
  have hc7 : ¬ cap = 7 := by omega
  have hc3 : ¬ cap = 3 := by omega
  have i12 : (12 : Int) ≤ (cap : Int) := by omega
  have i8 : (8 : Int) ≤ (cap : Int) := by omega
  have i6 : (6 : Int) ≤ (cap : Int) := by omega
  have i1n : (1 : Int) < (n : Int) := by omega
  have i2n : (2 : Int) < (n : Int) := by omega
  have HB0 : Hid (Below w.heap.size w (w.alloc (.cells #[.int .i64 0, .slice none 0 0, .slice none 0 0, .int .i64 0] 33))) := (Below.refl _ _).alloc (Nat.le_refl _) _
  clear hb hB hbl hb1 hb2 q1 q2 e1 e2 hn84 hn44 hn75 hn33 hrd hd1 hd2 hr hv hadB
  go_enter Tryd.func27, Tryd.ntmps27
  go_upto_region 1 with fail
  go_cut [37] (fun t wx => t = .bool false ∧ wx = w.alloc (.cells #[.int .i64 0, .slice none 0 0, .slice none 0 0, .int .i64 0] 33))
  case first =>
    rcases HV12.out with rfl | rfl
    all_goals
      go_wp2_with fail
      (try go_simp)
      go_meet
      exact ⟨by simp; omega, rfl⟩
  case rest =>
    obtain ⟨rfl, rfl⟩ := hcut
    go_upto_region 3 with fail
    have k1 := HQ1.out _ HB0.out
    go_cut [11] (fun p wx => p = .pointer (some ⟨w.heap.size + 1, 0, none⟩) ∧ Rel2 w wx (b1.toNat : Int) (n84 : Int))
    case first =>
      go_region_held3 (fun w' => w'.cell? ⟨ad.block, ad.off + 1, none⟩ = some (.int .u8 (b1.toNat : Int))) (go_keep) (first
        | (go_at_call 39; refine (HN84.out _ _ ?_).mono ?_; (repeat (first | with_reducible exact HB0.out | with_reducible refine Below.drew ?_ | with_reducible refine Below.alloc ?_ (by simp) _)); rintro e w' ⟨rfl, rfl⟩))
      all_goals
        go_wp2_with fail
        (try go_simp)
        go_meet
        exact ⟨rfl, Rel2.new w _ _⟩
    case rest =>
      obtain ⟨rfl, hrel⟩ := hcut
      obtain ⟨wA, hwA⟩ : ∃ x, x = wc := ⟨_, rfl⟩
      subst hwA
      have HRA := Lib.hid hrel
      have HBA : Hid (Below w.heap.size w wA) := hrel.bel
      clear hrel k1
      go_upto_region 4 with fail
      have k2 := HQ2.out _ HBA.out
      go_cut [12, 13] (fun x y wx => x = .int .i64 (b2.toNat : Int) ∧ y = .int .i64 (n44 : Int) ∧ wx = wA.drew)
      case first =>
        go_region_held3 (fun w' => w'.cell? ⟨ad.block, ad.off + 2, none⟩ = some (.int .u8 (b2.toNat : Int))) (go_keep) (first
          | (go_at_call 39; refine (HN44.out _ _ (Below.drew HBA.out)).mono ?_; rintro e w' ⟨rfl, rfl⟩))
        all_goals
          go_wp2_with fail
          (try go_simp)
          go_meet
          exact ⟨rfl, rfl, rfl⟩
      case rest =>
        obtain ⟨rfl, rfl, rfl⟩ := hcut
        have HRB : Hid (Rel2 w wA.drew (b1.toNat : Int) (n84 : Int)) := HRA.out.drew
        have HBB : Hid (Below w.heap.size w wA.drew) := Below.drew HBA.out
        clear k2
        go_upto_if 57 with fail
        go_cut [12, 13] (fun x y wx => x = .int .i64 (nk : Int) ∧ y = .int .i64 (nv : Int) ∧ Rel2 w wx (ki : Int) (ex : Int))
        case first =>
          rcases HV12.out with rfl | rfl
          · obtain ⟨rfl, rfl, rfl, rfl⟩ := HD1.out rfl
            go_wp2_with fail
            (try go_simp)
            go_meet
            exact ⟨rfl, rfl, HRB.out⟩
          · obtain ⟨rfl, rfl, rfl, rfl⟩ := HD2.out rfl
            go_wp2_with fail
            obtain ⟨x0, x1, x2, x3⟩ := HRA.out.box
            have f0 := HRA.out.frz 0
            have f1 := HRA.out.frz 1
            have f2 := HRA.out.frz 2
            have f3 := HRA.out.frz 3
            have k2 := HQ2.out _ HBA.out
            have hgen : ∀ (u : World) (j : Nat) (x : Value), (u.setCell ⟨w.heap.size + 1, j, none⟩ x).cell? ⟨ad.block, ad.off + 2, none⟩ = u.cell? ⟨ad.block, ad.off + 2, none⟩ := fun u j x => World.cell?_setCell_other _ _ _ _ (fun e => by injection e; omega)
            have HS := Lib.hid (box_set (ki := (b2.toNat : Int) / 16) (ex := (ex : Int)) (Ak := none) (Av := none) (nk := 0) (ck := 0) (nv := 0) (cv := 0) HRA.out.box _ rfl)
            have HRS := Lib.hid ((HRA.out.set HS.out (fun j => by simp only [World.frozen?_setCell])).drew.drew)
            have hgen1 : ∀ (u : World) (j : Nat) (x : Value), (u.setCell ⟨w.heap.size + 1, j, none⟩ x).cell? ⟨ad.block, ad.off + 1, none⟩ = u.cell? ⟨ad.block, ad.off + 1, none⟩ := fun u j x => World.cell?_setCell_other _ _ _ _ (fun e => by injection e; omega)
            have k1 := HQ1.out _ HBA.out
            go_region_held3 (fun w' => w'.cell? ⟨ad.block, ad.off + 2, none⟩ = some (.int .u8 (b2.toNat : Int))) (go_keep) (first
              | (go_at_call 39; refine (HN75.out _ _ (Below.drew HBB.out)).mono ?_; rintro e w' ⟨rfl, rfl⟩))
            go_wp2_with fail
            go_region_held3 (fun w' => w'.cell? ⟨ad.block, ad.off + 1, none⟩ = some (.int .u8 (b1.toNat : Int))) (go_keep) (first
              | (go_at_call 39; refine (HN33.out _ _ (Below.drew HRS.out.bel)).mono ?_; rintro e w' ⟨rfl, rfl⟩))
            all_goals
              go_wp2_with fail
              (try go_simp)
              go_meet
              exact ⟨rfl, rfl, by rw [show (((b2.toNat / 16 : Nat)) : Int) = (b2.toNat : Int) / 16 from by omega]; exact HRS.out.drew⟩
        case rest =>
          obtain ⟨rfl, rfl, hrel⟩ := hcut
          obtain ⟨wB, hwB⟩ : ∃ x, x = wc := ⟨_, rfl⟩
          subst hwB
          have HRX := Lib.hid hrel
          clear hrel HRA HBA HRB HBB HN84 HN44 HN75 HN33 HQ1 HQ2 wb1 wb2 w84 w44 w75 w33 wq2 hl84 hl44 hl75 hl33 HD1 HD2 hx1 hx2 hc8 hc4 hc7 hc3 i12 i8 i6 i1n i2n
          have hr := HR.out
          unfold rdec at hr
          simp only [HRD.out] at hr
          obtain ⟨hcc, hcf⟩ := cells_of_below HRX.out.belR
          have hwB := HRX.out.size
          have hwB1 : w.heap.size < wB.heap.size := by omega
          by_cases hbig : 65536 < nv
          · obtain rfl : r = none := by rw [← hr, if_neg]; rintro ⟨_, h1, h2, _⟩; omega
            clear hr
            have hbig' : (65536 : Int) < (nv : Int) := by omega
            go_wp2
            refine bodyPost_ret (v := .tuple #[.agg #[.int .i64 0, .slice none 0 0, .slice none 0 0, .int .i64 0], .int .i64 0, .bool false]) (by simp [results, Tryd.results27, go_sem, *]) rfl ?_
            exact ⟨rfl, (by repeat (first | with_reducible exact HRX.out.bel | with_reducible refine Below.setCell ?_ (by first | (simp; done) | (simp; omega) | omega) _))⟩
          have hbig' : ¬ (65536 : Int) < (nv : Int) := by omega
          have hs1 : IntKind.i64.wrap (16 + (nk : Int)) = 16 + (nk : Int) := IntWalk.i64_in _ (by omega)
          have hs2 : IntKind.i64.wrap (16 + (nk : Int) + (nv : Int)) = 16 + (nk : Int) + (nv : Int) := IntWalk.i64_in _ (by omega)
          by_cases hlong : n < 16 + nk + nv
          · obtain rfl : r = none := by rw [← hr, if_neg]; rintro ⟨h0, h1, h2, _⟩; rw [HBLEN.out] at h2; omega
            clear hr
            have hlong' : (n : Int) < 16 + (nk : Int) + (nv : Int) := by omega
            go_wp2
            refine bodyPost_ret (v := .tuple #[.agg #[.int .i64 0, .slice none 0 0, .slice none 0 0, .int .i64 0], .int .i64 0, .bool false]) (by simp [results, Tryd.results27, go_sem, *]) rfl ?_
            exact ⟨rfl, (by repeat (first | with_reducible exact HRX.out.bel | with_reducible refine Below.setCell ?_ (by first | (simp; done) | (simp; omega) | omega) _))⟩
          have hlong' : ¬ (n : Int) < 16 + (nk : Int) + (nv : Int) := by omega
          obtain ⟨key, hkey⟩ : ∃ x, rkey bs nk = x := ⟨_, rfl⟩
          obtain ⟨val, hval⟩ : ∃ x, rval bs nk nv = x := ⟨_, rfl⟩
          have HKB : Hid (∀ w', Below w.heap.size w w' → Byt w' w.heap.size (if cap = 16 then some ad else some ⟨ad.block, ad.off + 16, none⟩) nk key) := fun w' hw => by
            have h1 := ((HY.out w' hw).cut (k := 16) (cap := cap) (by omega) hn).take (k := nk) (by omega)
            rw [show (bs.drop 16).take nk = key from hkey, show Option.map (fun x => x.add 16) (some ad) = some ⟨ad.block, ad.off + 16, none⟩ from by rw [Option.map_some]; unfold Addr.add; simp] at h1
            exact h1
          have HVB : Hid (∀ w', Below w.heap.size w w' → Byt w' w.heap.size (if cap = 16 + nk then some ad else some (ad.add (16 + nk))) nv val) := fun w' hw => by
            have h1 := ((HY.out w' hw).cut (k := 16 + nk) (cap := cap) (by omega) hn).take (k := nv) (by omega)
            rw [show (bs.drop (16 + nk)).take nv = val from hval] at h1
            exact h1
          have HEB : Hid (∀ w', Below w.heap.size w w' → Byt w' w.heap.size (some ad) (16 + nk + nv) (bs.take (16 + nk + nv))) := fun w' hw => (HY.out w' hw).take (by omega)
          have hkl : key.length = nk := (HKB.out w (Below.refl _ _)).len
          have hvl : val.length = nv := (HVB.out w (Below.refl _ _)).len
          rw [hkey, hval] at hr
          obtain ⟨sn, rfl⟩ := Int.eq_ofNat_of_zero_le hs0
          obtain ⟨on, rfl⟩ := Int.eq_ofNat_of_zero_le ho0
          obtain ⟨rc, hrc⟩ : ∃ x, rcheck v ki ex nk nv = x := ⟨_, rfl⟩
          obtain ⟨rb, hrb⟩ : ∃ x, rbytes v sn on ki ex key val = x := ⟨_, rfl⟩
          have hen : rencS v sn on ki ex key val = if ¬ rc = 0 then ([], rc) else (rb, 0) := by
            unfold rencS
            rw [hkl, hvl, hrc]
            by_cases h : rc = 0
            · rw [if_neg (Decidable.not_not.2 h), if_neg (by omega), if_neg (Decidable.not_not.2 h)]; simp only [Int.toNat_natCast, hrb]
            · rw [if_pos h, if_pos h]
          rw [hen] at hr
          have hC : (¬ rc = 0 ∧ r = none) ∨ (rc = 0 ∧ r = if rb = bs.take (16 + nk + nv) then some (((ki : Int), (ex : Int), key, val), 16 + nk + nv) else none) := by
            by_cases h1 : rc = 0
            · rw [if_neg (Decidable.not_not.2 h1)] at hr
              by_cases h2 : rb = bs.take (16 + nk + nv)
              · exact .inr ⟨h1, by rw [← hr, if_pos ⟨by rw [HBLEN.out]; omega, by omega, by rw [HBLEN.out]; omega, by rw [h2]⟩, if_pos h2]⟩
              · exact .inr ⟨h1, by rw [← hr, if_neg (fun h => h2 (congrArg Prod.fst h.2.2.2)), if_neg h2]⟩
            · rw [if_pos h1] at hr
              exact .inl ⟨h1, by rw [← hr, if_neg (fun h => h1 (congrArg Prod.snd h.2.2.2))]⟩
          have HC := Lib.hid hC
          have HRC := Lib.hid hrc
          have HRB := Lib.hid hrb
          have HKL := Lib.hid (show key.length = nk ∧ val.length = nv from ⟨hkl, hvl⟩)
          have hsub1 : 16 + nk - 16 = nk := by omega
          have hsub2 : 16 + nk + nv - (16 + nk) = nv := by omega
          have hkc : (16 : Int) + (nk : Int) ≤ (cap : Int) := by omega
          have hvc : (16 : Int) + (nk : Int) + (nv : Int) ≤ (cap : Int) := by omega
          clear hC hr hen hkey hval hkl hvl hrc hrb
          go_upto_region 10 with fail
          go_cut [] (fun wx => ∃ (A7 : Option Addr) (c7 : Nat), BoxR wx (w.heap.size + 1) ki A7 nk c7 none 0 0 ex ∧ (∀ j, wx.frozen? ⟨w.heap.size + 1, j, none⟩ = false) ∧ Own wx wB.heap.size 5 (.slice A7 nk c7) nk key ∧ Below w.heap.size w wx ∧ Below (w.heap.size + 1) (w.alloc (.cells #[.int .i64 0, .slice none 0 0, .slice none 0 0, .int .i64 0] 33)) wx ∧ w.heap.size + 1 < wx.heap.size ∧ wB.heap.size ≤ wx.heap.size)
          case first =>
            by_cases hc16' : cap = 16
            · obtain rfl : nk = 0 := by omega
              have HK := Lib.hid (fun w' hw => (by have := HKB.out w' hw; rwa [if_pos hc16'] at this : Byt w' w.heap.size (some ad) 0 key))
              have HVAL : Hid (Value.slice (some ad) 0 0 = .slice (some ad) 0 0) := rfl
              subst hc16'
              go_wp2_with (at_builtin; refine wpList_append_byt rfl Tryd.u8w (.const (.slice none 0 0)) (.tmp 91) rfl rfl (Own.nil _ wB.heap.size _) HVAL.out (HK.out _ HRX.out.bel) ?_ (Nat.le_refl _) ?_; omega; intro A7 c7 w7 hown7 hbel7; simp only [Nat.zero_add, List.nil_append] at hown7 ⊢; have HO7 := Lib.hid hown7; have HS7 := Lib.hid hbel7; have HB7 : Hid (Below w.heap.size w w7) := HRX.out.bel.trans (hbel7.mono HRX.out.bel.size); have HX7 := Lib.hid (HRX.out.box.below hbel7 (by omega)); obtain ⟨y0, y1, y2, y3⟩ := HX7.out; have f1 := (hbel7.frozen (p := ⟨w.heap.size + 1, 1, none⟩) (by simp; omega)).trans (HRX.out.frz 1); clear hown7 hbel7)
              (try go_simp)
              go_meet
              refine ⟨A7, c7, box_f1 HX7.out _ _ _, fun j => by rw [World.frozen?_setCell]; exact (HS7.out.frozen (p := ⟨w.heap.size + 1, j, none⟩) (by simp; omega)).trans (HRX.out.frz j), HO7.out.keepIn (fun b hb _ => Below.heap_setCell _ _ _ b (by simp only; omega)), Below.setCell HB7.out (by simp only; omega) _, Below.setCell (HRX.out.belR.trans (HS7.out.mono (by omega))) (by simp only; omega) _, ?_, ?_⟩
              all_goals (have := HS7.out.size; simp [World.setCell]; omega)
            · have HK := Lib.hid (fun w' hw => (by have := HKB.out w' hw; rwa [if_neg hc16'] at this : Byt w' w.heap.size (some ⟨ad.block, ad.off + 16, none⟩) nk key))
              have HVAL : Hid (Value.slice (some ⟨ad.block, ad.off + 16, none⟩) (16 + nk - 16) (cap - 16) = .slice (some ⟨ad.block, ad.off + 16, none⟩) nk (cap - 16)) := by show _ = _; rw [hsub1]
              go_wp2_with (at_builtin; refine wpList_append_byt rfl Tryd.u8w (.const (.slice none 0 0)) (.tmp 91) rfl rfl (Own.nil _ wB.heap.size _) HVAL.out (HK.out _ HRX.out.bel) ?_ (Nat.le_refl _) ?_; omega; intro A7 c7 w7 hown7 hbel7; simp only [Nat.zero_add, List.nil_append] at hown7 ⊢; have HO7 := Lib.hid hown7; have HS7 := Lib.hid hbel7; have HB7 : Hid (Below w.heap.size w w7) := HRX.out.bel.trans (hbel7.mono HRX.out.bel.size); have HX7 := Lib.hid (HRX.out.box.below hbel7 (by omega)); obtain ⟨y0, y1, y2, y3⟩ := HX7.out; have f1 := (hbel7.frozen (p := ⟨w.heap.size + 1, 1, none⟩) (by simp; omega)).trans (HRX.out.frz 1); clear hown7 hbel7)
              (try go_simp)
              go_meet
              refine ⟨A7, c7, box_f1 HX7.out _ _ _, fun j => by rw [World.frozen?_setCell]; exact (HS7.out.frozen (p := ⟨w.heap.size + 1, j, none⟩) (by simp; omega)).trans (HRX.out.frz j), HO7.out.keepIn (fun b hb _ => Below.heap_setCell _ _ _ b (by simp only; omega)), Below.setCell HB7.out (by simp only; omega) _, Below.setCell (HRX.out.belR.trans (HS7.out.mono (by omega))) (by simp only; omega) _, ?_, ?_⟩
              all_goals (have := HS7.out.size; simp [World.setCell]; omega)
          case rest =>
            obtain ⟨A7, c7, hbox, hfz, hown, hbel, hbelR, hsz, hszB⟩ := hcut
            obtain ⟨wC, hwC⟩ : ∃ x, x = wc := ⟨_, rfl⟩
            subst hwC
            have HXC := Lib.hid hbox
            have HFC := Lib.hid hfz
            have HOC := Lib.hid hown
            have HBC := Lib.hid hbel
            have HRC2 := Lib.hid hbelR
            clear hbox hfz hown hbel hbelR hcc hcf
            go_upto_region 11 with fail
            go_cut [] (fun wx => ∃ (A8 : Option Addr) (c8 : Nat), BoxR wx (w.heap.size + 1) ki A7 nk c7 A8 nv c8 ex ∧ Own wx wB.heap.size 5 (.slice A7 nk c7) nk key ∧ Own wx wB.heap.size 5 (.slice A8 nv c8) nv val ∧ Below w.heap.size w wx ∧ Below (w.heap.size + 1) (w.alloc (.cells #[.int .i64 0, .slice none 0 0, .slice none 0 0, .int .i64 0] 33)) wx ∧ w.heap.size + 1 < wx.heap.size ∧ wB.heap.size ≤ wx.heap.size)
            case first =>
              by_cases hcv : cap = 16 + nk
              · obtain rfl : nv = 0 := by omega
                have HV := Lib.hid (fun w' hw => (by have := HVB.out w' hw; rwa [if_pos hcv] at this : Byt w' w.heap.size (some ad) 0 val))
                subst hcv
                go_wp2_with (at_builtin; refine wpList_append_byt rfl Tryd.u8w (.const (.slice none 0 0)) (.tmp 101) rfl rfl (Own.nil _ wC.heap.size _) rfl (HV.out _ HBC.out) ?_ (Nat.le_refl _) ?_; omega; intro A8 c8 w8 hown8 hbel8; simp only [Nat.zero_add, List.nil_append] at hown8 ⊢; have HO8 := Lib.hid hown8; have HS8 := Lib.hid hbel8; have HB8 : Hid (Below w.heap.size w w8) := HBC.out.trans (hbel8.mono HBC.out.size); have HX8 := Lib.hid (HXC.out.below hbel8 (by omega)); obtain ⟨y0, y1, y2, y3⟩ := HX8.out; have f2 := (hbel8.frozen (p := ⟨w.heap.size + 1, 2, none⟩) (by simp; omega)).trans (HFC.out 2); clear hown8 hbel8)
                (try go_simp)
                go_meet
                refine ⟨A8, c8, box_f2 HX8.out _ _ _, (HOC.out.keep HS8.out).keepIn (fun b hb _ => Below.heap_setCell _ _ _ b (by simp only; omega)), (HO8.out.mono hszB).keepIn (fun b hb _ => Below.heap_setCell _ _ _ b (by simp only; omega)), Below.setCell HB8.out (by simp only; omega) _, Below.setCell (HRC2.out.trans (HS8.out.mono (by omega))) (by simp only; omega) _, ?_, ?_⟩
                all_goals (have := HS8.out.size; simp [World.setCell]; omega)
              · have HV := Lib.hid (fun w' hw => (by have := HVB.out w' hw; rwa [if_neg hcv] at this : Byt w' w.heap.size (some (ad.add (16 + nk))) nv val))
                have HVAL : Hid (Value.slice (some (ad.add (16 + nk))) (16 + nk + nv - (16 + nk)) (cap - (16 + nk)) = .slice (some (ad.add (16 + nk))) nv (cap - (16 + nk))) := by show _ = _; rw [hsub2]
                go_wp2_with (at_builtin; refine wpList_append_byt rfl Tryd.u8w (.const (.slice none 0 0)) (.tmp 101) rfl rfl (Own.nil _ wC.heap.size _) HVAL.out (HV.out _ HBC.out) ?_ (Nat.le_refl _) ?_; omega; intro A8 c8 w8 hown8 hbel8; simp only [Nat.zero_add, List.nil_append] at hown8 ⊢; have HO8 := Lib.hid hown8; have HS8 := Lib.hid hbel8; have HB8 : Hid (Below w.heap.size w w8) := HBC.out.trans (hbel8.mono HBC.out.size); have HX8 := Lib.hid (HXC.out.below hbel8 (by omega)); obtain ⟨y0, y1, y2, y3⟩ := HX8.out; have f2 := (hbel8.frozen (p := ⟨w.heap.size + 1, 2, none⟩) (by simp; omega)).trans (HFC.out 2); clear hown8 hbel8)
                (try go_simp)
                go_meet
                refine ⟨A8, c8, box_f2 HX8.out _ _ _, (HOC.out.keep HS8.out).keepIn (fun b hb _ => Below.heap_setCell _ _ _ b (by simp only; omega)), (HO8.out.mono hszB).keepIn (fun b hb _ => Below.heap_setCell _ _ _ b (by simp only; omega)), Below.setCell HB8.out (by simp only; omega) _, Below.setCell (HRC2.out.trans (HS8.out.mono (by omega))) (by simp only; omega) _, ?_, ?_⟩
                all_goals (have := HS8.out.size; simp [World.setCell]; omega)
            case rest =>
              obtain ⟨A8, c8, hbox, hown, hown2, hbel, hbelR, hsz2, hszB2⟩ := hcut
              obtain ⟨wD, hwD⟩ : ∃ x, x = wc := ⟨_, rfl⟩
              subst hwD
              have HXD := Lib.hid hbox
              have HKD := Lib.hid hown
              have HVD := Lib.hid hown2
              have HBD := Lib.hid hbel
              have HRD2 := Lib.hid hbelR
              obtain ⟨x0, x1, x2, x3⟩ := hbox
              have RL := Lib.hid (refLength_any ki ex A7 A8 nk c7 nv c8 (by omega) (by omega))
              have CK := Lib.hid (refRcheck_any v ki ex A7 A8 nk c7 nv c8 (by omega) (by omega) rc HRC.out)
              clear hown hown2 hbel hbelR HXC HFC HOC HBC HRC2 HRX HKB HVB
              go_wp2_with fail
              refine (RL.out _).mono ?_
              rintro e wE ⟨rfl, hbel⟩
              have HXE := Lib.hid (HXD.out.below hbel hsz2)
              have HKE := Lib.hid (HKD.out.keep hbel)
              have HVE := Lib.hid (HVD.out.keep hbel)
              have HBE := Lib.hid (HBD.out.trans (hbel.mono HBD.out.size))
              have HRE := Lib.hid (HRD2.out.trans (hbel.mono (by omega)))
              have hszE : w.heap.size + 1 < wE.heap.size := Nat.lt_of_lt_of_le hsz2 hbel.size
              have hszE2 : wB.heap.size ≤ wE.heap.size := Nat.le_trans hszB2 hbel.size
              clear hbel x0 x1 x2 x3 HXD HKD HVD HBD HRD2
              obtain ⟨x0, x1, x2, x3⟩ := HXE.out
              have hmc : (16 : Int) + (nk : Int) + (nv : Int) ≤ (cap : Int) := by omega
              have hmt : (16 + (nk : Int) + (nv : Int)).toNat = 16 + nk + nv := by omega
              have hm0 : (0 : Int) ≤ 16 + (nk : Int) + (nv : Int) := by omega
              go_wp2_with fail
              rcases HC.out with ⟨h1, rfl⟩ | ⟨rfl, h2⟩
              · have hrr := rcheck_range v ki ex nk nv
                rw [HRC.out] at hrr
                have hrr : rc = 2 ∨ rc = 4 ∨ rc = 5 ∨ rc = 6 ∨ rc = 7 := by omega
                clear HC
                go_cut [121] (fun q wx => q = .bool true ∧ Below wE.heap.size wE wx)
                case first =>
                  rcases hrr with rfl | rfl | rfl | rfl | rfl
                  all_goals
                    refine wp_region_any (by kernel_rfl) ?_
                    (try (change wpAny _ _ _ _ _ _ _ (World.drew _)))
                    refine wpAny_take (i := 0) (v := .int .i64 v) rfl (by kernel_rfl) (by kernel_rfl) (by kernel_rfl) (fun _ _ _ h => h) (Or.inl ⟨by kernel_rfl, fun w => by go_simp⟩) ?_
                    refine wpAny_ready (rs := [1]) (by kernel_rfl) (by simp) ?_
                    refine AllReady.cons rfl (fun K hK => ?_) AllReady.nil
                    go_simp
                    refine hK _ _ ?_
                    clear hK K
                    refine wpAny_ready (rs := [2]) (by kernel_rfl) (by simp) ?_
                    refine AllReady.cons rfl (fun K hK => ?_) AllReady.nil
                    go_simp
                    go_wp2_with (go_at_call 35; refine (CK.out _).mono ?_; rintro e wF ⟨rfl, hbel⟩; have HDF : Hid (Below wE.heap.size wE wF) := (Below.drew (Below.refl _ _)).trans hbel; have HXF := Lib.hid (HXE.out.below HDF.out hszE); have HBF := Lib.hid (HBE.out.trans (HDF.out.mono HBE.out.size)); obtain ⟨m0, m1, m2, m3⟩ := HXF.out; clear hbel)
                    (try (refine hK _ _ ?_; clear hK K))
                    refine wpAny_take (i := 3) (v := .bool true) rfl (by kernel_rfl) (by kernel_rfl) (by kernel_rfl) (fun _ _ _ h => h) (Or.inl ⟨by kernel_rfl, fun w => by go_simp⟩) ?_
                    refine wpAny_take (i := 4) (v := .bool true) rfl (by kernel_rfl) (by kernel_rfl) (by kernel_rfl) (fun _ _ _ h => h) (Or.inl ⟨by kernel_rfl, fun w => by go_simp⟩) ?_
                    (first | refine wpAny_take (i := 5) (v := undef) rfl (by kernel_rfl) (by kernel_rfl) (by kernel_rfl) (fun _ _ _ h => h) (Or.inr ⟨by kernel_rfl, rfl⟩) ?_ | (refine wpAny_ready (rs := [5]) (by kernel_rfl) (by simp) ?_; refine AllReady.cons rfl (fun K hK => ?_) AllReady.nil; go_simp; refine hK _ _ ?_; clear hK K) | (trace_state; fail))
                    (first | refine wpAny_take (i := 6) (v := undef) rfl (by kernel_rfl) (by kernel_rfl) (by kernel_rfl) (fun _ _ _ h => h) (Or.inr ⟨by kernel_rfl, rfl⟩) ?_ | (refine wpAny_ready (rs := [6]) (by kernel_rfl) (by simp) ?_; refine AllReady.cons rfl (fun K hK => ?_) AllReady.nil; go_simp; refine hK _ _ ?_; clear hK K) | (trace_state; fail))
                    (first | refine wpAny_take (i := 7) (v := undef) rfl (by kernel_rfl) (by kernel_rfl) (by kernel_rfl) (fun _ _ _ h => h) (Or.inr ⟨by kernel_rfl, rfl⟩) ?_ | (refine wpAny_ready (rs := [7]) (by kernel_rfl) (by simp) ?_; refine AllReady.cons rfl (fun K hK => ?_) AllReady.nil; go_simp; refine hK _ _ ?_; clear hK K) | (trace_state; fail))
                    (first | refine wpAny_take (i := 8) (v := undef) rfl (by kernel_rfl) (by kernel_rfl) (by kernel_rfl) (fun _ _ _ h => h) (Or.inr ⟨by kernel_rfl, rfl⟩) ?_ | (refine wpAny_ready (rs := [8]) (by kernel_rfl) (by simp) ?_; refine AllReady.cons rfl (fun K hK => ?_) AllReady.nil; go_simp; refine hK _ _ ?_; clear hK K) | (trace_state; fail))
                    (first | refine wpAny_take (i := 9) (v := undef) rfl (by kernel_rfl) (by kernel_rfl) (by kernel_rfl) (fun _ _ _ h => h) (Or.inr ⟨by kernel_rfl, rfl⟩) ?_ | (refine wpAny_ready (rs := [9]) (by kernel_rfl) (by simp) ?_; refine AllReady.cons rfl (fun K hK => ?_) AllReady.nil; go_simp; refine hK _ _ ?_; clear hK K) | (trace_state; fail))
                    (first | refine wpAny_take (i := 10) (v := undef) rfl (by kernel_rfl) (by kernel_rfl) (by kernel_rfl) (fun _ _ _ h => h) (Or.inr ⟨by kernel_rfl, rfl⟩) ?_ | (refine wpAny_ready (rs := [10]) (by kernel_rfl) (by simp) ?_; refine AllReady.cons rfl (fun K hK => ?_) AllReady.nil; go_simp; refine hK _ _ ?_; clear hK K) | (trace_state; fail))
                    (first | refine wpAny_take (i := 11) (v := undef) rfl (by kernel_rfl) (by kernel_rfl) (by kernel_rfl) (fun _ _ _ h => h) (Or.inr ⟨by kernel_rfl, rfl⟩) ?_ | (refine wpAny_ready (rs := [11]) (by kernel_rfl) (by simp) ?_; refine AllReady.cons rfl (fun K hK => ?_) AllReady.nil; go_simp; refine hK _ _ ?_; clear hK K) | (trace_state; fail))
                    (first | refine wpAny_take (i := 12) (v := undef) rfl (by kernel_rfl) (by kernel_rfl) (by kernel_rfl) (fun _ _ _ h => h) (Or.inr ⟨by kernel_rfl, rfl⟩) ?_ | (refine wpAny_ready (rs := [12]) (by kernel_rfl) (by simp) ?_; refine AllReady.cons rfl (fun K hK => ?_) AllReady.nil; go_simp; refine hK _ _ ?_; clear hK K) | (trace_state; fail))
                    (first | refine wpAny_take (i := 13) (v := undef) rfl (by kernel_rfl) (by kernel_rfl) (by kernel_rfl) (fun _ _ _ h => h) (Or.inr ⟨by kernel_rfl, rfl⟩) ?_ | (refine wpAny_ready (rs := [13]) (by kernel_rfl) (by simp) ?_; refine AllReady.cons rfl (fun K hK => ?_) AllReady.nil; go_simp; refine hK _ _ ?_; clear hK K) | (trace_state; fail))
                    (first | refine wpAny_take (i := 14) (v := undef) rfl (by kernel_rfl) (by kernel_rfl) (by kernel_rfl) (fun _ _ _ h => h) (Or.inr ⟨by kernel_rfl, rfl⟩) ?_ | (refine wpAny_ready (rs := [14]) (by kernel_rfl) (by simp) ?_; refine AllReady.cons rfl (fun K hK => ?_) AllReady.nil; go_simp; refine hK _ _ ?_; clear hK K) | (trace_state; fail))
                    refine wpAny_take (i := 15) (v := .bool true) rfl (by kernel_rfl) (by kernel_rfl) (by kernel_rfl) (fun _ _ _ h => h) (Or.inl ⟨by kernel_rfl, fun w => by go_simp⟩) ?_
                    refine wpAny_done (by kernel_rfl) ?_ _
                    go_simp
                    go_wp2_with fail
                    (try go_simp)
                    go_meet
                    exact ⟨rfl, HDF.out⟩
                case rest =>
                  obtain ⟨rfl, hD⟩ := hcut
                  have HBF := Lib.hid (HBE.out.trans (hD.mono HBE.out.size))
                  obtain ⟨hcc, hcf⟩ := cells_of_below (HRE.out.trans (hD.mono (by omega)))
                  have hwf : w.heap.size < wc.heap.size := by have := hD.size; omega
                  clear hD
                  go_wp2
                  refine bodyPost_ret (v := .tuple #[.agg #[.int .i64 0, .slice none 0 0, .slice none 0 0, .int .i64 0], .int .i64 0, .bool false]) (by simp [results, Tryd.results27, go_sem, *]) rfl ?_
                  exact ⟨rfl, (by repeat (first | with_reducible exact HBF.out | with_reducible refine Below.setCell ?_ (by first | (simp; done) | (simp; omega) | omega) _))⟩
              · obtain ⟨bq, hbq⟩ : ∃ b, decide (rb = bs.take (16 + nk + nv)) = b := ⟨_, rfl⟩
                have HBQ := Lib.hid hbq
                have H2 := Lib.hid h2
                clear hbq h2
                have hz := rcheck_zero HRC.out
                obtain ⟨-, -, hz3, -, -, -, hz5, -, -, -, hz6⟩ := hz
                have hz3 : ki ≤ 3 := by omega
                have hz6 : ex ≤ 1099511627775 := by omega
                have HRBL : Hid (rb.length ≤ 9223372036854775807) := by have h := rbytes_len v sn on ki ex key val; rw [HRB.out, HKL.out.1, HKL.out.2] at h; show _ ≤ _; omega
                clear HC
                go_region_held3 (fun w' => w'.cell? ⟨w.heap.size + 1, 0, none⟩ = some (.int .i64 (ki : Int)) ∧ w'.cell? ⟨w.heap.size + 1, 1, none⟩ = some (.slice A7 nk c7) ∧ w'.cell? ⟨w.heap.size + 1, 2, none⟩ = some (.slice A8 nv c8) ∧ w'.cell? ⟨w.heap.size + 1, 3, none⟩ = some (.int .i64 (ex : Int))) (go_keep) (first
                  | (go_at_call 35; refine (CK.out _).mono ?_; rintro e wF ⟨rfl, hbel⟩; have HDF : Hid (Below wE.heap.size wE wF) := (Below.drew (Below.refl _ _)).trans hbel; have HXF := Lib.hid (HXE.out.below HDF.out hszE); have HBF := Lib.hid (HBE.out.trans (HDF.out.mono HBE.out.size)); obtain ⟨m0, m1, m2, m3⟩ := HXF.out; clear hbel)
                  | (go_at_call 36; refine (refREncode_any v sn on ki ex key val A7 A8 nk c7 nv c8 wE.heap.size _ HV12.out (HKE.out.byt.below HDF.out) (HVE.out.byt.below HDF.out) HDF.out.size hz5 (by omega) hz3 hz6 (by omega) (by omega) rb HRB.out).mono ?_; rintro e wG ⟨A10, c10, rfl, hown, hbel⟩; have HO10 := Lib.hid hown; have HDG := Lib.hid (HDF.out.trans (hbel.mono HDF.out.size)); have HXG := Lib.hid (HXE.out.below HDG.out hszE); have HBG := Lib.hid (HBF.out.trans (hbel.mono HBF.out.size)); obtain ⟨n0, n1, n2, n3⟩ := HXG.out; clear hown hbel)
                  | (go_at_call 24; refine (eq_any rb (bs.take (16 + nk + nv)) A10 (some ad) rb.length (16 + nk + nv) c10 cap _ w.heap.size _ HO10.out.byt (HEB.out _ HBG.out) HRBL.out (by omega)).mono ?_; rintro e w' ⟨rfl, q, rfl⟩; rw [HBQ.out]; have HDH : Hid (Below wE.heap.size wE (wG.drewN q)) := ofDrewNs HDG.out q; have HBH : Hid (Below w.heap.size w (wG.drewN q)) := ofDrewNs HBG.out q; obtain ⟨r0, r1, r2, r3⟩ := HXE.out.below HDH.out hszE))
                all_goals
                  have HRH := Lib.hid (HRE.out.trans (HDH.out.mono (by omega)))
                  obtain ⟨hcc, hcf⟩ := cells_of_below HRH.out
                  have hwf : w.heap.size + 1 < (wG.drewN q).heap.size := by have := HDH.out.size; omega
                  have HKx := Lib.hid (HKE.out.keep HDH.out)
                  have HVx := Lib.hid (HVE.out.keep HDH.out)
                  have HR2 := Lib.hid (show r = if bq then some (((ki : Int), (ex : Int), key, val), 16 + nk + nv) else none from by rw [H2.out, ← HBQ.out]; by_cases h : rb = bs.take (16 + nk + nv) <;> simp [h])
                  cases bq
                  · obtain rfl : r = none := HR2.out
                    go_wp2
                    refine bodyPost_ret (v := .tuple #[.agg #[.int .i64 0, .slice none 0 0, .slice none 0 0, .int .i64 0], .int .i64 0, .bool false]) (by simp [results, Tryd.results27, go_sem, *]) rfl ?_
                    exact ⟨rfl, (by repeat (first | with_reducible exact HBH.out | with_reducible refine Below.setCell ?_ (by first | (simp; done) | (simp; omega) | omega) _))⟩
                  · obtain rfl : r = some (((ki : Int), (ex : Int), key, val), 16 + nk + nv) := HR2.out
                    go_wp2
                    refine bodyPost_ret (v := .tuple #[.agg #[.int .i64 (ki : Int), .slice A7 nk c7, .slice A8 nv c8, .int .i64 (ex : Int)], .int .i64 (16 + (nk : Int) + (nv : Int)), .bool true]) (by simp [results, Tryd.results27, go_sem, *]) rfl ?_
                    simp only [RDecRes, HKL.out.1, HKL.out.2]
                    refine ⟨A7, c7, A8, c8, ?_, (own_set4 HKx.out (by omega) _ _ _ _).mono (by omega), (own_set4 HVx.out (by omega) _ _ _ _).mono (by omega), (by repeat (first | with_reducible exact HBH.out | with_reducible refine Below.setCell ?_ (by first | (simp; done) | (simp; omega) | omega) _))⟩
                    first | rfl | (congr 3; omega) | simp
end Go.Proofs.YtecmopfaeopmdaaDoor
