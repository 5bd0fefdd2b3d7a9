/- The walk of the reference's Decode of superblocks (tools/mksuprdec.py). -/
import Derived.Test.YthjnbdbbeidhgaaDoorSupRDecH
namespace Go.Proofs.YthjnbdbbeidhgaaDoor
open Go.RowKit Go.Sort

set_option maxRecDepth 100000 in
set_option maxHeartbeats 64000000 in
theorem srdecode_1 (t : Int) (bs : List UInt8) (A : Option Addr) (n cap B : Nat) (w : World) (hb : Byt w B A n bs) (hn : n ≤ cap) (hcap : cap ≤ 9223372036854775807) (hB : B ≤ w.heap.size) (r : Option Su) (hr : sdecW sreadR t bs = r) (p : List UInt8) (hd : dec 3 0 t bs = some p) (b35 : UInt8) (hb35 : p[35]? = some b35) (hk35 : b35.toNat = 1) :
    Calls Tryd.prog 25 #[.slice A n cap, .int .i64 t] w (SDecResR r w) := by
  have HY : Hid (∀ w', Below w.heap.size w w' → Byt w' w.heap.size A n bs) := fun w' hw => (hb.more hB).below hw
  have HB0 : Hid (∀ o, Below w.heap.size w (w.alloc o)) := fun o => (Below.refl _ _).alloc (Nat.le_refl _) _
  clear hb hB
  have HK35 := Lib.hid hk35
  clear hk35
  have hpl : p.length = 59 := by obtain ⟨_, hl, rfl, _⟩ := dec_some hd; exact pay_len hl
  have hmay := (may_iff _ _ _).1 (dec_some hd).1
  have h64 : n = 64 := by rw [← (HY.out w (Below.refl _ _)).len]; exact (dec_some hd).2.1
  obtain ⟨n1, hn1⟩ : ∃ x, num ((p.drop 0).take 5) = x := ⟨_, rfl⟩
  obtain ⟨n3, hn3⟩ : ∃ x, num ((p.drop 6).take 4) = x := ⟨_, rfl⟩
  obtain ⟨n4, hn4⟩ : ∃ x, num ((p.drop 10).take 6) = x := ⟨_, rfl⟩
  obtain ⟨n5, hn5⟩ : ∃ x, num ((p.drop 16).take 5) = x := ⟨_, rfl⟩
  obtain ⟨b5, hb5⟩ : ∃ x, p[5]? = some x := ⟨_, List.getElem?_eq_getElem (by omega)⟩
  have hn2 := num_at hb5
  have hk8 := num_at hb35
  obtain ⟨t1, ht1⟩ : ∃ x, num (((p.drop 21).drop 0).take 4) = x := ⟨_, rfl⟩
  obtain ⟨t2, ht2⟩ : ∃ x, num (((p.drop 21).drop 4).take 1) = x := ⟨_, rfl⟩
  obtain ⟨tk, htk⟩ : ∃ x, num (((p.drop 21).drop 5).take 1) = x := ⟨_, rfl⟩
  obtain ⟨t4, ht4⟩ : ∃ x, num (((p.drop 21).drop 6).take 1) = x := ⟨_, rfl⟩
  obtain ⟨t3, ht3⟩ : ∃ x, lrsR t1 t2 t4 tk = x := ⟨_, rfl⟩
  have hLt : lyRdR (p.drop 21) = ⟨t1, t2, t3, t4⟩ := by unfold lyRdR; rw [ht1, ht2, htk, ht4, ht3]
  have okt : (⟨t1, t2, t3, t4⟩ : Ly).ok := by rw [← hLt]; exact lyRdR_ok _
  obtain ⟨u1, hu1⟩ : ∃ x, num (((p.drop 28).drop 0).take 4) = x := ⟨_, rfl⟩
  obtain ⟨u2, hu2⟩ : ∃ x, num (((p.drop 28).drop 4).take 1) = x := ⟨_, rfl⟩
  obtain ⟨uk, huk⟩ : ∃ x, num (((p.drop 28).drop 5).take 1) = x := ⟨_, rfl⟩
  obtain ⟨u4, hu4⟩ : ∃ x, num (((p.drop 28).drop 6).take 1) = x := ⟨_, rfl⟩
  obtain ⟨u3, hu3⟩ : ∃ x, lrsR u1 u2 u4 uk = x := ⟨_, rfl⟩
  have hLu : lyRdR (p.drop 28) = ⟨u1, u2, u3, u4⟩ := by unfold lyRdR; rw [hu1, hu2, huk, hu4, hu3]
  have oku : (⟨u1, u2, u3, u4⟩ : Ly).ok := by rw [← hLu]; exact lyRdR_ok _
  obtain ⟨f1, hf1⟩ : ∃ x, num (((p.drop 36).drop 0).take 4) = x := ⟨_, rfl⟩
  obtain ⟨f2, hf2⟩ : ∃ x, num (((p.drop 36).drop 4).take 1) = x := ⟨_, rfl⟩
  obtain ⟨fk, hfk⟩ : ∃ x, num (((p.drop 36).drop 5).take 1) = x := ⟨_, rfl⟩
  obtain ⟨f4, hf4⟩ : ∃ x, num (((p.drop 36).drop 6).take 1) = x := ⟨_, rfl⟩
  obtain ⟨f3, hf3⟩ : ∃ x, lrsR f1 f2 f4 fk = x := ⟨_, rfl⟩
  have hLf : lyRdR (p.drop 36) = ⟨f1, f2, f3, f4⟩ := by unfold lyRdR; rw [hf1, hf2, hfk, hf4, hf3]
  have okf : (⟨f1, f2, f3, f4⟩ : Ly).ok := by rw [← hLf]; exact lyRdR_ok _
  obtain ⟨fs, hfs⟩ : ∃ fs, fsRdR ⟨u1, u2, u3, u4⟩ b35.toNat (p.drop 36) = fs := ⟨_, rfl⟩
  have hrd : sreadR p = ⟨n1, b5.toNat, n3, n4, n5, ⟨t1, t2, t3, t4⟩, ⟨u1, u2, u3, u4⟩, fs⟩ := by unfold sreadR; rw [hn1, hn2, hn3, hn4, hn5, hk8, hLt, hLu, hfs]
  have hfs2 : fs = if b35.toNat = 0 then [] else if b35.toNat = 1 then [⟨u1, u2, u3, u4⟩] else [⟨u1, u2, u3, u4⟩, ⟨f1, f2, f3, f4⟩] := by rw [← hfs]; unfold fsRdR; rw [hLf]
  have hokfs : ∀ l ∈ fs, l.ok := by
    rw [hfs2]; intro l hl
    split at hl
    · cases hl
    · split at hl
      · rw [List.mem_singleton.1 hl]; exact oku
      · rcases List.mem_cons.1 hl with e | e; rw [e]; exact oku; rw [List.mem_singleton.1 e]; exact okf
  have v1 : n1 < 281474976710656 := by rw [← hn1]; exact take_lt (by decide)
  have v3 : n3 < 281474976710656 := by rw [← hn3]; exact take_lt (by decide)
  have v4 : n4 < 281474976710656 := by rw [← hn4]; exact take_lt (by decide)
  have v5 : n5 < 281474976710656 := by rw [← hn5]; exact take_lt (by decide)
  rw [sdec_some hd, hrd] at hr
  obtain ⟨vb, hvb⟩ : ∃ x, svalid ⟨n1, b5.toNat, n3, n4, n5, ⟨t1, t2, t3, t4⟩, ⟨u1, u2, u3, u4⟩, fs⟩ = x := ⟨_, rfl⟩
  have hC : (vb = false ∧ r = none) ∨ (vb = true ∧ sencF ⟨n1, b5.toNat, n3, n4, n5, ⟨t1, t2, t3, t4⟩, ⟨u1, u2, u3, u4⟩, fs⟩ t = bs ∧ r = some ⟨n1, b5.toNat, n3, n4, n5, ⟨t1, t2, t3, t4⟩, ⟨u1, u2, u3, u4⟩, fs⟩) ∨ (vb = true ∧ sencF ⟨n1, b5.toNat, n3, n4, n5, ⟨t1, t2, t3, t4⟩, ⟨u1, u2, u3, u4⟩, fs⟩ t ≠ bs ∧ r = none) := by
    cases vb
    · exact .inl ⟨rfl, by rw [← hr, if_neg (by rw [hvb]; simp)]⟩
    · by_cases he : sencF ⟨n1, b5.toNat, n3, n4, n5, ⟨t1, t2, t3, t4⟩, ⟨u1, u2, u3, u4⟩, fs⟩ t = bs
      · exact .inr (.inl ⟨rfl, he, by rw [← hr, if_pos ⟨hvb, he⟩]⟩)
      · exact .inr (.inr ⟨rfl, he, by rw [← hr, if_neg (fun h => he h.2)]⟩)
  have RV : Hid (∀ (A0 : Option Addr) (k0 c0 : Nat) (u : World), LAt u u.heap.size A0 k0 fs → k0 ≤ 9223372036854775807 → Calls Tryd.prog 20 #[.agg #[.int .i64 (n1 : Int), .int .i64 (b5.toNat : Int), .int .i64 (n3 : Int), .int .i64 (n4 : Int), .int .i64 (n5 : Int), .int .i64 (t1 : Int), .int .i64 (t2 : Int), .int .i64 t3, .int .i64 (t4 : Int), .int .i64 (u1 : Int), .int .i64 (u2 : Int), .int .i64 u3, .int .i64 (u4 : Int), .slice A0 k0 c0]] u fun e u' => e = .returned (.bool vb) ∧ Below u.heap.size u u') := fun A0 k0 c0 u hl hk => refSValid_any n1 b5.toNat n3 n4 n5 t1 t2 t3 t4 u1 u2 u3 u4 fs A0 k0 c0 u.heap.size u hl hk (Nat.le_refl _) hokfs okt.1 okt.2.1 okt.2.2.1 okt.2.2.2 oku.1 oku.2.1 oku.2.2.1 oku.2.2.2 vb hvb
  have RE : Hid (vb = true → ∀ (A0 : Option Addr) (k0 c0 : Nat) {B : Nat} (u : World), LAt u B A0 k0 fs → k0 ≤ c0 → B ≤ u.heap.size → Calls Tryd.prog 23 #[.agg #[.int .i64 (n1 : Int), .int .i64 (b5.toNat : Int), .int .i64 (n3 : Int), .int .i64 (n4 : Int), .int .i64 (n5 : Int), .int .i64 (t1 : Int), .int .i64 (t2 : Int), .int .i64 t3, .int .i64 (t4 : Int), .int .i64 (u1 : Int), .int .i64 (u2 : Int), .int .i64 u3, .int .i64 (u4 : Int), .slice A0 k0 c0], .int .i64 t] u (PutRes u.heap.size (sencF ⟨n1, b5.toNat, n3, n4, n5, ⟨t1, t2, t3, t4⟩, ⟨u1, u2, u3, u4⟩, fs⟩ t) u)) := fun hv A0 k0 c0 B u hl hk hB => by
    have e : ((t.toNat : Nat) : Int) = t := by omega
    have h := srencode_any n1 b5.toNat n3 n4 n5 t1 t2 t3 t4 u1 u2 u3 u4 t.toNat fs A0 k0 c0 B u hl hk hB (by rw [hvb]; exact hv) (by omega) _ rfl
    rw [e] at h
    exact h
  have HC := Lib.hid hC
  have HD := Lib.hid hd
  have HPL := Lib.hid hpl
  have HFS := Lib.hid hfs2
  have HN1 := Lib.hid hn1
  have HN3 := Lib.hid hn3
  have HN4 := Lib.hid hn4
  have HN5 := Lib.hid hn5
  have HTT := Lib.hid (And.intro ht1 (And.intro ht2 (And.intro htk (And.intro ht4 ht3))))
  have HUU := Lib.hid (And.intro hu1 (And.intro hu2 (And.intro huk (And.intro hu4 hu3))))
  have HFF := Lib.hid (And.intro hf1 (And.intro hf2 (And.intro hfk (And.intro hf4 hf3))))
  have HB5 := Lib.hid hb5
  have HB35 := Lib.hid hb35
  clear hC hr hd hrd hpl hmay hn1 hn2 hn3 hn4 hn5 hk8 ht1 ht2 htk ht4 ht3 hu1 hu2 huk hu4 hu3 hf1 hf2 hfk hf4 hf3 hLt hLu hLf hfs hfs2 hokfs okt oku okf hvb hb5 hb35
  subst h64
  go_enter Tryd.func25, Tryd.ntmps25
  go_wp2_with fail
  refine (refDecode_any 3 0 t bs A 64 cap w.heap.size _ (HY.out _ (HB0.out _)) hn hcap (by simp) (by decide) (some p) HD.out).mono ?_
  rintro e w1 ⟨A1, c1, rfl, hown, hbel⟩
  simp only [Option.getD_some, Option.isSome_some, HPL.out] at hown ⊢
  obtain ⟨g, rfl⟩ := hown.head (by decide)
  obtain ⟨_, _, hv, hc1, hc2⟩ := hown.form
  injection hv with hv1 hv2 hv3
  subst hv3
  have HB1 : Hid (Below w.heap.size w w1) := (HB0.out _).trans (hbel.mono (by simp))
  have HR1 : Hid (Below (w.heap.size + 1) (w.alloc (.cells #[.int .i64 0, .int .i64 0, .int .i64 0, .int .i64 0, .int .i64 0, .int .i64 0, .int .i64 0, .int .i64 0, .int .i64 0, .int .i64 0, .int .i64 0, .int .i64 0, .int .i64 0, .slice none 0 0] 41)) w1) := hbel.mono (by simp)
  have hw1 : w.heap.size < w1.heap.size := by have := hbel.size; simp at this; omega
  obtain ⟨x5, hx5, q5, _⟩ := hown.at_ 5 (by decide)
  obtain ⟨x35, hx35, q35, _⟩ := hown.at_ 35 (by decide)
  obtain rfl : x5 = b5 := by have h := HB5.out; rw [hx5] at h; injection h
  obtain rfl : x35 = b35 := by have h := HB35.out; rw [hx35] at h; injection h
  have hx5l := x5.toNat_lt
  have hx35l := x35.toNat_lt
  have hgl : g < w1.heap.size := hown.lt rfl
  have HP0 : Hid (∀ u c, Below w1.heap.size w1 u → Calls Tryd.prog 44 #[.slice (some ⟨g, 0, none⟩) 5 c] u fun e u' => e = .returned (.int .u64 (n1 : Int)) ∧ u = u') := fun u c hu => by
    have h1 := hown.byt.take (k := 5) (by decide)
    have h2 := refNum_any _ _ 5 c w1.heap.size u (h1.below hu) (by decide)
    rw [show num (p.take 5) = n1 from HN1.out] at h2
    exact h2
  have HP6 : Hid (∀ u c, Below w1.heap.size w1 u → Calls Tryd.prog 44 #[.slice (some ⟨g, 6, none⟩) 4 c] u fun e u' => e = .returned (.int .u64 (n3 : Int)) ∧ u = u') := fun u c hu => by
    have h1 := (hown.byt.cut (k := 6) (cap := c1) (by decide) hc1).take (k := 4) (by decide)
    rw [if_neg (by omega)] at h1
    have h2 := refNum_any _ _ 4 c w1.heap.size u (h1.below hu) (by decide)
    rw [show num ((p.drop 6).take 4) = n3 from HN3.out] at h2
    exact h2
  have HP10 : Hid (∀ u c, Below w1.heap.size w1 u → Calls Tryd.prog 44 #[.slice (some ⟨g, 10, none⟩) 6 c] u fun e u' => e = .returned (.int .u64 (n4 : Int)) ∧ u = u') := fun u c hu => by
    have h1 := (hown.byt.cut (k := 10) (cap := c1) (by decide) hc1).take (k := 6) (by decide)
    rw [if_neg (by omega)] at h1
    have h2 := refNum_any _ _ 6 c w1.heap.size u (h1.below hu) (by decide)
    rw [show num ((p.drop 10).take 6) = n4 from HN4.out] at h2
    exact h2
  have HP16 : Hid (∀ u c, Below w1.heap.size w1 u → Calls Tryd.prog 44 #[.slice (some ⟨g, 16, none⟩) 5 c] u fun e u' => e = .returned (.int .u64 (n5 : Int)) ∧ u = u') := fun u c hu => by
    have h1 := (hown.byt.cut (k := 16) (cap := c1) (by decide) hc1).take (k := 5) (by decide)
    rw [if_neg (by omega)] at h1
    have h2 := refNum_any _ _ 5 c w1.heap.size u (h1.below hu) (by decide)
    rw [show num ((p.drop 16).take 5) = n5 from HN5.out] at h2
    exact h2
  have HRT : Hid (∀ u, Below w1.heap.size w1 u → Calls Tryd.prog 45 #[.slice (some ⟨g, 21, none⟩) 7 (c1 - 21)] u fun e u' => e = .returned (.agg #[.int .i64 (t1 : Int), .int .i64 (t2 : Int), .int .i64 t3, .int .i64 (t4 : Int)]) ∧ Below w1.heap.size w1 u' ∧ (∀ b, EB u b g g → EB u' b g g) ∧ Below u.heap.size u u') := fun u hu => by
    have h1 := (hown.byt.cut (k := 21) (cap := c1) (by decide) hc1).take (k := 7) (by decide)
    rw [if_neg (by omega)] at h1
    have e : ∀ k m, k + m ≤ 7 → (((p.drop 21).take 7).drop k).take m = ((p.drop 21).drop k).take m := fun k m hkm => by rw [List.drop_take, List.take_take, Nat.min_eq_left (by omega)]
    have h := refRead_any ((p.drop 21).take 7) ⟨g, 21, none⟩ (c1 - 21) w1.heap.size t1 t2 tk t4 u (h1.below hu) (by omega) hu.size (by rw [e 0 4 (by decide)]; exact HTT.out.1) (by rw [e 4 1 (by decide)]; exact HTT.out.2.1) (by rw [e 5 1 (by decide)]; exact HTT.out.2.2.1) (by rw [e 6 1 (by decide)]; exact HTT.out.2.2.2.1)
    rw [HTT.out.2.2.2.2] at h
    refine h.mono ?_
    rintro e u' ⟨h1, h2⟩
    exact ⟨h1, hu.trans (h2.mono hu.size), fun b hb => hb.below h2, h2⟩
  have HRU : Hid (∀ u, Below w1.heap.size w1 u → Calls Tryd.prog 45 #[.slice (some ⟨g, 28, none⟩) 7 (c1 - 28)] u fun e u' => e = .returned (.agg #[.int .i64 (u1 : Int), .int .i64 (u2 : Int), .int .i64 u3, .int .i64 (u4 : Int)]) ∧ Below w1.heap.size w1 u' ∧ (∀ b, EB u b g g → EB u' b g g) ∧ Below u.heap.size u u') := fun u hu => by
    have h1 := (hown.byt.cut (k := 28) (cap := c1) (by decide) hc1).take (k := 7) (by decide)
    rw [if_neg (by omega)] at h1
    have e : ∀ k m, k + m ≤ 7 → (((p.drop 28).take 7).drop k).take m = ((p.drop 28).drop k).take m := fun k m hkm => by rw [List.drop_take, List.take_take, Nat.min_eq_left (by omega)]
    have h := refRead_any ((p.drop 28).take 7) ⟨g, 28, none⟩ (c1 - 28) w1.heap.size u1 u2 uk u4 u (h1.below hu) (by omega) hu.size (by rw [e 0 4 (by decide)]; exact HUU.out.1) (by rw [e 4 1 (by decide)]; exact HUU.out.2.1) (by rw [e 5 1 (by decide)]; exact HUU.out.2.2.1) (by rw [e 6 1 (by decide)]; exact HUU.out.2.2.2.1)
    rw [HUU.out.2.2.2.2] at h
    refine h.mono ?_
    rintro e u' ⟨h1, h2⟩
    exact ⟨h1, hu.trans (h2.mono hu.size), fun b hb => hb.below h2, h2⟩
  have HRF : Hid (∀ u, Below w1.heap.size w1 u → Calls Tryd.prog 45 #[.slice (some ⟨g, 36, none⟩) 7 (c1 - 36)] u fun e u' => e = .returned (.agg #[.int .i64 (f1 : Int), .int .i64 (f2 : Int), .int .i64 f3, .int .i64 (f4 : Int)]) ∧ Below w1.heap.size w1 u' ∧ (∀ b, EB u b g g → EB u' b g g) ∧ Below u.heap.size u u') := fun u hu => by
    have h1 := (hown.byt.cut (k := 36) (cap := c1) (by decide) hc1).take (k := 7) (by decide)
    rw [if_neg (by omega)] at h1
    have e : ∀ k m, k + m ≤ 7 → (((p.drop 36).take 7).drop k).take m = ((p.drop 36).drop k).take m := fun k m hkm => by rw [List.drop_take, List.take_take, Nat.min_eq_left (by omega)]
    have h := refRead_any ((p.drop 36).take 7) ⟨g, 36, none⟩ (c1 - 36) w1.heap.size f1 f2 fk f4 u (h1.below hu) (by omega) hu.size (by rw [e 0 4 (by decide)]; exact HFF.out.1) (by rw [e 4 1 (by decide)]; exact HFF.out.2.1) (by rw [e 5 1 (by decide)]; exact HFF.out.2.2.1) (by rw [e 6 1 (by decide)]; exact HFF.out.2.2.2.1)
    rw [HFF.out.2.2.2.2] at h
    refine h.mono ?_
    rintro e u' ⟨h1, h2⟩
    exact ⟨h1, hu.trans (h2.mono hu.size), fun b hb => hb.below h2, h2⟩
  have HQ : Hid (∀ u, Below w1.heap.size w1 u → u.cell? ⟨g, 5, none⟩ = some (.int .u8 (x5.toNat : Int)) ∧ u.cell? ⟨g, 35, none⟩ = some (.int .u8 (x35.toNat : Int))) := fun u hu => ⟨(hu.cell (by exact hgl)).trans q5, (hu.cell (by exact hgl)).trans q35⟩
  have wb5 : IntKind.i64.wrap (x5.toNat : Int) = (x5.toNat : Int) := IntWalk.i64_in _ (by omega)
  have wn1 : IntKind.i64.wrap (n1 : Int) = (n1 : Int) := IntWalk.i64_in _ (by omega)
  have wn3 : IntKind.i64.wrap (n3 : Int) = (n3 : Int) := IntWalk.i64_in _ (by omega)
  have wn4 : IntKind.i64.wrap (n4 : Int) = (n4 : Int) := IntWalk.i64_in _ (by omega)
  have wn5 : IntKind.i64.wrap (n5 : Int) = (n5 : Int) := IntWalk.i64_in _ (by omega)
  have j6 : ¬ c1 = 6 := by omega
  have j10 : ¬ c1 = 10 := by omega
  have j16 : ¬ c1 = 16 := by omega
  have j21 : ¬ c1 = 21 := by omega
  have j28 : ¬ c1 = 28 := by omega
  have j36 : ¬ c1 = 36 := by omega
  have y5 : (5 : Int) ≤ (c1 : Int) := by omega
  have y6 : (6 : Int) ≤ (c1 : Int) := by omega
  have y10 : (10 : Int) ≤ (c1 : Int) := by omega
  have y16 : (16 : Int) ≤ (c1 : Int) := by omega
  have y21 : (21 : Int) ≤ (c1 : Int) := by omega
  have y28 : (28 : Int) ≤ (c1 : Int) := by omega
  have y35 : (35 : Int) ≤ (c1 : Int) := by omega
  have y36 : (36 : Int) ≤ (c1 : Int) := by omega
  have y43 : (43 : Int) ≤ (c1 : Int) := by omega
  clear hown hbel hv1 hv2 hx5 hx35 HB5 HB35 HN1 HN3 HN4 HN5 HTT HUU HFF q35
  have q5' : w1.cell? ⟨g, 5, none⟩ = some (.int .u8 (x5.toNat : Int)) := q5
  clear q5
  go_upto_region 4 with fail
  have hgne : ¬ w1.heap.size = g := by omega
  have hgen : ∀ (u : World) (b j k : Nat) (x : Value), w1.heap.size ≤ b → (u.setCell ⟨b, k, none⟩ x).cell? ⟨g, j, none⟩ = u.cell? ⟨g, j, none⟩ := fun u b j k x hb => World.cell?_setCell_other _ _ _ _ (fun e => by injection e; omega)
  go_cut [8] (fun a wx => ∃ bl : Nat, a = .pointer (some ⟨bl, 0, none⟩) ∧ Cells wx bl [.int .i64 (n1 : Int), .int .i64 (x5.toNat : Int), .int .i64 (n3 : Int), .int .i64 (n4 : Int), .int .i64 (n5 : Int), .int .i64 (t1 : Int), .int .i64 (t2 : Int), .int .i64 t3, .int .i64 (t4 : Int), .int .i64 (u1 : Int), .int .i64 (u2 : Int), .int .i64 u3, .int .i64 (u4 : Int), .slice none 0 0] ∧ Soft wx bl ∧ Below w1.heap.size w1 wx ∧ bl < wx.heap.size ∧ w1.heap.size ≤ bl)
  case first =>
    go_region_held3 (fun w' => w'.cell? ⟨g, 5, none⟩ = some (.int .u8 (x5.toNat : Int))) (go_keep) (first
      | (go_at_call 44; (with_reducible refine (HP0.out _ _ ?_).mono ?_); (repeat (first | with_reducible exact Below.refl _ _ | with_reducible refine Below.drew ?_ | with_reducible refine Below.alloc ?_ (Nat.le_refl _) _)); rintro e w' ⟨rfl, rfl⟩)
      | (go_at_call 44; (with_reducible refine (HP6.out _ _ ?_).mono ?_); (repeat (first | with_reducible exact Below.refl _ _ | with_reducible refine Below.drew ?_ | with_reducible refine Below.alloc ?_ (Nat.le_refl _) _)); rintro e w' ⟨rfl, rfl⟩)
      | (go_at_call 44; (with_reducible refine (HP10.out _ _ ?_).mono ?_); (repeat (first | with_reducible exact Below.refl _ _ | with_reducible refine Below.drew ?_ | with_reducible refine Below.alloc ?_ (Nat.le_refl _) _)); rintro e w' ⟨rfl, rfl⟩)
      | (go_at_call 44; (with_reducible refine (HP16.out _ _ ?_).mono ?_); (repeat (first | with_reducible exact Below.refl _ _ | with_reducible refine Below.drew ?_ | with_reducible refine Below.alloc ?_ (Nat.le_refl _) _)); rintro e w' ⟨rfl, rfl⟩)
      | (go_at_call 45; (with_reducible refine (HRT.out _ ?_).mono ?_); (repeat (first | with_reducible exact Below.refl _ _ | with_reducible refine Below.drew ?_ | with_reducible refine Below.alloc ?_ (Nat.le_refl _) _)); rintro e v1 ⟨rfl, hl, hE, hbel⟩; (first | (have HE1 : Hid (EB v1 w1.heap.size g g) := hE _ (EB.new w1 g g hgl hgl).drew) | (have HE1 : Hid (EB v1 w1.heap.size g g) := hE _ (EB.new w1 g g hgl hgl)) | skip); have HL1 := Lib.hid hl; have r5 := (HQ.out _ hl).1; have hz1 := hl.size; have hgne1 : ¬ v1.heap.size = g := (by omega); clear hl hE hbel)
      | (go_at_call 45; (with_reducible refine (HRU.out _ ?_).mono ?_); (repeat (first | with_reducible exact HL1.out | with_reducible exact Below.refl _ _ | with_reducible refine Below.drew ?_ | with_reducible refine Below.alloc ?_ hz1 _)); rintro e v2 ⟨rfl, hl, hE, hbel⟩; (first | (have HE2 : Hid (EB v2 v1.heap.size g g) := hE _ (EB.new v1 g g (Nat.lt_of_lt_of_le hgl hz1) (Nat.lt_of_lt_of_le hgl hz1)).drew) | (have HE2 : Hid (EB v2 v1.heap.size g g) := hE _ (EB.new v1 g g (Nat.lt_of_lt_of_le hgl hz1) (Nat.lt_of_lt_of_le hgl hz1))) | (have HE2 := Lib.hid (hE _ HE1.out)) | skip); have HL2 := Lib.hid hl; have s5 := (HQ.out _ hl).1; have hz2 := hl.size; have hgne2 : ¬ v2.heap.size = g := (by omega); (try have hbc := HE2.out.gt); (try have ee0 := HE2.out.cells 0 _ rfl); (try have ff0 := HE2.out.soft 0); (try have ee1 := HE2.out.cells 1 _ rfl); (try have ff1 := HE2.out.soft 1); (try have ee2 := HE2.out.cells 2 _ rfl); (try have ff2 := HE2.out.soft 2); (try have ee3 := HE2.out.cells 3 _ rfl); (try have ff3 := HE2.out.soft 3); (try have ee4 := HE2.out.cells 4 _ rfl); (try have ff4 := HE2.out.soft 4); (try have ee5 := HE2.out.cells 5 _ rfl); (try have ff5 := HE2.out.soft 5); (try have ee6 := HE2.out.cells 6 _ rfl); (try have ff6 := HE2.out.soft 6); (try have ee7 := HE2.out.cells 7 _ rfl); (try have ff7 := HE2.out.soft 7); (try have ee8 := HE2.out.cells 8 _ rfl); (try have ff8 := HE2.out.soft 8); (try have ee9 := HE2.out.cells 9 _ rfl); (try have ff9 := HE2.out.soft 9); (try have ee10 := HE2.out.cells 10 _ rfl); (try have ff10 := HE2.out.soft 10); (try have ee11 := HE2.out.cells 11 _ rfl); (try have ff11 := HE2.out.soft 11); (try have ee12 := HE2.out.cells 12 _ rfl); (try have ff12 := HE2.out.soft 12); (try have ee13 := HE2.out.cells 13 _ rfl); (try have ff13 := HE2.out.soft 13); clear hl hE hbel)
      | fail)
    all_goals
      go_wp2_with fail
      (try go_simp)
      go_meet
      first
        | (refine ⟨v2.heap.size, (by with_reducible rfl), ?_, ?_, ?_, ?_, ?_⟩
           · exact Cells.new v2 _ #[.int .i64 (n1 : Int), .int .i64 (x5.toNat : Int), .int .i64 (n3 : Int), .int .i64 (n4 : Int), .int .i64 (n5 : Int), .int .i64 (t1 : Int), .int .i64 (t2 : Int), .int .i64 t3, .int .i64 (t4 : Int), .int .i64 (u1 : Int), .int .i64 (u2 : Int), .int .i64 u3, .int .i64 (u4 : Int), .slice none 0 0]
           · exact Soft.new v2 _ _
           · exact HL2.out.alloc HL2.out.size _
           · simp
           · exact HL2.out.size)
        | (have hlt2 := HE2.out.lt
           refine ⟨_, rfl, cells_set14 HE2.out.cells, ((((((((((((((HE2.out.soft.set _ _).set _ _).set _ _).set _ _).set _ _).set _ _).set _ _).set _ _).set _ _).set _ _).set _ _).set _ _).set _ _).set _ _), ?_, ?_, ?_⟩
           · exact HL2.out.trans (below_set14 (by omega))
           · simp [World.setCell]; omega
           · omega)
  case rest =>
    obtain ⟨bl, rfl, hcx, hsf, hl5, hlt5, hgt⟩ := hcut
    obtain ⟨w5, hw5⟩ : ∃ x, x = wc := ⟨_, rfl⟩
    subst hw5
    have HX5 := Lib.hid hcx
    have HSF5 := Lib.hid hsf
    have HL5 := Lib.hid hl5
    have hbg : ¬ bl = g := by omega
    have q35 := (HQ.out _ hl5).2
    have d9 := hcx 9 _ rfl; have d10 := hcx 10 _ rfl; have d11 := hcx 11 _ rfl; have d12 := hcx 12 _ rfl; have d13 := hcx 13 _ rfl
    have f13 := hsf 13
    clear hcx hsf hl5 q5' hgen hgne HP0 HP6 HP10 HP16 HRT HRU j6 j10 j16 j21 j28 y5 y6 y10 y16 y21 y28 y35 wb5 wn1 wn3 wn4 wn5
    go_upto_if 48 with fail
    go_cut [] (fun wx => ∃ S : Value, Cells wx bl [.int .i64 (n1 : Int), .int .i64 (x5.toNat : Int), .int .i64 (n3 : Int), .int .i64 (n4 : Int), .int .i64 (n5 : Int), .int .i64 (t1 : Int), .int .i64 (t2 : Int), .int .i64 t3, .int .i64 (t4 : Int), .int .i64 (u1 : Int), .int .i64 (u2 : Int), .int .i64 u3, .int .i64 (u4 : Int), S] ∧ Soft wx bl ∧ Below w1.heap.size w1 wx ∧ bl < wx.heap.size ∧ ((x35.toNat = 0 ∧ S = .slice none 0 0) ∨ (1 ≤ x35.toNat ∧ ∃ b6, S = .slice (some ⟨b6, 0, none⟩) 1 1 ∧ bl < b6 ∧ b6 < wx.heap.size ∧ wx.ownsRow (bl + 1) 23 4 S 1 [.int .i64 (u1 : Int), .int .i64 (u2 : Int), .int .i64 u3, .int .i64 (u4 : Int)])))
    case first =>
      have h1 : ¬ x35.toNat = 0 := by have := HK35.out; omega
      · have g1 : (1 : Int) ≤ (x35.toNat : Int) := by omega
        go_wp2_with fail
        (try go_simp)
        go_meet
        have hsz : (w5.setCell ⟨bl, 13, none⟩ (.slice (some ⟨w5.heap.size, 0, none⟩) 1 1)).heap.size = w5.heap.size := by simp [World.setCell]
        have hrow := row_lit (w5.setCell ⟨bl, 13, none⟩ (.slice (some ⟨w5.heap.size, 0, none⟩) 1 1)) #[.int .i64 (u1 : Int), .int .i64 (u2 : Int), .int .i64 u3, .int .i64 (u4 : Int)] 23 4 1 (bl + 1) [.int .i64 (u1 : Int), .int .i64 (u2 : Int), .int .i64 u3, .int .i64 (u4 : Int)] rfl rfl (by decide) (by rw [hsz]; omega)
        rw [hsz] at hrow
        refine ⟨.slice (some ⟨w5.heap.size, 0, none⟩) 1 1, ((HX5.out.set 13 _).below (below_al _ _) (by rw [hsz]; exact hlt5)), ((HSF5.out.set _ _).same ((below_al _ _).block bl (by rw [hsz]; exact hlt5))), ?_, by simp [World.setCell]; omega, .inr ⟨by omega, w5.heap.size, rfl, hlt5, by simp [World.setCell], hrow⟩⟩
        exact (HL5.out.setCell (by exact hgt) _).alloc (by rw [hsz]; exact HL5.out.size) _
    case rest =>
      obtain ⟨S, hcx, hsf, hl6, hlt6, hS⟩ := hcut
      obtain ⟨w6, hw6⟩ : ∃ x, x = wc := ⟨_, rfl⟩
      subst hw6
      have HX6 := Lib.hid hcx
      have HSF6 := Lib.hid hsf
      have HL6 := Lib.hid hl6
      have HS := Lib.hid hS
      have q35b := (HQ.out _ hl6).2
      have e13 := hcx 13 _ rfl
      have f13b := hsf 13
      clear hcx hsf hl6 hS d9 d10 d11 d12 d13 q35 f13 HX5 HSF5 HL5 hlt5
      go_upto_if 56 with fail
      go_cut [] (fun wx => ∃ (A0 : Option Addr) (k0 c0 : Nat), Cells wx bl [.int .i64 (n1 : Int), .int .i64 (x5.toNat : Int), .int .i64 (n3 : Int), .int .i64 (n4 : Int), .int .i64 (n5 : Int), .int .i64 (t1 : Int), .int .i64 (t2 : Int), .int .i64 t3, .int .i64 (t4 : Int), .int .i64 (u1 : Int), .int .i64 (u2 : Int), .int .i64 u3, .int .i64 (u4 : Int), .slice A0 k0 c0] ∧ LAt wx wx.heap.size A0 k0 fs ∧ (∀ ad, A0 = some ad → w.heap.size < ad.block) ∧ k0 ≤ c0 ∧ c0 ≤ 9223372036854775807 ∧ Below w1.heap.size w1 wx ∧ bl < wx.heap.size)
      case first =>
        have hfs := HFS.out
        rcases HS.out with ⟨h1, rfl⟩ | ⟨h1, b6, rfl, hb6, hb6l, hrow⟩
        · exact absurd h1 (by have := HK35.out; omega)
        · have HROW := Lib.hid hrow
          have h2 : x35.toNat = 1 := HK35.out
          · rw [if_neg (by omega), if_pos h2] at hfs
            have HF1 := Lib.hid hfs
            have g2 : ¬ (2 : Int) ≤ (x35.toNat : Int) := by omega
            clear hfs HFS HS hrow
            go_wp2_with fail
            (try go_simp)
            go_meet
            refine ⟨some ⟨b6, 0, none⟩, 1, 1, HX6.out, ?_, (fun ad e => by injection e with e; subst e; show w.heap.size < b6; omega), by omega, by omega, HL6.out, hlt6⟩
            rw [HF1.out]
            exact LAt.ofCells1 (l := ⟨u1, u2, u3, u4⟩) (add_cells (World.ownsRow.cells HROW.out (g := b6) rfl)) hb6l
      case rest =>
        obtain ⟨A0, k0, c0, hcx, hla, hA0, hkc, hc2, hl8, hlt8⟩ := hcut
        obtain ⟨w8, hw8⟩ : ∃ x, x = wc := ⟨_, rfl⟩
        subst hw8
        have HX := Lib.hid hcx
        have HLA := Lib.hid hla
        have HA0 := Lib.hid hA0
        have HB8 := Lib.hid (HB1.out.trans (hl8.mono HB1.out.size))
        have HR8 := Lib.hid (HR1.out.trans (hl8.mono hw1))
        have l0 := HX.out 0 _ rfl; have l1 := HX.out 1 _ rfl; have l2 := HX.out 2 _ rfl; have l3 := HX.out 3 _ rfl; have l4 := HX.out 4 _ rfl; have l5 := HX.out 5 _ rfl; have l6 := HX.out 6 _ rfl; have l7 := HX.out 7 _ rfl; have l8 := HX.out 8 _ rfl; have l9 := HX.out 9 _ rfl; have l10 := HX.out 10 _ rfl; have l11 := HX.out 11 _ rfl; have l12 := HX.out 12 _ rfl; have l13 := HX.out 13 _ rfl
        clear hcx hla hA0 hl8 HFS
        go_wp2_with fail
        clear l0 l1 l2 l3 l4 l5 l6 l7 l8 l9 l10 l11 l12 l13
        refine (RV.out A0 k0 c0 w8 HLA.out (by omega)).mono ?_
        rintro e w9 ⟨rfl, hbel⟩
        have HB9 := Lib.hid (HB8.out.trans (hbel.mono HB8.out.size))
        have HR9 := Lib.hid (HR8.out.trans (hbel.mono (by omega)))
        have HLA9 := Lib.hid (HLA.out.below hbel)
        have HX9 := Lib.hid (HX.out.below hbel hlt8)
        have hs98 := hbel.size
        have hw9 : w.heap.size < w9.heap.size := by omega
        have hlt9 : bl < w9.heap.size := by omega
        clear hbel
        rcases HC.out with ⟨rfl, rfl⟩ | ⟨rfl, h2, rfl⟩ | ⟨rfl, h2, rfl⟩
        · clear HC
          obtain ⟨hcc, hcf⟩ := cells_of_below HR9.out
          have HBx := HB9
          go_wp2
          refine bodyPost_ret (v := .tuple #[.agg #[.int .i64 0, .int .i64 0, .int .i64 0, .int .i64 0, .int .i64 0, .int .i64 0, .int .i64 0, .int .i64 0, .int .i64 0, .int .i64 0, .int .i64 0, .int .i64 0, .int .i64 0, .slice none 0 0], .bool false]) (by simp [results, Tryd.results25, go_sem, *]) rfl ?_
          exact ⟨none, 0, 0, rfl, LAt.nil _ _ _, by omega, by omega, (by repeat (first | with_reducible refine ofDrewN ?_ _ | with_reducible exact HBx.out | with_reducible refine Below.setCell ?_ (by first | (simp; done) | (simp; omega) | omega) _)), (fun ad e => by cases e)⟩
        · clear HC
          have h3 := Lib.hid h2
          clear h2
          have m0 := HX9.out 0 _ rfl; have m1 := HX9.out 1 _ rfl; have m2 := HX9.out 2 _ rfl; have m3 := HX9.out 3 _ rfl; have m4 := HX9.out 4 _ rfl; have m5 := HX9.out 5 _ rfl; have m6 := HX9.out 6 _ rfl; have m7 := HX9.out 7 _ rfl; have m8 := HX9.out 8 _ rfl; have m9 := HX9.out 9 _ rfl; have m10 := HX9.out 10 _ rfl; have m11 := HX9.out 11 _ rfl; have m12 := HX9.out 12 _ rfl; have m13 := HX9.out 13 _ rfl
          go_wp2_with fail
          clear m0 m1 m2 m3 m4 m5 m6 m7 m8 m9 m10 m11 m12 m13
          refine (RE.out (by first | exact trivial | rfl) A0 k0 c0 w9 HLA9.out hkc hs98).mono ?_
          rintro e w10 ⟨A7, c7, rfl, hown, hbel⟩
          rw [sencF_len] at hown ⊢
          have HO10 := Lib.hid hown
          have HB10 := Lib.hid (HB9.out.trans (hbel.mono HB9.out.size))
          have HR10 := Lib.hid (HR9.out.trans (hbel.mono (by omega)))
          have HX10 := Lib.hid (HX9.out.below hbel hlt9)
          have HLA10 := Lib.hid (HLA9.out.below (hbel.mono hs98))
          have hs10 := hbel.size
          have hw10 : w.heap.size < w10.heap.size := by omega
          clear hown hbel
          go_wp2_with fail
          refine (eq_any (sencF ⟨n1, x5.toNat, n3, n4, n5, ⟨t1, t2, t3, t4⟩, ⟨u1, u2, u3, u4⟩, fs⟩ t) bs A7 A 64 64 c7 cap _ w.heap.size w10 HO10.out.byt (HY.out _ HB10.out) (by decide) (by decide)).mono ?_
          rintro e w' ⟨rfl, q, rfl⟩
          rw [decide_eq_true h3.out]
          obtain ⟨hcc, hcf⟩ := cells_of_below HR10.out
          have HBx := HB10
          have hx10 := HX10.out
          have l0 := hx10 0 _ rfl; have l1 := hx10 1 _ rfl; have l2 := hx10 2 _ rfl; have l3 := hx10 3 _ rfl; have l4 := hx10 4 _ rfl; have l5 := hx10 5 _ rfl; have l6 := hx10 6 _ rfl; have l7 := hx10 7 _ rfl; have l8 := hx10 8 _ rfl; have l9 := hx10 9 _ rfl; have l10 := hx10 10 _ rfl; have l11 := hx10 11 _ rfl; have l12 := hx10 12 _ rfl; have l13 := hx10 13 _ rfl
          clear hx10
          go_wp2
          refine bodyPost_ret (v := .tuple #[.agg #[.int .i64 (n1 : Int), .int .i64 (x5.toNat : Int), .int .i64 (n3 : Int), .int .i64 (n4 : Int), .int .i64 (n5 : Int), .int .i64 (t1 : Int), .int .i64 (t2 : Int), .int .i64 t3, .int .i64 (t4 : Int), .int .i64 (u1 : Int), .int .i64 (u2 : Int), .int .i64 u3, .int .i64 (u4 : Int), .slice A0 k0 c0], .bool true]) (by simp [results, Tryd.results25, go_sem, *]) rfl ?_
          refine ⟨A0, k0, c0, rfl, ?_, hkc, hc2, (by repeat (first | with_reducible refine ofDrewN ?_ _ | with_reducible exact HBx.out | with_reducible refine Below.setCell ?_ (by first | (simp; done) | (simp; omega) | omega) _)), (fun ad e => by have := HA0.out ad e; omega)⟩
          refine LAt.more (B := w8.heap.size) ?_ (by simp [World.setCell]; omega)
          have hne : ∀ ad, A0 = some ad → ¬ ad.block = w.heap.size := fun ad e h => by have := HA0.out ad e; omega
          exact (((((((((((((((HLA10.out.drewN q).setc hne 0 _).setc hne 1 _).setc hne 2 _).setc hne 3 _).setc hne 4 _).setc hne 5 _).setc hne 6 _).setc hne 7 _).setc hne 8 _).setc hne 9 _).setc hne 10 _).setc hne 11 _).setc hne 12 _).setc hne 13 _)
        · clear HC
          have h3 := Lib.hid h2
          clear h2
          have m0 := HX9.out 0 _ rfl; have m1 := HX9.out 1 _ rfl; have m2 := HX9.out 2 _ rfl; have m3 := HX9.out 3 _ rfl; have m4 := HX9.out 4 _ rfl; have m5 := HX9.out 5 _ rfl; have m6 := HX9.out 6 _ rfl; have m7 := HX9.out 7 _ rfl; have m8 := HX9.out 8 _ rfl; have m9 := HX9.out 9 _ rfl; have m10 := HX9.out 10 _ rfl; have m11 := HX9.out 11 _ rfl; have m12 := HX9.out 12 _ rfl; have m13 := HX9.out 13 _ rfl
          go_wp2_with fail
          clear m0 m1 m2 m3 m4 m5 m6 m7 m8 m9 m10 m11 m12 m13
          refine (RE.out (by first | exact trivial | rfl) A0 k0 c0 w9 HLA9.out hkc hs98).mono ?_
          rintro e w10 ⟨A7, c7, rfl, hown, hbel⟩
          rw [sencF_len] at hown ⊢
          have HO10 := Lib.hid hown
          have HB10 := Lib.hid (HB9.out.trans (hbel.mono HB9.out.size))
          have HR10 := Lib.hid (HR9.out.trans (hbel.mono (by omega)))
          have HX10 := Lib.hid (HX9.out.below hbel hlt9)
          have HLA10 := Lib.hid (HLA9.out.below (hbel.mono hs98))
          have hs10 := hbel.size
          have hw10 : w.heap.size < w10.heap.size := by omega
          clear hown hbel
          go_wp2_with fail
          refine (eq_any (sencF ⟨n1, x5.toNat, n3, n4, n5, ⟨t1, t2, t3, t4⟩, ⟨u1, u2, u3, u4⟩, fs⟩ t) bs A7 A 64 64 c7 cap _ w.heap.size w10 HO10.out.byt (HY.out _ HB10.out) (by decide) (by decide)).mono ?_
          rintro e w' ⟨rfl, q, rfl⟩
          rw [decide_eq_false h3.out]
          obtain ⟨hcc, hcf⟩ := cells_of_below HR10.out
          have HBx := HB10
          skip
          go_wp2
          refine bodyPost_ret (v := .tuple #[.agg #[.int .i64 0, .int .i64 0, .int .i64 0, .int .i64 0, .int .i64 0, .int .i64 0, .int .i64 0, .int .i64 0, .int .i64 0, .int .i64 0, .int .i64 0, .int .i64 0, .int .i64 0, .slice none 0 0], .bool false]) (by simp [results, Tryd.results25, go_sem, *]) rfl ?_
          exact ⟨none, 0, 0, rfl, LAt.nil _ _ _, by omega, by omega, (by repeat (first | with_reducible refine ofDrewN ?_ _ | with_reducible exact HBx.out | with_reducible refine Below.setCell ?_ (by first | (simp; done) | (simp; omega) | omega) _)), (fun ad e => by cases e)⟩
end Go.Proofs.YthjnbdbbeidhgaaDoor
