/- PackerTakes: the walk. -/
import Derived.Test.YtecmopfaeopmdaaDoorPackTwo
import Derived.Test.YtecmopfaeopmdaaDoorPackAwake
import Derived.Test.YtecmopfaeopmdaaDoorShort
import Derived.Test.YtecmopfaeopmdaaDoorRecs
import Derived.Deep.CutBlock
namespace Go.Proofs.YtecmopfaeopmdaaDoor
open Go.RowKit

theorem short_len (n k : Nat) : ∃ m, ((n ≤ k ∧ m = n) ∨ (k < n ∧ m = k)) ∧ m ≤ n ∧ m ≤ k := by
  by_cases h : n ≤ k
  · exact ⟨n, .inl ⟨h, rfl⟩, by omega, by omega⟩
  · exact ⟨k, .inr ⟨by omega, rfl⟩, by omega, by omega⟩
theorem pput_nop {p : Nat} {a b c d f s tk cp : Int} {A : Option Addr} {n cap : Nat} {bs : List UInt8} {r : List UInt8 × Int} {w w' : World} {e : Ending} (hz : ¬ (r.2 = 0 ∧ ¬ cp - n < r.1.length)) (h : PPut p a b c d f s tk cp A n cap bs r w e w') : (∃ v, e = .returned v) ∧ Below w.heap.size w w' := by
  rcases h with ⟨_, h1, h2⟩ | ⟨_, _, h1, h2⟩ | ⟨h1, h2, _⟩
  · exact ⟨⟨_, h1⟩, h2⟩
  · exact ⟨⟨_, h1⟩, h2⟩
  · exact absurd ⟨h1, h2⟩ hz
/-- Put, of any packer with this stream: what the stream is then. -/
theorem put_both (a b c d f s cp : Int) (n : Nat) (bs : List UInt8) (r : List UInt8 × Int) (hn : (n : Int) ≤ cp) : ∃ m bs1, n ≤ m ∧ (m : Int) ≤ cp ∧ (∃ x, bs1 = bs ++ x) ∧
    ∀ (p : Nat) (tk : Int) (A : Option Addr) (cap : Nat) (w : World) (e : Ending) (w' : World), Pk w p a b c d f s A n cap tk bs → PPut p a b c d f s tk cp A n cap bs r w e w' → ∃ v A1 c1, e = .returned v ∧ Pk w' p a b c d f s A1 m c1 tk bs1 ∧ Far w w' p (Value.slice A n cap).ownBlock ∧ Born w (Value.slice A n cap).ownBlock (Value.slice A1 m c1).ownBlock := by
  by_cases hz : r.2 = 0 ∧ ¬ cp - n < r.1.length
  · refine ⟨n + r.1.length, bs ++ r.1, by omega, by have := hz.2; omega, ⟨_, rfl⟩, fun p tk A cap w e w' hpk h => ?_⟩
    obtain ⟨h1, A1, c1, h2, h3, h4⟩ := pput_good hz.1 hz.2 h
    exact ⟨_, A1, c1, h1, h2, h3, h4⟩
  · refine ⟨n, bs, Nat.le_refl _, hn, ⟨[], by simp⟩, fun p tk A cap w e w' hpk h => ?_⟩
    obtain ⟨⟨v, h1⟩, h2⟩ := pput_nop hz h
    exact ⟨v, A, cap, h1, hpk.below h2, Far.of_below h2 _ _, Born.refl _ _⟩
theorem bool_in {bs : List Bool} {k : Nat} {x : Value} (h : (bs.map Value.bool)[k]? = some x) : ∃ b : Bool, x = .bool b := by
  rw [List.getElem?_map] at h
  obtain ⟨b, _, rfl⟩ := Option.map_eq_some_iff.1 h
  exact ⟨b, rfl⟩

set_option maxRecDepth 100000 in
set_option maxHeartbeats 8000000 in
theorem packerTakes_any (a b c d : Int) (rs : List Rc) (Ar : Option Addr) (nr cr : Nat) (At : Option Addr) (nt ct : Nat) (tks : List Bool) (w : World) (ht : TabAt w) (h0 : 0 < w.heap.size) (hb : I64 b) (hc : I64 c)
    (hrs : RAt w w.heap.size Ar nr rs) (htks : Vat w w.heap.size At nt (tks.map Value.bool)) :
    Calls Tryd.prog 4 #[.agg #[.int .i64 a, .int .i64 b, .int .i64 c, .int .i64 d], .slice Ar nr cr, .slice At nt ct] w fun e w' => e = .returned (.bool true) ∧ Below w.heap.size w w' := by
  have HSZ := Lib.hid h0
  have HT : Hid (∀ w', Below w.heap.size w w' → TabAt w') := fun w' hb => ht.below hb h0
  have HTK := Lib.hid htks
  have HRS := Lib.hid hrs
  have j1 : I64 1 := i64_ok (by decide) (by decide)
  have j4 : I64 4 := i64_ok (by decide) (by decide)
  have RF := Lib.hid (refForm_any 1 b c 4 j1 hb hc j4)
  have AW : Hid (∀ w', Below w.heap.size w w' → Calls Tryd.prog 9 #[] w' fun e w'' => e = .returned (.bool true) ∧ Below w'.heap.size w' w'') := fun w' hb => packAwake_any w' (HT.out _ hb) (Nat.lt_of_lt_of_le HSZ.out hb.size)
  have HB0 : Hid (Below w.heap.size w (w.alloc (.cells #[.int .i64 1, .int .i64 b, .int .i64 c, .int .i64 4] 23))) := (Below.refl _ _).alloc (Nat.le_refl _) _
  have HX0 := Lib.hid (Cells.new w 23 #[.int .i64 1, .int .i64 b, .int .i64 c, .int .i64 4])
  clear ht h0 htks hrs
  obtain ⟨fo, hfo⟩ : ∃ fo, form 1 b c 4 = fo := ⟨_, rfl⟩
  rw [hfo] at RF
  cases fo
  · clear hfo
    go_enter Tryd.func4, Tryd.ntmps4
    go_wp2_with (first
      | (go_at_call 8; refine (RF.out _).mono ?_; rintro e w1 ⟨rfl, hbel⟩; have HB1 := Lib.hid (HB0.out.trans (hbel.mono HB0.out.size)); clear hbel)
      | (go_at_call 9; refine (AW.out _ HB1.out).mono ?_; rintro e w2 ⟨rfl, hbel⟩; have HB2 := Lib.hid (HB1.out.trans (hbel.mono HB1.out.size)); clear hbel))
    go_ret
    exact ⟨rfl, HB2.out⟩
  by_cases hc16 : 16 < c
  · clear hfo
    go_enter Tryd.func4, Tryd.ntmps4
    go_wp2_with (first
      | (go_at_call 8; refine (RF.out _).mono ?_; rintro e w1 ⟨rfl, hbel⟩; have HB1 := Lib.hid (HB0.out.trans (hbel.mono HB0.out.size)); have HX1 := Lib.hid (HX0.out.below hbel (by simp)); have l2 := HX1.out 2 _ rfl; clear hbel)
      | (go_at_call 9; refine (AW.out _ HB1.out).mono ?_; rintro e w2 ⟨rfl, hbel⟩; have HB2 := Lib.hid (HB1.out.trans (hbel.mono HB1.out.size)); clear hbel))
    go_ret
    exact ⟨rfl, HB2.out⟩
  obtain ⟨_, _, hbv, h2c, _, _, _, _⟩ := form_true hfo
  have NW : Hid (∀ w, Calls Tryd.prog 10 #[.agg #[.int .i64 1, .int .i64 b, .int .i64 c, .int .i64 4], .int .i64 1, .int .i64 7] w fun e w' => ∃ p, e = .returned (.tuple #[.pointer (some ⟨p, 0, none⟩), .int .i64 0]) ∧ w.heap.size ≤ p ∧ Pk w' p 1 b c 4 (74 + 1 * c) 7 none 0 0 0 [] ∧ Below w.heap.size w w') := fun w =>
    pnew_any 1 b c 4 1 7 j1 hb hc j4 hfo (by decide) (by decide) (by decide) w
  have HCP : Hid (capS 1 b c 4 = (c - 1) * 59) := by show _ = _; rw [capS, if_pos hfo]
  clear hfo
  go_enter Tryd.func4, Tryd.ntmps4
  go_upto_region 5 with (first
    | (go_at_call 8; refine (RF.out _).mono ?_; rintro e w1 ⟨rfl, hbel⟩; have HB1 := Lib.hid (HB0.out.trans (hbel.mono HB0.out.size)); have HX1 := Lib.hid (HX0.out.below hbel (by simp)); have l0 := HX1.out 0 _ rfl; have l1 := HX1.out 1 _ rfl; have l2 := HX1.out 2 _ rfl; have l3 := HX1.out 3 _ rfl; clear hbel)
    | (go_at_call 10; refine (NW.out _).mono ?_; rintro e w2 ⟨p, rfl, hp, hpk, hbel⟩; have HP2 := Lib.hid hpk; have HB2 := Lib.hid (HB1.out.trans (hbel.mono HB1.out.size)); have HPL := Lib.hid (Nat.lt_of_lt_of_le HX1.out.lt hp); have HX2 := Lib.hid (HX1.out.below hbel HX1.out.lt); clear hbel hpk hp l0 l1 l2 l3))
  have l0 := HX2.out 0 _ rfl
  have l1 := HX2.out 1 _ rfl
  have l2 := HX2.out 2 _ rfl
  have l3 := HX2.out 3 _ rfl
  go_upto_block 0 with (go_at_call 10; refine (NW.out _).mono ?_; rintro e w7 ⟨q, rfl, hq, hqk, hbel⟩; have HQ3 := Lib.hid hqk; have HB3 := Lib.hid (HB2.out.trans (hbel.mono HB2.out.size)); have HP3 := Lib.hid (HP2.out.below hbel); have HPQ := Lib.hid (Nat.lt_of_lt_of_le HP2.out.lt hq); clear hbel hqk hq l0 l1 l2 l3)
  obtain ⟨cp, hcp⟩ : ∃ cp, (c - 1) * 59 = cp := ⟨_, rfl⟩
  have HCP2 : Hid (capS 1 b c 4 = cp) := HCP.out.trans hcp
  have hcpr : 59 ≤ cp ∧ cp ≤ 885 := by omega
  have HCPV := Lib.hid hcp
  obtain ⟨f, hf⟩ : ∃ f, 74 + 1 * c = f := ⟨_, rfl⟩
  have hfr : 76 ≤ f ∧ f ≤ 90 := by omega
  rw [hf] at HP3 HQ3
  have HJ := Lib.hid (show I64 1 ∧ I64 b ∧ I64 c ∧ I64 4 from ⟨j1, hb, hc, j4⟩)
  have hplt := HP3.out.lt
  have hqlt := HQ3.out.lt
  have HNE : Hid (p ≠ q ∧ p < w7.heap.size ∧ q < w7.heap.size) := ⟨Nat.ne_of_lt HPQ.out, hplt, hqlt⟩
  have h0p : 0 < p := Nat.lt_of_le_of_lt (Nat.zero_le _) HPL.out
  have h0q : 0 < q := Nat.lt_of_le_of_lt (Nat.zero_le _) HPQ.out
  have HLow : Hid (∀ wx, Keep w7 wx (fun k => k = p ∨ k = q) → Below w.heap.size w wx) := fun wx hk => HB3.out.trans (hk.below (fun k e => by rcases e with e | e <;> subst e; exact Nat.le_of_lt HPL.out; exact Nat.le_of_lt (Nat.lt_trans HPL.out HPQ.out)) HB3.out.size)
  have HTS0 : Hid (Ts w7 w7 p q 1 b c 4 f 7 none 0 0 [] none 0 0 [] 0 none 0 none 0 []) :=
    ⟨HP3.out, HQ3.out, Keep.refl _ _, HNE.out, fun g e => by simp [Value.ownBlock] at e, fun g e => by simp [Value.ownBlock] at e, Vec.nil _ _ _, Vec.nil _ _ _, FrsAt.nil _ _, fun g e => by simp [Value.ownBlock] at e, fun g e => by simp [Value.ownBlock] at e, fun g e => by simp [Value.ownBlock] at e, fun g e => by simp [Value.ownBlock] at e, fun g e => by simp [Value.ownBlock] at e, fun g e => by simp [Value.ownBlock] at e, by omega⟩
  clear HB0 HX0 HB1 HX1 HP2 HB2 HX2 HCP NW RF hbv hcp hf HQ3 HP3
  go_cut [11, 12] (fun sv fv wx => ∃ (t n : Nat) (A : Option Addr) (cap : Nat) (A' : Option Addr) (cap' : Nat) (A2 : Option Addr) (c2 : Nat) (A3 : Option Addr) (c3 : Nat) (vs : List Value) (bs : List UInt8), sv = .slice A2 t c2 ∧ fv = .slice A3 t c3 ∧ (n : Int) ≤ cp ∧ Ts w7 wx p q 1 b c 4 f 7 A n cap bs A' n cap' bs t A2 c2 A3 c3 vs)
  case first =>
    go_wp2_with fail
    go_loopw [11, 12, 13] (fun sv fv iv wr => ∃ (i t n : Nat) (A : Option Addr) (cap : Nat) (A' : Option Addr) (cap' : Nat) (A2 : Option Addr) (c2 : Nat) (A3 : Option Addr) (c3 : Nat) (vs : List Value) (bs : List UInt8), sv = .slice A2 t c2 ∧ fv = .slice A3 t c3 ∧ iv = .int .i64 (i : Int) ∧ i ≤ 12 ∧ i ≤ nr ∧ (n : Int) ≤ cp ∧ Ts w7 wr p q 1 b c 4 f 7 A n cap bs A' n cap' bs t A2 c2 A3 c3 vs) (fun _ _ iv _ => 12 - (intOf iv).toNat)
    case atStart => exact ⟨0, 0, 0, none, 0, none, 0, none, 0, none, 0, [], [], rfl, rfl, rfl, by omega, by omega, by omega, HTS0.out⟩
    case round =>
      obtain ⟨i, t, n, A, cap, A', cap', A2, c2, A3, c3, vs, bs, rfl, rfl, rfl, hi, hinr, hn, hfs⟩ := hrel
      have HF := Lib.hid hfs
      clear hfs
      by_cases hin : i < nr
      rotate_left
      · have hin1 : ¬ (i : Int) < (nr : Int) := by omega
        clear hin
        go_wp2_with fail
        go_meet
        exact ⟨t, n, A, cap, A', cap', A2, c2, A3, c3, vs, bs, rfl, rfl, hn, HF.out⟩
      have hin1 : (i : Int) < (nr : Int) := by omega
      by_cases hi12 : i = 12
      · subst hi12
        go_wp2_with fail
        go_meet
        exact ⟨t, n, A, cap, A', cap', A2, c2, A3, c3, vs, bs, rfl, rfl, hn, HF.out⟩
      have hi1 : (i : Int) < 12 := by omega
      have hi0 : (0 : Int) ≤ (i : Int) := by omega
      have hile : i + 1 ≤ 12 := by omega
      have hile2 : i + 1 ≤ nr := by omega
      have hn9 : n ≤ 885 := by omega
      obtain ⟨r, ad, _, rfl, hadlt, hrc⟩ := HRS.out.get hin
      have hrc' := hrc.below (HLow.out _ HF.out.keep) (by rw [addr_block]; exact hadlt)
      obtain ⟨ki, Ak, nk, ck, key, Av, nv, cv, val, ex⟩ := r
      obtain ⟨z0, z1, z2, z3, _, _, _⟩ := hrc'
      obtain ⟨_, _, _, _, hky, hvl, hok⟩ := hrc
      dsimp only at z0 z1 z2 z3 hky hvl
      obtain ⟨_, _, k1, k2, k3, k4⟩ := hok
      dsimp only at k1 k2 k3 k4
      obtain ⟨mk, hmk, hmk1, hmk2⟩ := short_len nk 260
      obtain ⟨mv, hmv, hmv1, hmv2⟩ := short_len nv 200
      have SH := Lib.hid (short_any ki ex Ak Av nk ck nv cv mk mv k1 k3 k2 k4 hmk hmv wr)
      obtain ⟨r, hr⟩ : ∃ r, rencS b 7 (n : Int) ki ex (key.take mk) (val.take mv) = r := ⟨_, rfl⟩
      obtain ⟨m, bs1, hnm, hmc, ⟨x, hx⟩, hput⟩ := put_both 1 b c 4 f 7 cp n bs r hn
      have HPU := Lib.hid hput
      have HBX := Lib.hid hx
      have HKV : Hid (Byt w w.heap.size Ak mk (key.take mk) ∧ Byt w w.heap.size Av mv (val.take mv)) := ⟨hky.take hmk1, hvl.take hmv1⟩
      have hm9 : m ≤ 885 := by omega
      have PT : Hid (∀ (wx : World) (pp : Nat) (tk : Int) (AA : Option Addr) (cc : Nat), Below w.heap.size w wx → Pk wx pp 1 b c 4 f 7 AA n cc tk bs → Calls Tryd.prog 11 #[.pointer (some ⟨pp, 0, none⟩), .agg #[.int .i64 ki, .slice Ak mk ck, .slice Av mv cv, .int .i64 ex]] wx fun e w' =>
          ∃ v A1 c1, e = .returned v ∧ Pk w' pp 1 b c 4 f 7 A1 m c1 tk bs1 ∧ Far wx w' pp (Value.slice AA n cc).ownBlock ∧ Born wx (Value.slice AA n cc).ownBlock (Value.slice A1 m c1).ownBlock) := fun wx pp tk AA cc hbx hpk =>
        (pput_any 1 b c 4 f 7 tk cp pp AA n cc bs ki ex (key.take mk) (val.take mv) Ak Av mk ck mv cv w.heap.size wx (HT.out _ hbx) (Nat.lt_of_lt_of_le HSZ.out hbx.size) hpk HJ.out.1 HJ.out.2.1 HJ.out.2.2.1 HJ.out.2.2.2 HCP2.out (by omega) (HKV.out.1.below hbx) (HKV.out.2.below hbx) hbx.size (by omega) (by omega) (by decide) r hr).mono fun e w' h => hput pp tk AA cc wx e w' hpk h
      clear hr hput hx hky hvl hmk hmv k1 k2 k3 k4 hi12 hin hadlt
      go_upto_region 14 with (go_at_call 17; refine SH.out.mono ?_; rintro e w1 ⟨rfl, hb1⟩; have HF1 := Lib.hid (HF.out.later hb1); clear hb1)
      have HF1' : Hid (Ts w7 (w1.alloc (.cells #[.int .i64 ki, .slice Ak mk ck, .slice Av mv cv, .int .i64 ex] 33)) p q 1 b c 4 f 7 A n cap bs A' n cap' bs t A2 c2 A3 c3 vs) := HF1.out.later (below_alloc _ _)
      have HR1 := Lib.hid (Cells.new w1 33 #[.int .i64 ki, .slice Ak mk ck, .slice Av mv cv, .int .i64 ex])
      clear z0 z1 z2 z3
      go_upto_region 16 with (first
        | (go_at_call 11; (with_reducible refine (PT.out _ p (t : Int) A cap (HLow.out _ HF1'.out.keep) HF1'.out.pkp).mono ?_); rintro e w2 ⟨v, A1, c1, rfl, hpk, hf, hbo⟩; have HF2 := Lib.hid (HF1'.out.putp hpk hf hbo hnm (by rw [HBX.out]; exact framS_app (by rw [HF1'.out.pkp.own.len]; exact HF1'.out.le))); have HR2 := Lib.hid (HR1.out.same (hf.block w1.heap.size (by simp) (fun e => by have := HF1.out.pkp.lt; omega) (fun e => by have := HF1.out.pkp.own.lt e.symm; omega))); have y0 := HR2.out 0 _ rfl; have y1 := HR2.out 1 _ rfl; have y2 := HR2.out 2 _ rfl; have y3 := HR2.out 3 _ rfl; clear hpk hf hbo)
        | (go_at_call 11; (with_reducible refine (PT.out _ q 0 A' cap' (HLow.out _ HF2.out.keep) HF2.out.pkq).mono ?_); rintro e w3 ⟨v', A1', c1', rfl, hpk, hf, hbo⟩; have HF3 := Lib.hid (HF2.out.putq hpk hf hbo); clear hpk hf hbo))
      clear y0 y1 y2 y3 HR1 HR2 HF1 HF1' HF2 PT HKV SH
      by_cases hit : i < nt
      · obtain ⟨x, ad', hx1, rfl, _, hxc⟩ := (HTK.out.below (HLow.out _ HF3.out.keep)).get hit
        obtain ⟨tb, rfl⟩ := bool_in hx1
        have hit1 : (i : Int) < (nt : Int) := by omega
        clear hx1 hit
        cases tb
        · go_wp2_with fail
          go_roundw
          case rel => exact ⟨i + 1, t, m, A1, c1, A1', c1', A2, c2, A3, c3, vs, bs1, rfl, rfl, by go_num, hile, hile2, hmc, HF3.out⟩
          case measure => simp [intOf]; omega
        · obtain ⟨N, hN1, hN2⟩ : ∃ N, (t + N) * 59 ≤ m ∧ m < (t + N + 1) * 59 := ⟨m / 59 - t, by have := HF3.out.le; omega, by have := HF3.out.le; omega⟩
          have HNL := Lib.hid hN1
          have TK := Lib.hid (take_any 1 b c 4 f 7 t p A1 m c1 bs1 (by omega) (by omega) (by omega) (by decide) (by decide) HF3.out.le N hN1 hN2 _ (HT.out _ (HLow.out _ HF3.out.keep)) h0p HF3.out.pkp)
          have htN : t + N ≤ 1000 := by omega
          clear hN1 hN2
          go_wp2_with (first
            | (go_at_call 14; refine TK.out.mono ?_; rintro e w4 ⟨A5, c5, A6, c6, us, rfl, htk⟩; have HTk := Lib.hid htk; have HRow := Lib.hid (HF3.out.row1 htk); clear htk)
            | (at_builtin; refine wpList_append_vec rfl Tryd.intw (.tmp 84) (.tmp 85) rfl rfl HRow.out.1 rfl HRow.out.2.1 (ints_one _) ?_ HRow.out.2.2 ?_; omega; intro A7 c7 w5 hv hg ha; have HV5 := Lib.hid hv; have HG5 := Lib.hid hg; have HA5 := Lib.hid ha; have HRow2 := Lib.hid (HF3.out.row2 HTk.out hg); clear hv hg ha)
            | (at_builtin; refine wpList_append_vec rfl Tryd.bytw (.tmp 87) (.tmp 88) rfl rfl HRow2.out.1 rfl HRow2.out.2.1 HRow2.out.2.2.2 ?_ HRow2.out.2.2.1 ?_; omega; intro A8 c8 w6 hv hg ha; have HF6 := Lib.hid (HF3.out.taken HTk.out HV5.out HG5.out HA5.out hv hg ha HNL.out); clear hv hg ha))
          go_roundw
          case rel => exact ⟨i + 1, t + N, m, A1, c1, A1', c1', A7, c7, A8, c8, vs ++ us, bs1, rfl, rfl, by go_num, hile, hile2, hmc, HF6.out⟩
          case measure => simp [intOf]; omega
      · have hit1 : ¬ (i : Int) < (nt : Int) := by omega
        clear hit
        go_wp2_with fail
        go_roundw
        case rel => exact ⟨i + 1, t, m, A1, c1, A1', c1', A2, c2, A3, c3, vs, bs1, rfl, rfl, by go_num, hile, hile2, hmc, HF3.out⟩
        case measure => simp [intOf]; omega
  case rest =>
    obtain ⟨t, n, A, cap, A', cap', A2, c2, A3, c3, vs, bs, rfl, rfl, hn, hfs⟩ := hcut
    have HF := Lib.hid hfs
    clear hfs
    have hn9 : n ≤ 885 := by omega
    obtain ⟨N, hN⟩ : ∃ N, n + padK n = (t + N) * 59 := ⟨(n + padK n) / 59 - t, by have := HF.out.le; have := padK_dvd n; omega⟩
    obtain ⟨T, hT⟩ : ∃ T, t + N = T := ⟨_, rfl⟩
    have hTb : T ≤ 1000 := by have := padK_lt n; omega
    have hT59 : T * 59 ≤ 1000 := by have := padK_lt n; omega
    have PD : Hid (∀ (wx : World) (pp : Nat) (tk : Int) (AA : Option Addr) (cc : Nat), Pk wx pp 1 b c 4 f 7 AA n cc tk bs → Calls Tryd.prog 15 #[.pointer (some ⟨pp, 0, none⟩)] wx fun e w' =>
        e = .returned (.tuple #[]) ∧ ∃ A1 c1, Pg wx w' pp 1 b c 4 f 7 AA n cc A1 (T * 59) c1 tk (bs ++ List.replicate (padK n) 0)) := fun wx pp tk AA cc hpk => by
      have h := pad_any 1 b c 4 f 7 tk pp AA n cc bs (by omega) wx hpk
      rw [hN, hT] at h
      exact h
    have HTN := Lib.hid hT
    have HNL : Hid (n ≤ T * 59) := by show _ ≤ _; rw [← hT, ← hN]; omega
    obtain ⟨bs1, hbs1⟩ : ∃ bs1, bs ++ List.replicate (padK n) 0 = bs1 := ⟨_, rfl⟩
    have HBS := Lib.hid hbs1
    have TKp := Lib.hid (fun (wx : World) (AA : Option Addr) (cc : Nat) (hb : Below w.heap.size w wx) (hle : t * 59 ≤ T * 59) (h : Pk wx p 1 b c 4 f 7 AA (T * 59) cc (t : Int) bs1) => take_any 1 b c 4 f 7 t p AA (T * 59) cc bs1 (by omega) (by omega) (by omega) (by decide) (by decide) hle N (by omega) (by omega) wx (HT.out _ hb) h0p h)
    have TKq := Lib.hid (fun (wx : World) (AA : Option Addr) (cc : Nat) (hb : Below w.heap.size w wx) (h : Pk wx q 1 b c 4 f 7 AA (T * 59) cc 0 bs1) => take_any 1 b c 4 f 7 0 q AA (T * 59) cc bs1 (by omega) (by omega) (by omega) (by decide) (by decide) (by omega) T (by omega) (by omega) wx (HT.out _ hb) h0q h)
    have htN : t + N ≤ 1000 := by omega
    clear hN hT hbs1
    go_wp2_with (first
      | (go_at_call 15; (with_reducible refine (PD.out _ p (t : Int) A cap HF.out.pkp).mono ?_); rintro e w1 ⟨rfl, A1, c1, hg⟩; rw [HBS.out] at hg; have HF1 := Lib.hid (HF.out.putp hg.pk hg.far hg.born HNL.out (by rw [← HBS.out]; exact framS_app (by rw [HF.out.pkp.own.len]; exact HF.out.le))); clear hg)
      | (go_at_call 15; (with_reducible refine (PD.out _ q 0 A' cap' HF1.out.pkq).mono ?_); rintro e w2 ⟨rfl, A1', c1', hg⟩; rw [HBS.out] at hg; have HF2 := Lib.hid (HF1.out.putq hg.pk hg.far hg.born); clear hg)
      | (go_at_call 14; (with_reducible refine (TKp.out _ A1 c1 (HLow.out _ HF2.out.keep) HF2.out.le HF2.out.pkp).mono ?_); rintro e w4 ⟨A5, c5, A6, c6, us, rfl, htk⟩; have HTk := Lib.hid htk; have HRow := Lib.hid (HF2.out.row1 htk); clear htk)
      | (at_builtin; refine wpList_append_vec rfl Tryd.intw (.tmp 99) (.tmp 100) rfl rfl HRow.out.1 rfl HRow.out.2.1 (ints_one _) ?_ HRow.out.2.2 ?_; omega; intro A7 c7 w5 hv hg ha; have HV5 := Lib.hid hv; have HG5 := Lib.hid hg; have HA5 := Lib.hid ha; have HRow2 := Lib.hid (HF2.out.row2 HTk.out hg); clear hv hg ha)
      | (at_builtin; refine wpList_append_vec rfl Tryd.bytw (.tmp 102) (.tmp 103) rfl rfl HRow2.out.1 rfl HRow2.out.2.1 HRow2.out.2.2.2 ?_ HRow2.out.2.2.1 ?_; omega; intro A8 c8 w6 hv hg ha; have hf6 := HF2.out.taken HTk.out HV5.out HG5.out HA5.out hv hg ha (by rw [HTN.out]; exact Nat.le_refl _); rw [HTN.out] at hf6 ⊢; have HF6 := Lib.hid hf6; clear hv hg ha hf6)
      | (go_at_call 14; (with_reducible refine (TKq.out _ A1' c1' (HLow.out _ HF6.out.keep) HF6.out.pkq).mono ?_); rintro e w8 ⟨A9, c9, A10, c10, ys, rfl, htk⟩; have HE := Lib.hid (HF6.out.takeq htk); have HB8 := Lib.hid (HLow.out _ HE.out.2.2.2.2.2.2); clear htk)
      | (go_at_call 9; refine (AW.out _ HB8.out).mono ?_; rintro e w9 ⟨rfl, hbel⟩; have HB9 := Lib.hid (HB8.out.trans (hbel.mono HB8.out.size)); have HW9 := Lib.hid hbel; clear hbel)
      | (go_at_call 18; refine (refInts_same _ _ _ _ _ _ w8.heap.size w8.heap.size w9 (HE.out.1.below HW9.out) (HE.out.2.1.below HW9.out) (by omega)).mono ?_; rintro e w10 ⟨rfl, qq, rfl⟩)
      | (go_at_call 19; refine (refFrames_same _ _ _ _ _ _ _ _ w8.heap.size w8.heap.size _ ((HE.out.2.2.1.below HW9.out).below (below_drewN (Below.refl _ _) _)) ((HE.out.2.2.2.1.below HW9.out).below (below_drewN (Below.refl _ _) _)) ((HE.out.2.2.2.2.1.below HW9.out).below (below_drewN (Below.refl _ _) _)) ((HE.out.2.2.2.2.2.1.below HW9.out).below (below_drewN (Below.refl _ _) _)) (by omega)).mono ?_; rintro e w11 ⟨rfl, qq', rfl⟩))
    go_ret
    exact ⟨rfl, below_drewN HB9.out _⟩
end Go.Proofs.YtecmopfaeopmdaaDoor
