/- PackerFull: the packer in the law's loop; the walk. -/
import Derived.Test.YtecmopfaeopmdaaDoorPackAwake
import Derived.Test.YtecmopfaeopmdaaDoorKeep
import Derived.Test.YtecmopfaeopmdaaDoorPackCmp
import Derived.Deep.CutBlock
namespace Go.Proofs.YtecmopfaeopmdaaDoor
open Go.RowKit

theorem sectS_app (f : Int) (t k : Nat) : ints (sectS f 0 t) ++ ints (sectS f t k) = ints (sectS f 0 (t + k)) := by
  unfold ints sectS
  rw [← List.map_append, List.range_add, List.map_append, List.map_map]
  simp [Function.comp_def]
theorem and63 (x : Int) : ∃ v : Nat, v ≤ 63 ∧ bits .and .i64 x 63 = (v : Int) := by
  have h3 : (BitVec.ofInt 64 x &&& BitVec.ofInt 64 63).toNat ≤ 63 := by
    rw [BitVec.toNat_and]
    exact Nat.le_trans Nat.and_le_right (by decide)
  refine ⟨_, h3, ?_⟩
  show IntKind.i64.wrap ((BitVec.ofInt 64 x &&& BitVec.ofInt 64 63).toNat : Int) = _
  rw [IntKind.wrap_i64]
  omega
theorem ints_at {f : Int} {t j : Nat} (hj : j < t) : (ints (sectS f 0 t))[j]? = some (.int .i64 (f + 1 + (j : Int))) := by
  unfold ints sectS
  simp [hj]

/-- A packer p and a row of sectors, in a loop that began in w7. -/
structure Fs (w7 wr : World) (p : Nat) (a b c d f s : Int) (A : Option Addr) (n cap t : Nat) (bs : List UInt8) (Aa : Option Addr) (ca : Nat) : Prop where
  pk : Pk wr p a b c d f s A n cap (t : Int) bs
  keep : Keep w7 wr (fun k => k = p)
  hi : ∀ g, (Value.slice A n cap).ownBlock = some g → w7.heap.size ≤ g
  all : Vec wr w7.heap.size 3 (.slice Aa t ca) t (ints (sectS f 0 t))
  apart : ∀ g, (Value.slice Aa t ca).ownBlock = some g → ¬ (Value.slice A n cap).ownBlock = some g
  le : t * 59 ≤ n
section
variable {w7 wr w' w'' : World} {p : Nat} {a b c d f s : Int} {A A' : Option Addr} {n n' cap cap' t k : Nat} {bs bs' : List UInt8} {Aa Aa' : Option Addr} {ca ca' : Nat}
theorem Fs.later (h : Fs w7 wr p a b c d f s A n cap t bs Aa ca) (hb : Below wr.heap.size wr w') : Fs w7 w' p a b c d f s A n cap t bs Aa ca :=
  ⟨h.pk.below hb, h.keep.later hb, h.hi, h.all.keep hb, h.apart, h.le⟩
theorem Fs.grow (h : Fs w7 wr p a b c d f s A n cap t bs Aa ca) (hp : p < w7.heap.size) (hpk : Pk w' p a b c d f s A' n' cap' (t : Int) bs') (hf : Far wr w' p (Value.slice A n cap).ownBlock)
    (hb : Born wr (Value.slice A n cap).ownBlock (Value.slice A' n' cap').ownBlock) (hn : n ≤ n') : Fs w7 w' p a b c d f s A' n' cap' t bs' Aa ca := by
  refine ⟨hpk, h.keep.far hf (.inl rfl) (fun g e => .inr (h.hi g e)), ?_, ?_, ?_, Nat.le_trans h.le hn⟩
  · intro g e
    rcases hb with hb | hb
    · rw [hb] at e; exact h.hi g e
    · exact Nat.le_trans h.keep.size (hb g e)
  · exact h.all.same fun g e => hf.block g (h.all.lt e) (fun e' => by have := h.all.ge e; omega) (fun e' => h.apart g e e'.symm)
  · intro g e e'
    rcases hb with hb | hb
    · rw [hb] at e'; exact h.apart g e e'
    · have := hb g e'; have := h.all.lt e; omega
theorem Fs.row (h : Fs w7 wr p a b c d f s A n cap t bs Aa ca) (hp : p < w7.heap.size) {A2 : Option Addr} {c2 : Nat} {A3 : Option Addr} {c3 : Nat} {vs : List Value} (htk : Tk wr w' p a b c d f s A n cap t bs k A2 c2 A3 c3 vs) :
    Vec w' w7.heap.size 3 (.slice Aa t ca) t (ints (sectS f 0 t)) ∧ Vat w' w'.heap.size A2 k (ints (sectS f t k)) ∧ w7.heap.size ≤ w'.heap.size :=
  ⟨h.all.same fun g e => htk.far.block g (h.all.lt e) (fun e' => by have := h.all.ge e; omega) (fun e' => by cases e'), htk.sec.vat, Nat.le_trans h.keep.size htk.far.size⟩
theorem Fs.taken (h : Fs w7 wr p a b c d f s A n cap t bs Aa ca) (hp : p < w7.heap.size) {A2 : Option Addr} {c2 : Nat} {A3 : Option Addr} {c3 : Nat} {vs : List Value} (htk : Tk wr w' p a b c d f s A n cap t bs k A2 c2 A3 c3 vs)
    (hv : Vec w'' w7.heap.size 3 (.slice Aa' (t + k) ca') (t + k) (ints (sectS f 0 t) ++ ints (sectS f t k))) (hg : w'.grownBy w'' (Value.slice Aa t ca).ownBlock)
    (ha : (Value.slice Aa' (t + k) ca').ownBlock = (Value.slice Aa t ca).ownBlock ∨ (Value.slice Aa' (t + k) ca').ownBlock = some w'.heap.size) (hle : (t + k) * 59 ≤ n) :
    Fs w7 w'' p a b c d f s A n cap (t + k) bs Aa' ca' := by
  refine ⟨htk.pk.grown hg (fun e => by have := h.all.ge e; omega) (fun g e e' => h.apart g e' e), (h.keep.far htk.far (.inl rfl) (fun g e => by cases e)).row hg (fun g e => .inr (h.all.ge e)), h.hi, by rw [← sectS_app]; exact hv, ?_, hle⟩
  intro g e e'
  rcases ha with ha | ha
  · rw [ha] at e; exact h.apart g e e'
  · rw [ha] at e
    injection e with e
    have := h.pk.own.lt e'
    have := htk.far.size
    omega
end

set_option maxRecDepth 100000 in
set_option maxHeartbeats 8000000 in
theorem packerFull_any (a b c d nn : Int) (At : Option Addr) (nt ct : Nat) (tks : List Bool) (w : World) (ht : TabAt w) (h0 : 0 < w.heap.size) (hb : I64 b) (hc : I64 c)
    (htks : Vat w w.heap.size At nt (tks.map Value.bool)) :
    Calls Tryd.prog 3 #[.agg #[.int .i64 a, .int .i64 b, .int .i64 c, .int .i64 d], .int .i64 nn, .slice At nt ct] w fun e w' => e = .returned (.bool true) ∧ Below w.heap.size w w' := by
  have HSZ := Lib.hid h0
  have HT : Hid (∀ w', Below w.heap.size w w' → TabAt w') := fun w' hb => ht.below hb h0
  have HTK := Lib.hid htks
  have j1 : I64 1 := i64_ok (by decide) (by decide)
  have j4 : I64 4 := i64_ok (by decide) (by decide)
  have RF := Lib.hid (refForm_any 1 b c 4 j1 hb hc j4)
  have AW : Hid (∀ w', Below w.heap.size w w' → Calls Tryd.prog 9 #[] w' fun e w'' => e = .returned (.bool true) ∧ Below w'.heap.size w' w'') := fun w' hb => packAwake_any w' (HT.out _ hb) (Nat.lt_of_lt_of_le HSZ.out hb.size)
  have HB0 : Hid (Below w.heap.size w (w.alloc (.cells #[.int .i64 1, .int .i64 b, .int .i64 c, .int .i64 4] 23))) := (Below.refl _ _).alloc (Nat.le_refl _) _
  have HX0 := Lib.hid (Cells.new w 23 #[.int .i64 1, .int .i64 b, .int .i64 c, .int .i64 4])
  clear ht h0 htks
  obtain ⟨fo, hfo⟩ : ∃ fo, form 1 b c 4 = fo := ⟨_, rfl⟩
  rw [hfo] at RF
  have FOARM : True := trivial
  cases fo
  · clear hfo
    go_enter Tryd.func3, Tryd.ntmps3
    go_wp2_with (first
      | (go_at_call 8; refine (RF.out _).mono ?_; rintro e w1 ⟨rfl, hbel⟩; have HB1 := Lib.hid (HB0.out.trans (hbel.mono HB0.out.size)); clear hbel)
      | (go_at_call 9; refine (AW.out _ HB1.out).mono ?_; rintro e w2 ⟨rfl, hbel⟩; have HB2 := Lib.hid (HB1.out.trans (hbel.mono HB1.out.size)); clear hbel))
    go_ret
    exact ⟨rfl, HB2.out⟩
  by_cases hc16 : 16 < c
  · clear hfo
    go_enter Tryd.func3, Tryd.ntmps3
    go_wp2_with (first
      | (go_at_call 8; refine (RF.out _).mono ?_; rintro e w1 ⟨rfl, hbel⟩; have HB1 := Lib.hid (HB0.out.trans (hbel.mono HB0.out.size)); have HX1 := Lib.hid (HX0.out.below hbel (by simp)); have l2 := HX1.out 2 _ rfl; clear hbel)
      | (go_at_call 9; refine (AW.out _ HB1.out).mono ?_; rintro e w2 ⟨rfl, hbel⟩; have HB2 := Lib.hid (HB1.out.trans (hbel.mono HB1.out.size)); clear hbel))
    go_ret
    exact ⟨rfl, HB2.out⟩
  obtain ⟨_, _, hbv, h2c, _, _, _, _⟩ := form_true hfo
  have HFO := Lib.hid hfo
  have NW : Hid (∀ w, Calls Tryd.prog 10 #[.agg #[.int .i64 1, .int .i64 b, .int .i64 c, .int .i64 4], .int .i64 2, .int .i64 9] w fun e w' => ∃ p, e = .returned (.tuple #[.pointer (some ⟨p, 0, none⟩), .int .i64 0]) ∧ w.heap.size ≤ p ∧ Pk w' p 1 b c 4 (74 + 2 * c) 9 none 0 0 0 [] ∧ Below w.heap.size w w') := fun w =>
    pnew_any 1 b c 4 2 9 j1 hb hc j4 hfo (by decide) (by decide) (by decide) w
  have HCP : Hid (capS 1 b c 4 = (c - 1) * 59) := by show _ = _; rw [capS, if_pos hfo]
  clear hfo
  have kc := fun (w : World) (C : Array Value) (n c : Nat) => Lib.run_convert_bytes_const (P := Tryd.prog) w 31 5 C n c Tryd.underlying31 Tryd.underlying5
  obtain ⟨vn, hvn, hve⟩ := and63 nn
  have HVE := Lib.hid hve
  go_enter Tryd.func3, Tryd.ntmps3
  go_upto_region 8 with (first
    | (go_at_call 8; refine (RF.out _).mono ?_; rintro e w1 ⟨rfl, hbel⟩; have HB1 := Lib.hid (HB0.out.trans (hbel.mono HB0.out.size)); have HX1 := Lib.hid (HX0.out.below hbel (by simp)); have l0 := HX1.out 0 _ rfl; have l1 := HX1.out 1 _ rfl; have l2 := HX1.out 2 _ rfl; have l3 := HX1.out 3 _ rfl; clear hbel)
    | (go_at_call 10; refine (NW.out _).mono ?_; rintro e w2 ⟨p, rfl, hp, hpk, hbel⟩; have HP2 := Lib.hid hpk; have HB2 := Lib.hid (HB1.out.trans (hbel.mono HB1.out.size)); have HPL := Lib.hid (Nat.lt_of_lt_of_le HX1.out.lt hp); have HX2 := Lib.hid (HX1.out.below hbel HX1.out.lt); clear hbel hpk hp l0 l1 l2 l3)
    | (at_make; (refine wpList_make_byt rfl Tryd.u8w (.tmp 43) (.tmp 43) rfl _ vn rfl rfl rfl ?_ ?_; omega; intro w3 hown hbel; have HV3 := Lib.hid hown; have HB3a := Lib.hid hbel; clear hown hbel)))
  go_cut [9, 10] (fun rp av wx => av = .slice none 0 0 ∧ ∃ (K V R : Nat), rp = .pointer (some ⟨R, 0, none⟩) ∧ Cells wx R [.int .i64 1, .slice (some ⟨K, 0, none⟩) 3 3, .slice (some ⟨V, 0, none⟩) vn vn, .int .i64 0] ∧ p < R ∧ p < K ∧ p < V ∧ K < wx.heap.size ∧ V < wx.heap.size ∧ Byt wx wx.heap.size (some ⟨K, 0, none⟩) 3 [107, 101, 121] ∧ Byt wx wx.heap.size (some ⟨V, 0, none⟩) vn (List.replicate vn 0) ∧ Below w2.heap.size w2 wx)
  case first =>
    go_wp2_with fail
    go_meet
    have hpw := HP2.out.lt
    have hs3 : w2.heap.size + 1 ≤ w3.heap.size := by have := HB3a.out.size; simpa using this
    have hv3 := HV3.out.lt (g := _) rfl
    refine ⟨rfl, w2.heap.size, _, w3.heap.size, rfl, Cells.new w3 _ _, by omega, hpw, ?_, by simp; omega, ?_, ?_, ?_, ?_⟩
    · first | omega | (simp; omega)
    · first | omega | (simp at hv3 ⊢; omega)
    · exact ((((Byt.new w2 _ _ _ [107, 101, 121] rfl).below (HB3a.out.mono (by first | omega | exact Nat.le_refl _ | simp))).more hs3).alloc (Nat.le_refl _) _).more (below_alloc w3 _).size
    · have hby3 := HV3.out.byt
      rw [World.size_alloc] at hby3
      exact (hby3.alloc (Nat.le_refl _) _).more (below_alloc w3 _).size
    · exact ((below_alloc w2 _).trans (HB3a.out.mono (by first | omega | simp))).alloc (by omega) _
  case rest =>
    obtain ⟨rfl, K, V, R, rfl, hcr, hpR, hpK, hpV, hK, hV, hbk, hbv2, hbel⟩ := hcut
    have HCR := Lib.hid hcr
    have HBK := Lib.hid hbk
    have HBV := Lib.hid hbv2
    have HBW := Lib.hid (HB2.out.trans (hbel.mono HB2.out.size))
    have HPW := Lib.hid (HP2.out.below hbel)
    have HXW := Lib.hid (HX2.out.below hbel HX2.out.lt)
    have hplt := HPW.out.lt
    have hRlt := hcr.lt
    clear hcr hbk hbv2 hbel
    obtain ⟨w7, hw7⟩ : ∃ x, x = wc := ⟨_, rfl⟩
    subst hw7
    obtain ⟨cp, hcp⟩ : ∃ cp, (c - 1) * 59 = cp := ⟨_, rfl⟩
    have HCP2 : Hid (capS 1 b c 4 = cp) := HCP.out.trans hcp
    have hcpr : 59 ≤ cp ∧ cp ≤ 885 := by omega
    obtain ⟨f, hf⟩ : ∃ f, 74 + 2 * c = f := ⟨_, rfl⟩
    have hfr : 78 ≤ f ∧ f ≤ 106 := by omega
    rw [hf] at HPW
    have HJ := Lib.hid (show I64 1 ∧ I64 b ∧ I64 c ∧ I64 4 from ⟨j1, hb, hc, j4⟩)
    have h0p : 0 < p := Nat.lt_of_le_of_lt (Nat.zero_le _) HPL.out
    have HLow : Hid (∀ wx, Keep w7 wx (fun k => k = p) → Below w.heap.size w wx) := fun wx hk => HBW.out.trans (hk.below (fun k e => by subst e; exact Nat.le_of_lt HPL.out) HBW.out.size)
    have HRE : Hid (∀ n : Nat, n ≤ 100000 → (rencS b 9 (n : Int) 1 0 [107, 101, 121] (List.replicate vn 0)).2 = 0 ∧ (rencS b 9 (n : Int) 1 0 [107, 101, 121] (List.replicate vn 0)).1.length = 19 + vn) := fun n hn => by
      have hrc : rcheck b 1 0 3 vn = 0 := by
        unfold rcheck
        rcases hbv with rfl | rfl
        · simp; omega
        · simp; omega
      unfold rencS
      rw [show ([107, 101, 121] : List UInt8).length = 3 from rfl, List.length_replicate, hrc, if_neg (by decide), if_neg (by omega)]
      exact ⟨rfl, by rw [rbytes_len]; simp⟩
    clear HB0 HX0 HB1 HX1 HP2 HB2 HX2 HCP NW RF HV3 HB3a kc hve HVE hbv
    go_upto_block 0 with fail
    go_cut [10] (fun av wx => ∃ (t n : Nat) (A : Option Addr) (cap : Nat) (Aa : Option Addr) (ca : Nat) (bs : List UInt8), av = .slice Aa t ca ∧ (n : Int) ≤ cp ∧ Fs w7 wx p 1 b c 4 f 9 A n cap t bs Aa ca)
    case first =>
      go_wp2_with fail
      go_loopw [10, 11] (fun av iv wr => ∃ (i t n : Nat) (A : Option Addr) (cap : Nat) (Aa : Option Addr) (ca : Nat) (bs : List UInt8), av = .slice Aa t ca ∧ iv = .int .i64 (i : Int) ∧ i ≤ 60 ∧ (n : Int) ≤ cp ∧ Fs w7 wr p 1 b c 4 f 9 A n cap t bs Aa ca) (fun _ iv _ => 60 - (intOf iv).toNat)
      case atStart =>
        exact ⟨0, 0, 0, none, 0, none, 0, [], rfl, rfl, by omega, by omega, ⟨HPW.out, Keep.refl _ _, fun g e => by simp [Value.ownBlock] at e, Vec.nil _ _ _, fun g e => by simp [Value.ownBlock] at e, by omega⟩⟩
      case round =>
        obtain ⟨i, t, n, A, cap, Aa, ca, bs, rfl, rfl, hi, hn, hfs⟩ := hrel
        have HF := Lib.hid hfs
        clear hfs
        by_cases hi60 : i = 60
        · subst hi60
          go_wp2_with fail
          go_meet
          exact ⟨t, n, A, cap, Aa, ca, bs, rfl, hn, HF.out⟩
        have hi1 : (i : Int) < 60 := by omega
        have hile : i + 1 ≤ 60 := by omega
        have hn9 : n ≤ 885 := by omega
        obtain ⟨r, hr⟩ : ∃ r, rencS b 9 (n : Int) 1 0 [107, 101, 121] (List.replicate vn 0) = r := ⟨_, rfl⟩
        have HR2 := Lib.hid (HRE.out n (by omega)).1
        have HR1 := Lib.hid (HRE.out n (by omega)).2
        rw [hr] at HR2 HR1
        have HNK : Hid (∀ x, p < x → ¬ x = p) := fun x h => by omega
        have HCR2 := Lib.hid (HCR.out.kept HF.out.keep hRlt (HNK.out R hpR))
        have HBK2 := Lib.hid (HBK.out.kept HF.out.keep (fun ad e => by injection e with e; subst e; exact ⟨hK, HNK.out K hpK⟩))
        have HBV2 := Lib.hid (HBV.out.kept HF.out.keep (fun ad e => by injection e with e; subst e; exact ⟨hV, HNK.out V hpV⟩))
        have hszr := HF.out.keep.size
        have PT := Lib.hid (pput_any 1 b c 4 f 9 (t : Int) cp p A n cap bs 1 0 [107, 101, 121] (List.replicate vn 0) (some ⟨K, 0, none⟩) (some ⟨V, 0, none⟩) 3 3 vn vn w7.heap.size wr (HT.out _ (HLow.out _ HF.out.keep)) (Nat.lt_of_lt_of_le HSZ.out (HLow.out _ HF.out.keep).size) HF.out.pk HJ.out.1 HJ.out.2.1 HJ.out.2.2.1 HJ.out.2.2.2 HCP2.out (by omega) HBK2.out HBV2.out hszr (by decide) (by omega) (by decide) r hr)
        have z0 := HCR2.out 0 _ rfl
        have z1 := HCR2.out 1 _ rfl
        have z2 := HCR2.out 2 _ rfl
        have z3 := HCR2.out 3 _ rfl
        clear hi60 hi hr
        by_cases hfit : cp - n < 19 + vn
        · have hge : ¬ ((19 : Int) + vn ≤ cp - n) := by omega
          go_upto_region 14 with (go_at_call 11; refine PT.out.mono ?_; intro e w1 hput; obtain ⟨rfl, hb1⟩ := pput_full HR2.out (by rw [HR1.out]; simpa using hfit) hput; have HF1 := Lib.hid (HF.out.later hb1); have HC1 := Lib.hid (HCR2.out.below hb1 (Nat.lt_of_lt_of_le hRlt hszr)); clear hput hb1)
          go_cut [67] (fun v wx => v = .bool false ∧ Below w1.heap.size w1 wx)
          case first =>
            have q0 := HC1.out 0 _ rfl
            have q1 := HC1.out 1 _ rfl
            have q2 := HC1.out 2 _ rfl
            have q3 := HC1.out 3 _ rfl
            have hRw1 := HC1.out.lt
            clear z0 z1 z2 z3
            have RM := Lib.hid (fun (wx : World) (hb : Below w1.heap.size w1 wx) => room_any 1 b c 4 f 9 (t : Int) p A n cap bs cp HJ.out.1 HJ.out.2.1 HJ.out.2.2.1 HJ.out.2.2.2 HCP2.out (by omega) wx (HF1.out.pk.below hb))
            have LN := Lib.hid (fun wx => refLength_any 1 0 (some ⟨K, 0, none⟩) (some ⟨V, 0, none⟩) 3 3 vn vn (by decide) (by omega) wx)
            have HGE : Hid (decide ((16 : Int) + 3 + (vn : Int) ≤ cp - (n : Int)) = false) := decide_eq_false (by omega)
            have hge2 : ¬ ((16 : Int) + 3 + (vn : Int) ≤ cp - (n : Int)) := by omega
            go_region_with (first
              | (go_at_call 12; refine (RM.out _ (by repeat (first | with_reducible exact Below.refl _ _ | with_reducible exact HBl.out | with_reducible refine Below.drew ?_ | with_reducible refine below_drewN ?_ _))).mono ?_; rintro e w2 ⟨rfl, hb2⟩; have HBr : Hid (Below w1.heap.size w1 w2) := (by first | exact (HBl.out.drew).trans (hb2.mono HBl.out.size) | exact HBl.out.trans (hb2.mono HBl.out.size) | exact ((Below.refl w1.heap.size w1).drew).trans hb2 | exact hb2); have HCr := Lib.hid (HC1.out.below HBr.out hRw1); have r0 := HCr.out 0 _ rfl; have r1 := HCr.out 1 _ rfl; have r2 := HCr.out 2 _ rfl; have r3 := HCr.out 3 _ rfl; clear hb2)
              | (go_at_call 13; refine (LN.out _).mono ?_; rintro e w3 ⟨rfl, hb3⟩; have HBl : Hid (Below w1.heap.size w1 w3) := (by first | exact (HBr.out.drew).trans (hb3.mono HBr.out.size) | exact HBr.out.trans (hb3.mono HBr.out.size) | exact ((Below.refl w1.heap.size w1).drew).trans hb3 | exact hb3); clear hb3))
            all_goals
              go_wp2_with fail
              (try go_simp)
              go_meet
              first | exact ⟨congrArg Value.bool (decide_eq_false (by omega)), HBr.out⟩ | exact ⟨congrArg Value.bool (decide_eq_false (by omega)), HBl.out⟩
          case rest =>
            obtain ⟨rfl, hbel⟩ := hcut
            have HF2 := Lib.hid (HF1.out.later hbel)
            clear hbel
            go_wp2_with fail
            go_meet
            exact ⟨t, n, A, cap, Aa, ca, bs, rfl, hn, HF2.out⟩
        · obtain ⟨m, hm⟩ : ∃ m, n + (19 + vn) = m := ⟨_, rfl⟩
          have hmc : (m : Int) ≤ cp := by omega
          have hmn : n ≤ m := by omega
          have HM := Lib.hid hm
          have hmb : m ≤ 885 := by omega
          clear hm
          obtain ⟨bs1, hbs1⟩ : ∃ bs1, bs ++ r.1 = bs1 := ⟨_, rfl⟩
          have HBS := Lib.hid hbs1
          clear hbs1
          go_upto_region 16 with (go_at_call 11; refine PT.out.mono ?_; intro e w1 hput; obtain ⟨rfl, A1, c1, hpk1, hf1, hbo1⟩ := pput_good HR2.out (by rw [HR1.out]; simpa using hfit) hput; rw [HR1.out, HM.out] at hpk1 hbo1; rw [HBS.out] at hpk1; rw [HR1.out]; have HF1 := Lib.hid (HF.out.grow hplt hpk1 hf1 hbo1 hmn); clear hput hpk1 hf1 hbo1)
          clear hfit
          by_cases hin : i < nt
          · obtain ⟨x, ad, hx1, rfl, _, hxc⟩ := (HTK.out.below (HLow.out _ HF1.out.keep)).get hin
            obtain ⟨tb, rfl⟩ : ∃ tb : Bool, x = .bool tb := by
              rw [List.getElem?_map] at hx1
              obtain ⟨tb, _, rfl⟩ := Option.map_eq_some_iff.1 hx1
              exact ⟨tb, rfl⟩
            have hin1 : (i : Int) < (nt : Int) := by omega
            have hi0 : (0 : Int) ≤ (i : Int) := by omega
            clear hx1 hin
            cases tb
            · go_wp2_with fail
              go_roundw
              case rel => exact ⟨i + 1, t, m, A1, c1, Aa, ca, bs1, rfl, by go_num, hile, hmc, HF1.out⟩
              case measure => simp [intOf]; omega
            · obtain ⟨N, hN1, hN2⟩ : ∃ N, (t + N) * 59 ≤ m ∧ m < (t + N + 1) * 59 := ⟨m / 59 - t, by have := HF1.out.le; omega, by have := HF1.out.le; omega⟩
              have HNL := Lib.hid hN1
              have TK := Lib.hid (take_any 1 b c 4 f 9 t p A1 m c1 bs1 (by omega) (by omega) (by omega) (by decide) (by decide) HF1.out.le N hN1 hN2 _ (HT.out _ (HLow.out _ HF1.out.keep)) h0p HF1.out.pk)
              have htN : t + N ≤ 1000 := by omega
              clear hN1 hN2
              go_wp2_with (first
                | (go_at_call 14; refine TK.out.mono ?_; rintro e w2 ⟨A2, c2, A3, c3, vs, rfl, htk⟩; have HTk := Lib.hid htk; have HRow := Lib.hid (HF1.out.row hplt htk); clear htk)
                | (at_builtin; refine wpList_append_vec rfl Tryd.intw (.tmp 83) (.tmp 84) rfl rfl HRow.out.1 rfl HRow.out.2.1 (ints_one _) ?_ HRow.out.2.2 ?_; omega; intro A4 c4 w4 hv hg ha; have HF4 := Lib.hid (HF1.out.taken hplt HTk.out hv hg ha HNL.out); clear hv hg ha))
              go_roundw
              case rel => exact ⟨i + 1, t + N, m, A1, c1, A4, c4, bs1, rfl, by go_num, hile, hmc, HF4.out⟩
              case measure => simp [intOf]; omega
          · have hin1 : ¬ (i : Int) < (nt : Int) := by omega
            clear hin
            go_wp2_with fail
            go_roundw
            case rel => exact ⟨i + 1, t, m, A1, c1, Aa, ca, bs1, rfl, by go_num, hile, hmc, HF1.out⟩
            case measure => simp [intOf]; omega
    case rest =>
      obtain ⟨t, n, A, cap, Aa, ca, bs, rfl, hn, hfs⟩ := hcut
      have HF := Lib.hid hfs
      clear hfs
      obtain ⟨N, hN⟩ : ∃ N, n + padK n = (t + N) * 59 := ⟨(n + padK n) / 59 - t, by have := HF.out.le; have := padK_dvd n; omega⟩
      obtain ⟨T, hT⟩ : ∃ T, t + N = T := ⟨_, rfl⟩
      have hTc : (T : Int) ≤ c - 1 := by rw [hT] at hN; unfold padK at hN; omega
      have hTb : T ≤ 15 := by omega
      have PD0 := pad_any 1 b c 4 f 9 (t : Int) p A n cap bs (by omega) _ HF.out.pk
      rw [hN, hT] at PD0
      have PD := Lib.hid PD0
      have HTN := Lib.hid hT
      have HNL : Hid (n ≤ T * 59) := by show _ ≤ _; rw [← hT, ← hN]; omega
      obtain ⟨bs1, hbs1⟩ : ∃ bs1, bs ++ List.replicate (padK n) 0 = bs1 := ⟨_, rfl⟩
      have HBS := Lib.hid hbs1
      have TK := Lib.hid (fun (wx : World) (A1 : Option Addr) (c1 : Nat) (h : Fs w7 wx p 1 b c 4 f 9 A1 (T * 59) c1 t bs1 Aa ca) => take_any 1 b c 4 f 9 t p A1 (T * 59) c1 bs1 (by omega) (by omega) (by omega) (by decide) (by decide) h.le N (by omega) (by omega) wx (HT.out _ (HLow.out _ h.keep)) h0p h.pk)
      have htN : t + N ≤ 1000 := by omega
      clear PD0 hN hT hbs1
      go_upto_region 22 with (first
        | (go_at_call 15; refine PD.out.mono ?_; rintro e w1 ⟨rfl, A1, c1, hg⟩; rw [HBS.out] at hg; have HF1 := Lib.hid (HF.out.grow hplt hg.pk hg.far hg.born HNL.out); clear hg)
        | (go_at_call 14; refine (TK.out _ _ _ HF1.out).mono ?_; rintro e w2 ⟨A2, c2, A3, c3, vs, rfl, htk⟩; have HTk := Lib.hid htk; have HRow := Lib.hid (HF1.out.row hplt htk); clear htk)
        | (at_builtin; refine wpList_append_vec rfl Tryd.intw (.tmp 93) (.tmp 94) rfl rfl HRow.out.1 rfl HRow.out.2.1 (ints_one _) ?_ HRow.out.2.2 ?_; omega; intro A4 c4 w4 hv hg ha; have hf4 := HF1.out.taken hplt HTk.out hv hg ha (by rw [HTN.out]; exact Nat.le_refl _); rw [HTN.out] at hf4 ⊢; have HF4 := Lib.hid hf4; clear hv hg ha hf4))
      have RM := Lib.hid (room_any 1 b c 4 f 9 (T : Int) p A1 (T * 59) c1 bs1 cp HJ.out.1 HJ.out.2.1 HJ.out.2.2.1 HJ.out.2.2.2 HCP2.out (by omega) w4 HF4.out.pk)
      have HX4 := Lib.hid (HXW.out.kept HF4.out.keep (Nat.lt_trans HPL.out hplt) (Nat.ne_of_lt HPL.out))
      have l2 := HX4.out 2 _ rfl
      have hc1 : (T : Int) * 59 ≤ cp := by omega
      go_wp2_with (first
        | (go_at_call 12; refine RM.out.mono ?_; rintro e w5 ⟨rfl, hb5⟩; have HF5 := Lib.hid (HF4.out.later hb5); have HX5 := Lib.hid (HX4.out.below hb5 (Nat.lt_of_lt_of_le (Nat.lt_trans HPL.out hplt) HF4.out.keep.size)); have m2 := HX5.out 2 _ rfl; clear hb5)
        | (go_at_call 16; refine (off_any _ _ _ _ _ _ _ _ _ _ _ _ _ HF5.out.pk).mono ?_; rintro e w6 ⟨rfl, rfl⟩))
      have HV := Lib.hid HF5.out.all.vat
      have TK2 : Hid (∀ wx, Fs w7 wx p 1 b c 4 f 9 A1 (T * 59) c1 T bs1 A4 c4 → Calls Tryd.prog 14 #[.pointer (some ⟨p, 0, none⟩)] wx fun e w' => ∃ A2 c2 A3 c3, e = .returned (.tuple #[.slice A2 0 c2, .slice A3 0 c3]) ∧ Below w.heap.size w w') := fun wx h => by
        refine (take_any 1 b c 4 f 9 T p A1 (T * 59) c1 bs1 (by omega) (by omega) (by omega) (by decide) (by decide) (Nat.le_refl _) 0 (by omega) (by omega) wx (HT.out _ (HLow.out _ h.keep)) h0p h.pk).mono ?_
        rintro e w' ⟨A2, c2, A3, c3, vs, rfl, htk⟩
        exact ⟨A2, c2, A3, c3, rfl, HLow.out _ (h.keep.far htk.far (.inl rfl) (fun g e => by cases e))⟩
      clear RM TK PD l2 hc1
      go_loopw [117] (fun iv wr => ∃ j : Nat, j ≤ T ∧ iv = .int .i64 (j : Int) ∧ ∃ qd, wr = w5.drewN qd) (fun iv _ => T - (intOf iv).toNat)
      case atStart => exact ⟨0, Nat.zero_le _, rfl, 0, rfl⟩
      case round =>
        obtain ⟨j, hj, rfl, qd, rfl⟩ := hrel
        by_cases hlt : j < T
        · obtain ⟨x, ad, hx1, rfl, _, hxc⟩ := HV.out.get hlt
          obtain rfl : x = .int .i64 (f + 1 + (j : Int)) := Option.some.inj (hx1.symm.trans (ints_at hlt))
          have hj0 : (0 : Int) ≤ (j : Int) := by omega
          have hj1 : (j : Int) < (T : Int) := by omega
          clear hx1
          go_wp2
          go_quiet (fail)
          go_wp2
          go_roundw
          case rel => exact ⟨j + 1, by omega, by go_num, _, rfl⟩
          case measure => simp [intOf]; omega
        · have hjT : j = T := by omega
          subst hjT
          have HF6 := Lib.hid (HF5.out.later (below_drewN (Below.refl _ _) qd))
          go_wp2_with (first
            | (go_at_call 14; refine (TK2.out _ HF6.out).mono ?_; rintro e w8 ⟨A5, c5, A6, c6, rfl, hbel⟩; have HB8 := Lib.hid hbel; clear hbel)
            | (go_at_call 9; refine (AW.out _ HB8.out).mono ?_; rintro e w9 ⟨rfl, hbel⟩; have HB9 := Lib.hid (HB8.out.trans (hbel.mono HB8.out.size)); clear hbel))
          go_ret
          exact ⟨rfl, HB9.out⟩
end Go.Proofs.YtecmopfaeopmdaaDoor
