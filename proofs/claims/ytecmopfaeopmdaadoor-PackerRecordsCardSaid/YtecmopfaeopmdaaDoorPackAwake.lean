/- The packer: Awake; PackerNone. -/
import Derived.Test.YtecmopfaeopmdaaDoorPackTake
import Derived.Lib.SlBytesConst
namespace Go.Proofs.YtecmopfaeopmdaaDoor
open Go.RowKit

/-- What Put returns, by the cases. -/
theorem pput_bad {p : Nat} {a b c d f s tk cp : Int} {A : Option Addr} {n cap : Nat} {bs : List UInt8} {r : List UInt8 × Int} {w w' : World} {e : Ending} (hz : ¬ r.2 = 0) (h : PPut p a b c d f s tk cp A n cap bs r w e w') : e = .returned (.tuple #[.int .i64 0, .int .i64 0, .int .i64 r.2]) ∧ Below w.heap.size w w' := by
  rcases h with ⟨_, h1, h2⟩ | ⟨h1, _⟩ | ⟨h1, _⟩
  · exact ⟨h1, h2⟩
  · exact absurd h1 hz
  · exact absurd h1 hz
theorem pput_full {p : Nat} {a b c d f s tk cp : Int} {A : Option Addr} {n cap : Nat} {bs : List UInt8} {r : List UInt8 × Int} {w w' : World} {e : Ending} (hz : r.2 = 0) (hf : cp - n < r.1.length) (h : PPut p a b c d f s tk cp A n cap bs r w e w') : e = .returned (.tuple #[.int .i64 0, .int .i64 0, .int .i64 8]) ∧ Below w.heap.size w w' := by
  rcases h with ⟨h1, _⟩ | ⟨_, _, h1, h2⟩ | ⟨_, h1, _⟩
  · exact absurd hz h1
  · exact ⟨h1, h2⟩
  · exact absurd hf h1
theorem pput_good {p : Nat} {a b c d f s tk cp : Int} {A : Option Addr} {n cap : Nat} {bs : List UInt8} {r : List UInt8 × Int} {w w' : World} {e : Ending} (hz : r.2 = 0) (hf : ¬ cp - n < r.1.length) (h : PPut p a b c d f s tk cp A n cap bs r w e w') : e = .returned (.tuple #[.int .i64 (n : Int), .int .i64 (r.1.length : Int), .int .i64 0]) ∧ ∃ A' cap', Pk w' p a b c d f s A' (n + r.1.length) cap' tk (bs ++ r.1) ∧ Far w w' p (Value.slice A n cap).ownBlock ∧ Born w (Value.slice A n cap).ownBlock (Value.slice A' (n + r.1.length) cap').ownBlock := by
  rcases h with ⟨h1, _⟩ | ⟨_, h1, _⟩ | ⟨_, _, h1, h2⟩
  · exact absurd hz h1
  · exact absurd h1 hf
  · exact ⟨h1, h2⟩
theorem Pk.lt {w : World} {p : Nat} {a b c d f s tk : Int} {A : Option Addr} {n cap : Nat} {bs : List UInt8} (h : Pk w p a b c d f s A n cap tk bs) : p < w.heap.size := h.cells.lt
/-- A call that may change the packer alone, and its stream. -/
theorem Far.low {w0 w w' : World} {p : Nat} {a b c d f s tk : Int} {A : Option Addr} {n cap : Nat} {bs : List UInt8} (hb : Below w0.heap.size w0 w) (hp : w0.heap.size ≤ p) (h : Pk w p a b c d f s A n cap tk bs) (hf : Far w w' p (Value.slice A n cap).ownBlock) : Below w0.heap.size w0 w' :=
  hb.trans (hf.below hp (fun k e => by have := h.own.ge e; omega) hb.size)
theorem Far.low_none {w0 w w' : World} {p : Nat} (hb : Below w0.heap.size w0 w) (hp : w0.heap.size ≤ p) (hf : Far w w' p none) : Below w0.heap.size w0 w' :=
  hb.trans (hf.below hp (fun k e => by cases e) hb.size)

theorem i64_ok {a : Int} (h1 : -9223372036854775808 ≤ a) (h2 : a ≤ 9223372036854775807) : I64 a := ⟨h1, h2⟩
theorem Vec.int0 {w : World} {base : Nat} {e : TypeId} {A : Option Addr} {n c : Nat} {x : Value} {xs : List Value} (h : Vec w base e (.slice A n c) n (x :: xs)) : ∃ g, A = some ⟨g, 0, none⟩ ∧ w.cell? ⟨g, 0, none⟩ = some x := by
  have hn : 0 < n := by have := h.len; simp at this; omega
  obtain ⟨g, cap, hv, _, hlt⟩ := World.ownsRow.form h hn
  have hA : A = some ⟨g, 0, none⟩ := by injection hv
  subst hA
  exact ⟨g, rfl, World.ownsRow.cells h (g := g) rfl 0 x rfl⟩

set_option maxRecDepth 100000 in
set_option maxHeartbeats 4000000 in
theorem packAwake_any (w : World) (ht : TabAt w) (h0 : 0 < w.heap.size) : Calls Tryd.prog 9 #[] w fun e w' => e = .returned (.bool true) ∧ Below w.heap.size w w' := by
  have HSZ := Lib.hid h0
  have HT : Hid (∀ w', Below w.heap.size w w' → TabAt w') := fun w' hb => ht.below hb h0
  clear ht h0
  have j1 : I64 1 := i64_ok (by decide) (by decide)
  have j4 : I64 4 := i64_ok (by decide) (by decide)
  have hcp : capS 1 1 4 4 = 177 := by decide
  have NW : Hid (∀ w, Calls Tryd.prog 10 #[.agg #[.int .i64 1, .int .i64 1, .int .i64 4, .int .i64 4], .int .i64 0, .int .i64 1] w fun e w' => ∃ p, e = .returned (.tuple #[.pointer (some ⟨p, 0, none⟩), .int .i64 0]) ∧ w.heap.size ≤ p ∧ Pk w' p 1 1 4 4 74 1 none 0 0 0 [] ∧ Below w.heap.size w w') := fun w => by
    have h := pnew_any 1 1 4 4 0 1 j1 j1 j4 j4 (by decide) (by decide) (by decide) (by decide) w
    simpa using h
  obtain ⟨r, hr⟩ : ∃ r, rencS 1 1 ((0 : Nat) : Int) 2 0 [107] [] = r := ⟨_, rfl⟩
  have HR2 : r.2 = 0 := by rw [← hr]; rfl
  have HR1 : r.1.length = 17 := by rw [← hr]; unfold rencS; rw [if_neg (by decide), if_neg (by decide), rbytes_len]; rfl
  have PT : Hid (∀ (w' : World) (p : Nat), TabAt w' → 0 < w'.heap.size → Pk w' p 1 1 4 4 74 1 none 0 0 0 [] → Calls Tryd.prog 11 #[.pointer (some ⟨p, 0, none⟩), .agg #[.int .i64 2, .slice (some ⟨w'.heap.size, 0, none⟩) 1 1, .slice none 0 0, .int .i64 0]] (w'.alloc (.cells #[.int .u8 107] 5 (1, 2))) fun e w'' =>
      e = .returned (.tuple #[.int .i64 0, .int .i64 17, .int .i64 0]) ∧ ∃ A2 c2, Pk w'' p 1 1 4 4 74 1 A2 17 c2 0 r.1 ∧ Far w' w'' p none) := fun w' p ht h0 hpk => by
    refine (pput_any 1 1 4 4 74 1 0 177 p none 0 0 [] 2 0 [107] [] (some ⟨w'.heap.size, 0, none⟩) none 1 1 0 0 (w'.heap.size + 1) (w'.alloc (.cells #[.int .u8 107] 5 (1, 2))) (ht.below (below_alloc _ _) h0) (Nat.lt_of_lt_of_le h0 (below_alloc _ _).size) (hpk.below (below_alloc _ _)) j1 j1 j4 j4 hcp (by decide) (Byt.new w' _ _ _ [107] rfl) (Byt.nil _ _ _) (by simp) (by decide) (by decide) (by decide) r hr).mono ?_
    intro e w'' h
    obtain ⟨h1, A2, c2, h2, h3, _⟩ := pput_good HR2 (by rw [HR1]; decide) h
    rw [HR1] at h1 h2
    exact ⟨h1, A2, c2, by simpa using h2, (Far.of_below (below_alloc _ _) p none).trans (Born.refl _ _) h3⟩
  have OF : Hid (∀ (w' : World) (p n c : Nat) (A : Option Addr) (bs : List UInt8) (tk : Int), Pk w' p 1 1 4 4 74 1 A n c tk bs → Calls Tryd.prog 16 #[.pointer (some ⟨p, 0, none⟩)] w' fun e w'' => e = .returned (.int .i64 (n : Int)) ∧ w' = w'') := fun w' p n c A bs tk h => off_any _ _ _ _ _ _ _ p A n c bs w' h
  have RO : Hid (∀ (w' : World) (p c : Nat) (A : Option Addr) (bs : List UInt8), Pk w' p 1 1 4 4 74 1 A 17 c 0 bs → Calls Tryd.prog 12 #[.pointer (some ⟨p, 0, none⟩)] w' fun e w'' => e = .returned (.int .i64 160) ∧ Below w'.heap.size w' w'') := fun w' p c A bs h => room_any 1 1 4 4 74 1 0 p A 17 c bs 177 j1 j1 j4 j4 hcp (by decide) w' h
  have PD : Hid (∀ (w' : World) (p c : Nat) (A : Option Addr) (bs : List UInt8), Pk w' p 1 1 4 4 74 1 A 17 c 0 bs → Calls Tryd.prog 15 #[.pointer (some ⟨p, 0, none⟩)] w' fun e w'' => e = .returned (.tuple #[]) ∧ ∃ A' c' bs', Pk w'' p 1 1 4 4 74 1 A' 59 c' 0 bs' ∧ Far w' w'' p (Value.slice A 17 c).ownBlock) := fun w' p c A bs h => by
    refine (pad_any 1 1 4 4 74 1 0 p A 17 c bs (by decide) w' h).mono ?_
    rintro e w'' ⟨h1, A', c', hg⟩
    exact ⟨h1, A', c', _, hg.pk, hg.far⟩
  have TK : Hid (∀ (w' : World) (p c : Nat) (A : Option Addr) (bs : List UInt8), TabAt w' → 0 < p → Pk w' p 1 1 4 4 74 1 A 59 c 0 bs → Calls Tryd.prog 14 #[.pointer (some ⟨p, 0, none⟩)] w' fun e w'' => ∃ g c2 A3 c3, e = .returned (.tuple #[.slice (some ⟨g, 0, none⟩) 1 c2, .slice A3 1 c3]) ∧ w''.cell? ⟨g, 0, none⟩ = some (.int .i64 75) ∧ Pk w'' p 1 1 4 4 74 1 A 59 c 1 bs ∧ Far w' w'' p none) := fun w' p c A bs ht hp h => by
    refine (take_any 1 1 4 4 74 1 0 p A 59 c bs (by decide) (by decide) (by decide) (by decide) (by decide) (by decide) 1 (by decide) (by decide) w' ht hp h).mono ?_
    rintro e w'' ⟨A2, c2, A3, c3, vs, rfl, htk⟩
    obtain ⟨g, rfl, hc⟩ := (show Vec w'' w'.heap.size 3 (.slice A2 1 c2) 1 [.int .i64 75] from htk.sec).int0
    exact ⟨g, c2, A3, c3, rfl, hc, htk.pk, htk.far⟩
  clear hr HR2 HR1 j1 j4 hcp
  have kc := fun (w : World) (C : Array Value) (n c : Nat) => Lib.run_convert_bytes_const (P := Tryd.prog) w 31 5 C n c Tryd.underlying31 Tryd.underlying5
  obtain ⟨rb, hrb⟩ : ∃ rb, r.1 = rb := ⟨_, rfl⟩
  rw [hrb] at PT
  clear hrb
  go_enter Tryd.func9, Tryd.ntmps9
  go_wp2_with (first
    | (go_at_call 10; refine (NW.out _).mono ?_; rintro e w1 ⟨p, rfl, hp, hpk, hb1⟩; have HP1 := Lib.hid hpk; have HB1 := Lib.hid hb1; have HPL := Lib.hid hp; clear hpk hb1 hp)
    | (go_at_call 11; refine (PT.out w1 p (HT.out _ HB1.out) (Nat.lt_of_lt_of_le HSZ.out HB1.out.size) HP1.out).mono ?_; rintro e w2 ⟨rfl, A2, c2, hpk, hf⟩; have HP2 := Lib.hid hpk; have HB2 := Lib.hid (Far.low_none HB1.out HPL.out hf); clear hpk hf)
    | (go_at_call 16; refine (OF.out w2 p 17 c2 A2 _ _ HP2.out).mono ?_; rintro e w2' ⟨rfl, rfl⟩)
    | (go_at_call 12; refine (RO.out w2 p c2 A2 _ HP2.out).mono ?_; rintro e w3 ⟨rfl, hb⟩; have HP3 := Lib.hid (HP2.out.below hb); have HB3 := Lib.hid (HB2.out.trans (hb.mono HB2.out.size)); clear hb)
    | (go_at_call 15; refine (PD.out w3 p c2 A2 _ HP3.out).mono ?_; rintro e w4 ⟨rfl, A4, c4, bs4, hpk, hf⟩; have HP4 := Lib.hid hpk; have HB4 := Lib.hid (Far.low HB3.out HPL.out HP3.out hf); clear hpk hf)
    | (go_at_call 14; refine (TK.out w4 p c4 A4 bs4 (HT.out _ HB4.out) (Nat.lt_of_lt_of_le HSZ.out HPL.out) HP4.out).mono ?_; rintro e w5 ⟨g, c5, A6, c6, rfl, hcell, hpk, hf⟩; have HP5 := Lib.hid hpk; have HB5 := Lib.hid (Far.low_none HB4.out HPL.out hf); clear hpk hf)
    | (go_at_call 16; refine (OF.out w5 p 59 c4 A4 _ _ HP5.out).mono ?_; rintro e w6 ⟨rfl, rfl⟩))
  go_ret
  exact ⟨rfl, HB5.out⟩

set_option maxRecDepth 100000 in
set_option maxHeartbeats 4000000 in
theorem packerNone_any (w : World) (ht : TabAt w) (h0 : 0 < w.heap.size) : Calls Tryd.prog 7 #[] w fun e w' => e = .returned (.bool true) ∧ Below w.heap.size w w' := by
  have HSZ := Lib.hid h0
  have HT : Hid (∀ w', Below w.heap.size w w' → TabAt w') := fun w' hb => ht.below hb h0
  clear ht h0
  go_enter Tryd.func7, Tryd.ntmps7
  go_wp2_with (first
    | (go_at_call 11; refine (put_nil 3 0 none none 0 0 0 0 w).mono ?_; rintro e w1 ⟨rfl, hb1⟩; have HB1 := Lib.hid hb1; clear hb1)
    | (go_at_call 15; refine (pad_nil w1).mono ?_; rintro e w2 ⟨rfl, rfl⟩)
    | (go_at_call 14; refine (take_nil w1).mono ?_; rintro e w2 ⟨rfl, rfl⟩)
    | (go_at_call 9; refine (packAwake_any w1 (HT.out _ HB1.out) (Nat.lt_of_lt_of_le HSZ.out HB1.out.size)).mono ?_; rintro e w2 ⟨rfl, hb2⟩; have HB2 := Lib.hid (HB1.out.trans (hb2.mono HB1.out.size)); clear hb2)
    | (go_at_call 16; refine (off_nil w2).mono ?_; rintro e w3 ⟨rfl, rfl⟩)
    | (go_at_call 12; refine (room_nil w2).mono ?_; rintro e w3 ⟨rfl, rfl⟩)
    | (go_at_call 25; refine (bytes_nil 0 0 w2).mono ?_; rintro e w3 ⟨rfl, rfl⟩))
  go_ret
  exact ⟨rfl, HB2.out⟩
end Go.Proofs.YtecmopfaeopmdaaDoor
