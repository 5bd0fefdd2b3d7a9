/- The packer: Bytes. -/
import Derived.Test.YtecmopfaeopmdaaDoorPackNew
namespace Go.Proofs.YtecmopfaeopmdaaDoor
open Go.RowKit Go.Sort

/-- What Bytes returns of a stream. -/
def segOk (n : Nat) (off m : Int) : Prop := 0 ≤ off ∧ 0 ≤ m ∧ off ≤ n ∧ m ≤ n - off
def BytesSeg (bs : List UInt8) (n : Nat) (off m : Int) (w : World) (e : Ending) (w' : World) : Prop :=
  (¬ segOk n off m ∧ e = .returned (.slice none 0 0) ∧ Below w.heap.size w w') ∨
  (segOk n off m ∧ ∃ A1 c1, e = .returned (.slice A1 m.toNat c1) ∧ Byt w' w'.heap.size A1 m.toNat ((bs.drop off.toNat).take m.toNat) ∧ m.toNat ≤ c1 ∧ c1 ≤ 9223372036854775807 ∧ Below w.heap.size w w')
theorem Own.gform {w : World} {base n cap : Nat} {e : TypeId} {A : Option Addr} {bs : List UInt8} (h : Own w base e (.slice A n cap) n bs) : (A = none ∧ n = 0 ∧ cap = 0) ∨ ∃ g, A = some ⟨g, 0, none⟩ := by
  rcases h.2 with ⟨h1, h2⟩ | ⟨g, cap', cur, h1, _⟩
  · injection h1 with e1 e2 e3
    exact .inl ⟨e1, h2, e3⟩
  · injection h1 with e1 e2 e3
    exact .inr ⟨g, e1⟩

set_option maxRecDepth 100000 in
set_option maxHeartbeats 4000000 in
theorem pbytes_any (a b c d f s tk : Int) (p : Nat) (A : Option Addr) (n cap : Nat) (bs : List UInt8) (hn : n ≤ 1000000) (off m : Int) (w : World) (hP : Pk w p a b c d f s A n cap tk bs) :
    Calls Tryd.prog 25 #[.pointer (some ⟨p, 0, none⟩), .int .i64 off, .int .i64 m] w (BytesSeg bs n off m w) := by
  have l6 := hP.cells 6 _ rfl
  have hn0 : (0 : Int) ≤ n := by omega
  by_cases h1 : off < 0
  · have HN : Hid (¬ segOk n off m) := fun h => by have := h.1; omega
    clear hP
    go_enter Tryd.func25, Tryd.ntmps25
    go_wp2_with fail
    go_ret
    exact .inl ⟨HN.out, rfl, Below.refl _ _⟩
  by_cases h2 : m < 0
  · have HN : Hid (¬ segOk n off m) := fun h => by have := h.2.1; omega
    clear hP
    go_enter Tryd.func25, Tryd.ntmps25
    go_wp2_with fail
    go_ret
    exact .inl ⟨HN.out, rfl, Below.refl _ _⟩
  by_cases h3 : (n : Int) < off
  · have HN : Hid (¬ segOk n off m) := fun h => by have := h.2.2.1; omega
    clear hP
    go_enter Tryd.func25, Tryd.ntmps25
    go_wp2_with fail
    go_ret
    exact .inl ⟨HN.out, rfl, Below.refl _ _⟩
  by_cases h4 : (n : Int) - off < m
  · have HN : Hid (¬ segOk n off m) := fun h => by have := h.2.2.2; omega
    clear hP
    go_enter Tryd.func25, Tryd.ntmps25
    go_wp2_with fail
    go_ret
    exact .inl ⟨HN.out, rfl, Below.refl _ _⟩
  have HS : Hid (segOk n off m) := ⟨by omega, by omega, by omega, by omega⟩
  obtain ⟨lo, rfl⟩ : ∃ lo : Nat, off = lo := ⟨off.toNat, by omega⟩
  obtain ⟨k, rfl⟩ : ∃ k : Nat, m = k := ⟨m.toNat, by omega⟩
  have hlk : lo + k ≤ n := by omega
  obtain ⟨A', cap', he, hncap, hcap⟩ := hP.own.form
  injection he with e1 e2 e3
  subst e1; subst e3
  clear e2
  have HY : Hid (Byt w w.heap.size (if cap = lo then A else A.map (·.add lo)) k ((bs.drop lo).take k)) := (hP.own.byt.cut (k := lo) (cap := cap) (by omega) hncap).take (k := k) (by omega)
  have CL : Hid (∀ AA cc, Byt w w.heap.size AA k ((bs.drop lo).take k) → Calls Tryd.prog 38 #[.slice AA k cc] w fun e w' => ∃ A1 c1, e = .returned (.slice A1 k c1) ∧ Byt w' w'.heap.size A1 k ((bs.drop lo).take k) ∧ k ≤ c1 ∧ c1 ≤ 9223372036854775807 ∧ Below w.heap.size w w') := fun AA cc hb => by
    refine (clone_any _ AA k cc w.heap.size w hb (by omega) (Nat.le_refl _)).mono ?_
    rintro e w' ⟨A1, c1, rfl, hown, hbel⟩
    obtain ⟨_, _, he, q1, q2⟩ := hown.form
    injection he with _ _ he
    subst he
    exact ⟨A1, c1, rfl, hown.byt, q1, q2, hbel⟩
  have hgf := hP.own.gform
  have hw3 : IntKind.i64.wrap ((lo : Int) + (k : Int)) = (lo : Int) + (k : Int) := IntWalk.i64_in _ (by omega)
  have hc1 : (lo : Int) + (k : Int) ≤ (cap : Int) := by omega
  have hc2 : (0 : Int) ≤ (lo : Int) + (k : Int) := by omega
  have hc3 : (lo : Int) ≤ max ((lo : Int) + (k : Int)) 0 := by omega
  have hc5 : ((lo : Int) + (k : Int)).toNat = lo + k := by omega
  have hc6 : lo + k - lo = k := by omega
  have hc7 : ((lo : Int) + (k : Int) - (lo : Int)).toNat = k := by omega
  clear hP h1 h2 h3 h4
  rcases hgf with ⟨rfl, rfl, rfl⟩ | ⟨g, rfl⟩
  · obtain rfl : lo = 0 := by omega
    obtain rfl : k = 0 := by omega
    go_enter Tryd.func25, Tryd.ntmps25
    go_wp2_with (go_at_call 38; refine (CL.out _ _ (by simpa using HY.out)).mono ?_; rintro e w1 ⟨A1, c1, rfl, q1, q2, q3, hbel⟩; have HQ := Lib.hid (And.intro q1 (And.intro q2 (And.intro q3 hbel))); clear q1 q2 q3 hbel)
    go_ret
    exact .inr ⟨HS.out, A1, c1, rfl, HQ.out⟩
  · by_cases hcl : cap = lo
    · have hy := HY.out
      rw [if_pos hcl] at hy
      have HY2 := Lib.hid hy
      clear hy HY
      subst hcl
      go_enter Tryd.func25, Tryd.ntmps25
      go_wp2_with (go_at_call 38; refine (CL.out _ _ HY2.out).mono ?_; rintro e w1 ⟨A1, c1, rfl, q1, q2, q3, hbel⟩; have HQ := Lib.hid (And.intro q1 (And.intro q2 (And.intro q3 hbel))); clear q1 q2 q3 hbel)
      go_ret
      exact .inr ⟨HS.out, A1, c1, rfl, HQ.out⟩
    · have hy := HY.out
      rw [if_neg hcl] at hy
      have e : (Option.map (fun x : Addr => x.add lo) (some (⟨g, 0, none⟩ : Addr))) = some ⟨g, lo, none⟩ := by
        simp only [Option.map_some, Addr.add]
        by_cases h0 : lo = 0
        · rw [if_pos h0, h0]
        · rw [if_neg h0, Nat.zero_add]
      rw [e] at hy
      have HY2 := Lib.hid hy
      clear hy HY e
      go_enter Tryd.func25, Tryd.ntmps25
      go_wp2_with (go_at_call 38; refine (CL.out _ _ HY2.out).mono ?_; rintro e w1 ⟨A1, c1, rfl, q1, q2, q3, hbel⟩; have HQ := Lib.hid (And.intro q1 (And.intro q2 (And.intro q3 hbel))); clear q1 q2 q3 hbel)
      go_ret
      exact .inr ⟨HS.out, A1, c1, rfl, HQ.out⟩
end Go.Proofs.YtecmopfaeopmdaaDoor
