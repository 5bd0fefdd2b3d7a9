/- Ints and Frames of rows that are alike. -/
import Derived.Test.YtecmopfaeopmdaaDoorPackTake
import Derived.Deep.QuietTactic
namespace Go.Proofs.YtecmopfaeopmdaaDoor
open Go.RowKit

theorem Vat.get {w : World} {B n k : Nat} {A : Option Addr} {xs : List Value} (h : Vat w B A n xs) (hk : k < n) : ∃ x ad, xs[k]? = some x ∧ A = some ad ∧ ad.block < B ∧ w.cell? (ad.add k) = some x := by
  have hl : k < xs.length := by rw [h.1]; exact hk
  obtain ⟨ad, e, r⟩ := h.2 k _ (List.getElem?_eq_getElem hl)
  exact ⟨_, ad, List.getElem?_eq_getElem hl, e, r⟩
theorem ints_get {l : List Int} {k : Nat} {x : Value} (h : (ints l)[k]? = some x) : ∃ z, x = .int .i64 z ∧ l[k]? = some z := by
  unfold ints at h
  rw [List.getElem?_map] at h
  obtain ⟨z, hz, rfl⟩ := Option.map_eq_some_iff.1 h
  exact ⟨z, rfl, hz⟩

set_option maxHeartbeats 1000000 in
theorem refInts_same (l : List Int) (A A' : Option Addr) (n cap cap' B B' : Nat) (w : World) (hx : Vat w B A n (ints l)) (hy : Vat w B' A' n (ints l)) (hn : n ≤ 9223372036854775807) :
    Calls Tryd.prog 18 #[.slice A n cap, .slice A' n cap'] w fun e w' => e = .returned (.bool true) ∧ ∃ k, w' = w.drewN k := by
  have HX := Lib.hid hx
  have HY := Lib.hid hy
  clear hx hy
  go_enter Tryd.func18, Tryd.ntmps18
  go_wp2
  go_loopw [13] (fun i wr => ∃ k : Nat, k ≤ n ∧ i = .int .i64 k ∧ ∃ q, wr = w.drewN q) (fun i _ => n - (intOf i).toNat)
  case atStart => exact ⟨0, Nat.zero_le _, rfl, 0, rfl⟩
  case round =>
    obtain ⟨k, hk, rfl, q, rfl⟩ := hrel
    by_cases hlt : k < n
    · obtain ⟨x, ad, hx1, rfl, _, hxc⟩ := HX.out.get hlt
      obtain ⟨y, ad', hy1, rfl, _, hyc⟩ := HY.out.get hlt
      obtain rfl : x = y := Option.some.inj (hx1.symm.trans hy1)
      obtain ⟨z, rfl, _⟩ := ints_get hx1
      have hk1 : (0 : Int) ≤ (k : Int) := by omega
      have hk2 : (k : Int) < n := by omega
      clear hx1 hy1
      go_wp2
      go_quiet (fail)
      go_wp2
      go_roundw
      case rel => exact ⟨k + 1, by omega, by go_num, _, rfl⟩
      case measure => simp [intOf]; omega
    · have hkn : k = n := by omega
      subst hkn
      go_wp2
      go_ret
      exact ⟨rfl, _, rfl⟩

/-- Each value is a slice of these bytes. -/
def Elems (w : World) (vs : List Value) (F : List (List UInt8)) : Prop :=
  vs.length = F.length ∧ ∀ (j : Nat) (v : Value) (b : List UInt8), vs[j]? = some v → F[j]? = some b → ∃ A c, v = Value.slice A b.length c ∧ b.length ≤ c ∧ c ≤ 9223372036854775807 ∧ Byt w w.heap.size A b.length b
theorem FrsAt.elems {w : World} {L : Nat → Prop} {vs : List Value} {F : List (List UInt8)} (h : FrsAt w L vs F) : Elems w vs F := ⟨h.1, fun j v b hv hF => by
  obtain ⟨g, c, e, h1, h2, _, _, hy⟩ := h.2 j v b hv hF
  exact ⟨_, c, e, h1, h2, hy⟩⟩
theorem Elems.below {w w' : World} {vs : List Value} {F : List (List UInt8)} (h : Elems w vs F) (hb : Below w.heap.size w w') : Elems w' vs F := ⟨h.1, fun j v b hv hF => by
  obtain ⟨A, c, e, h1, h2, hy⟩ := h.2 j v b hv hF
  exact ⟨A, c, e, h1, h2, (hy.below hb).more hb.size⟩⟩

set_option maxHeartbeats 2000000 in
theorem refFrames_same (F : List (List UInt8)) (vs ys : List Value) (A A' : Option Addr) (n cap cap' B B' : Nat) (w : World) (hx : Vat w B A n vs) (hy : Vat w B' A' n ys) (hvs : Elems w vs F) (hys : Elems w ys F) (hn : n ≤ 9223372036854775807) :
    Calls Tryd.prog 19 #[.slice A n cap, .slice A' n cap'] w fun e w' => e = .returned (.bool true) ∧ ∃ k, w' = w.drewN k := by
  have HX := Lib.hid hx
  have HY := Lib.hid hy
  have HVS := Lib.hid hvs
  have HYS := Lib.hid hys
  clear hx hy hvs hys
  go_enter Tryd.func19, Tryd.ntmps19
  go_wp2
  go_loopw [13] (fun i wr => ∃ k : Nat, k ≤ n ∧ i = .int .i64 k ∧ ∃ q, wr = w.drewN q) (fun i _ => n - (intOf i).toNat)
  case atStart => exact ⟨0, Nat.zero_le _, rfl, 0, rfl⟩
  case round =>
    obtain ⟨k, hk, rfl, q, rfl⟩ := hrel
    by_cases hlt : k < n
    · obtain ⟨x, ad, hx1, rfl, _, hxc⟩ := HX.out.get hlt
      obtain ⟨y, ad', hy1, rfl, _, hyc⟩ := HY.out.get hlt
      have hkF : k < F.length := by rw [← HVS.out.1, HX.out.1]; exact hlt
      have hF := List.getElem?_eq_getElem hkF
      obtain ⟨b, hb⟩ : ∃ b, F[k] = b := ⟨_, rfl⟩
      rw [hb] at hF
      obtain ⟨A1, c1, rfl, h1, h2, hy1'⟩ := HVS.out.2 k x b hx1 hF
      obtain ⟨A2, c2, rfl, h3, h4, hy2'⟩ := HYS.out.2 k y b hy1 hF
      obtain ⟨L, hL⟩ : ∃ L, b.length = L := ⟨_, rfl⟩
      rw [hL] at h1 hy1' h3 hy2' hxc hyc
      have EQ : Hid (∀ m : Nat, Calls Tryd.prog 24 #[.slice A1 L c1, .slice A2 L c2] (w.drewN (q + m)) fun e w'' => e = .returned (.bool true) ∧ ∃ m', w'' = w.drewN (q + m')) := fun m => by
        refine (eq_any b b A1 A2 L L c1 c2 _ _ (w.drewN (q + m)) (hy1'.drewN (q + m)) (hy2'.drewN (q + m)) (by omega) (by omega)).mono ?_
        rintro e w'' ⟨rfl, k', rfl⟩
        exact ⟨by rw [decide_eq_true rfl], m + k', by rw [World.drewN_drewN, Nat.add_assoc]⟩
      have hk1 : (0 : Int) ≤ (k : Int) := by omega
      have hk2 : (k : Int) < n := by omega
      clear hx1 hy1 hF hb hL hy1' hy2' h1 h2 h3 h4 hkF
      go_wp2
      go_quiet ((go_at_call 24; exact EQ.out _))
      go_wp2
      go_roundw
      case rel => exact ⟨k + 1, by omega, by go_num, by (try simp only [World.drewN_drewN]); exact ⟨_, rfl⟩⟩
      case measure => simp [intOf]; omega
    · have hkn : k = n := by omega
      subst hkn
      go_wp2
      go_ret
      exact ⟨rfl, _, rfl⟩
end Go.Proofs.YtecmopfaeopmdaaDoor
