/- The reference's packer: Capacity, May, Put, Pad. -/
import Derived.Test.YthgpmnblkhehkaaDoorPackAwake
import Derived.Test.YthgpmnblkhehkaaDoorPackCmp
import Derived.Test.YthgpmnblkhehkaaDoorRecCheckRef
import Derived.Test.YthgpmnblkhehkaaDoorRefREnc
import Derived.Lib.QuietBelow
import Derived.BigQuiet
import Derived.Deep.RegionLaw
namespace Go.Proofs.YthgpmnblkhehkaaDoor
open Go.RowKit Go.Sort

set_option maxHeartbeats 1000000 in
theorem refCap_any (a b c d : Int) (hf : form a b c d = true) (cp : Int) (hcp : capS a b c d = cp) (w : World) :
    Calls Tryd.prog 14 #[.agg #[.int .i64 a, .int .i64 b, .int .i64 c, .int .i64 d]] w fun e w' => e = .returned (.int .i64 cp) ∧ Below w.heap.size w w' := by
  obtain ⟨_, _, _, h1, h2, _⟩ := form_true hf
  obtain rfl : (c - 1) * 59 = cp := by rw [← hcp, capS, if_pos hf]
  clear hf hcp
  go_enter Tryd.func14, Tryd.ntmps14
  go_wp2_with fail
  go_ret
  exact ⟨rfl, (Below.refl _ _).alloc (Nat.le_refl _) _⟩

def pmay (a b c d sl sq : Int) : Int := if form a b c d = true then (if sl < 0 ∨ d ≤ sl ∨ sq < 1 ∨ 281474976710655 < sq then 2 else 0) else 4

theorem rencS_code (v s n ki ex : Int) (key val : List UInt8) (hs : 0 ≤ s) (hn : 0 ≤ n) (hn2 : n ≤ 2147483647) : (rencS v s n ki ex key val).2 = rcheck v ki ex key.length val.length ∧ (rcheck v ki ex key.length val.length = 0 → (rencS v s n ki ex key val).1 = rbytes v s.toNat n.toNat ki.toNat ex.toNat key val) := by
  unfold rencS
  by_cases h : rcheck v ki ex key.length val.length = 0
  · rw [if_neg (by simpa using h), if_neg (by omega)]
    exact ⟨h.symm, fun _ => rfl⟩
  · rw [if_pos h]
    exact ⟨rfl, fun h' => absurd h' h⟩
theorem below_of_regrown {w w' : World} (h : ∃ p : Regrown, w' = grow (redrawn w p.d) p.os) : Below w.heap.size w w' := by
  obtain ⟨p, rfl⟩ := h
  exact below_regrown _ _ _
section
variable {P : Program} {w w' : World} {base n : Nat} {t e : TypeId} {v : Value} {bs : List UInt8}
theorem step_append_at {ops : Array Oper} {o : Oper} {a : Act} {K : Act → World → Prop} {Q : Exit → Act → World → Prop} {E : Prop} (hw : Region.wanted o (yielded ops a.tmps) = true) (hu : U8s P t e) (s x : Operand)
    (ho : o.op = .call { callee := .builtin .append, args := #[s, x], argTypes := #[t, t] })
    (hs : a.eval s = v) (hown : Own w base e v n bs) {B : Nat} {A : Option Addr} {m c : Nat} {news : List UInt8} (hx : a.eval x = .slice A m c) (hr : Byt w B A m news)
    (h47 : n + m ≤ 1000000000) (hbase : base ≤ w.heap.size)
    (h : ∀ A' c' w', Own w' base e (.slice A' (n + m) c') (n + m) (bs ++ news) → w.grownBy w' v.ownBlock → ((Value.slice A' (n + m) c').ownBlock = v.ownBlock ∨ (Value.slice A' (n + m) c').ownBlock = some w.heap.size) → K (a.put o.dst (.slice A' (n + m) c')) w') :
    if Region.wanted o (yielded ops a.tmps) = true then Oper.wp P o a w K Q else E :=
  step_append_vec hw hu.ones s x ho hs hown hx hr.vat bytes_one h47 hbase fun A' c' w' h2 h3 h4 => h A' c' w' (by unfold Own; rw [bytes_app]; exact h2) h3 h4
end

set_option maxRecDepth 100000 in
set_option maxHeartbeats 4000000 in
theorem rput_any (a b c d sl s tk cp : Int) (p : Nat) (A : Option Addr) (n cap : Nat) (bs : List UInt8) (ki ex : Int) (key val : List UInt8) (Ak Av : Option Addr) (nk ck nv cv B : Nat) (w : World) (hP : Pk w p a b c d sl s A n cap tk bs)
    (hf : form a b c d = true) (hcp : capS a b c d = cp) (hn : n ≤ 1000000) (hk : Byt w B Ak nk key) (hv : Byt w B Av nv val) (hB : B ≤ w.heap.size) (hkn : nk ≤ 100000) (hvn : nv ≤ 100000) (hs0 : 0 ≤ s) (hs : s ≤ 9223372036854775807) (r : List UInt8 × Int) (hr : rencS b s n ki ex key val = r) :
    Calls Tryd.prog 51 #[.pointer (some ⟨p, 0, none⟩), .agg #[.int .i64 ki, .slice Ak nk ck, .slice Av nv cv, .int .i64 ex]] w (PPut p a b c d sl s tk cp A n cap bs r w) := by
  have hkl := hk.len
  have hvl := hv.len
  obtain ⟨hc1, hc2⟩ := rencS_code b s n ki ex key val hs0 (by omega) (by omega)
  rw [hr, hkl, hvl] at hc1 hc2
  obtain ⟨_, hcr1, hcr2, _, _, hb12⟩ := capS_in hf
  rw [hcp] at hcr1 hcr2
  obtain ⟨rb, rc⟩ := r
  dsimp only at hc1 hc2
  have RC := Lib.hid (fun w => refRcheck_any b ki ex Ak Av nk ck nv cv (by omega) (by omega) rc hc1.symm w)
  have RCAP := Lib.hid (refCap_any a b c d hf cp hcp)
  have LN := Lib.hid (refLength_any ki ex Ak Av nk ck nv cv (by omega) (by omega))
  have HP : Hid (∀ w', Below w.heap.size w w' → Pk w' p a b c d sl s A n cap tk bs) := fun w' hb => hP.below hb
  have hplt := hP.cells.lt
  have HNP : Hid (¬ some p = (Value.slice A n cap).ownBlock) := fun e => by have := hP.own.ge e.symm; omega
  have HB0 : Hid (Below w.heap.size w (w.alloc (.cells #[.int .i64 ki, .slice Ak nk ck, .slice Av nv cv, .int .i64 ex] 36))) := (Below.refl _ _).alloc (Nat.le_refl _) _
  have HX0 := Lib.hid (Cells.new w 36 #[.int .i64 ki, .slice Ak nk ck, .slice Av nv cv, .int .i64 ex])
  have HKV : Hid (Byt w B Ak nk key ∧ Byt w B Av nv val ∧ B ≤ w.heap.size) := ⟨hk, hv, hB⟩
  have HC := Lib.hid hc1
  have HC2 := Lib.hid hc2
  have HLN := Lib.hid (show key.length = nk ∧ val.length = nv from ⟨hkl, hvl⟩)
  have t1 := fun d os => cell_regrown ((HP.out _ HB0.out).cells 1 _ rfl) d os
  have x0 := fun d os => cell_regrown (HX0.out 0 _ rfl) d os
  have x1 := fun d os => cell_regrown (HX0.out 1 _ rfl) d os
  have x2 := fun d os => cell_regrown (HX0.out 2 _ rfl) d os
  have x3 := fun d os => cell_regrown (HX0.out 3 _ rfl) d os
  clear hk hv hc1 hc2 hr hcp hP hkl hvl hB
  go_enter Tryd.func51, Tryd.ntmps51
  go_wp2_with fail
  refine wp_region_quiet_below (by kernel_rfl) (by kernel_rfl) ?_
  repeat (first | go_big_quiet_step ((go_at_call 67; exact Calls.regrown_of (RC.out _))) | quiet_step ((go_at_call 67; exact Calls.regrown_of (RC.out _))))
  refine wpQuiet_nil ?_
  intro w1 hw'
  have hb1 := below_of_regrown hw'
  have HB1 := Lib.hid (HB0.out.trans (hb1.mono HB0.out.size))
  have HX1 := Lib.hid (HX0.out.below hb1 (by simp))
  clear hw' hb1 t1 x0 x1 x2 x3
  by_cases hz : rc = 0
  rotate_left
  · go_wp2_with fail
    go_ret3
    exact .inl ⟨hz, rfl, HB1.out⟩
  subst hz
  have hlen : rb.length = 16 + nk + nv := by
    rw [HC2.out HC.out.symm, rbytes_len, HLN.out.1, HLN.out.2]
  have HL := Lib.hid hlen
  clear hlen
  have t6 := fun d os => cell_regrown ((HP.out _ HB1.out).cells 6 _ rfl) d os
  have x0 := fun d os => cell_regrown (HX1.out 0 _ rfl) d os
  have x1 := fun d os => cell_regrown (HX1.out 1 _ rfl) d os
  have x2 := fun d os => cell_regrown (HX1.out 2 _ rfl) d os
  have x3 := fun d os => cell_regrown (HX1.out 3 _ rfl) d os
  go_wp2_with fail
  refine wp_region_quiet_below (by kernel_rfl) (by kernel_rfl) ?_
  repeat (first | go_big_quiet_step ((go_at_call 68; exact Calls.regrown_of (LN.out _))) | quiet_step ((go_at_call 68; exact Calls.regrown_of (LN.out _))))
  refine wpQuiet_nil ?_
  intro w2 hw'
  have hb2 := below_of_regrown hw'
  have HB2 := Lib.hid (HB1.out.trans (hb2.mono HB1.out.size))
  have HX2 := Lib.hid (HX1.out.below hb2 HX1.out.lt)
  clear hw' hb2 t6 x0 x1 x2 x3
  have s0 := (HP.out _ HB2.out).cells 0 _ rfl
  have s1 := (HP.out _ HB2.out).cells 1 _ rfl
  have s2 := (HP.out _ HB2.out).cells 2 _ rfl
  have s3 := (HP.out _ HB2.out).cells 3 _ rfl
  by_cases hfit : cp - n < 16 + nk + nv
  · go_wp2_with (go_at_call 14; refine (RCAP.out _).mono ?_; rintro e w3 ⟨rfl, hbel⟩; have HB3 := Lib.hid (HB2.out.trans (hbel.mono HB2.out.size)); clear hbel)
    go_ret3
    exact .inr (.inl ⟨rfl, by rw [HL.out]; push_cast; exact hfit, rfl, HB3.out⟩)
  · go_upto_region 7 with (go_at_call 14; refine (RCAP.out _).mono ?_; rintro e w3 ⟨rfl, hbel⟩; have HB3 := Lib.hid (HB2.out.trans (hbel.mono HB2.out.size)); have HX3 := Lib.hid (HX2.out.below hbel HX2.out.lt); clear hbel s0 s1 s2 s3)
    have hL0 : 16 + nk + nv ≤ 1000000 := by omega
    have EN : Hid (∀ wx, Below w.heap.size w wx → Calls Tryd.prog 69 #[.int .i64 b, .int .i64 s, .int .i64 (n : Int), .agg #[.int .i64 ki, .slice Ak nk ck, .slice Av nv cv, .int .i64 ex]] wx fun e w' => ∃ A4 c4, e = .returned (.slice A4 (16 + nk + nv) c4) ∧ Byt w' w'.heap.size A4 (16 + nk + nv) rb ∧ Below wx.heap.size wx w') := fun wx hb => by
      obtain ⟨hv12, ki1, ki3, _, _, _, hnk, hnv, ex0, _, ex1⟩ := rcheck_zero HC.out.symm
      have ki0 : 0 ≤ ki := by omega
      have h := refREncode_any b s.toNat n ki.toNat ex.toNat key val Ak Av nk ck nv cv w.heap.size wx hv12 ((HKV.out.1.more HKV.out.2.2).below hb) ((HKV.out.2.1.more HKV.out.2.2).below hb) hb.size hnk hnv (by omega) (by omega) (by omega) (by omega) rb (by have := HC2.out HC.out.symm; rw [Int.toNat_natCast] at this; exact this.symm)
      rw [Int.toNat_of_nonneg hs0, Int.toNat_of_nonneg ki0, Int.toNat_of_nonneg ex0] at h
      refine h.mono ?_
      rintro e w' ⟨A4, c4, rfl, hown, hbel⟩
      rw [HL.out] at hown ⊢
      exact ⟨A4, c4, rfl, hown.byt, hbel⟩
    have s6 := (HP.out _ HB3.out).cells 6 _ rfl
    have s1 := (HP.out _ HB3.out).cells 1 _ rfl
    have s5 := (HP.out _ HB3.out).cells 5 _ rfl
    have y0 := HX3.out 0 _ rfl
    have y1 := HX3.out 1 _ rfl
    have y2 := HX3.out 2 _ rfl
    have y3 := HX3.out 3 _ rfl
    have hgp : ¬ w.heap.size = p := by omega
    go_cut [] (fun wx => ∃ A' c', Pk wx p a b c d sl s A' (n + (16 + nk + nv)) c' tk (bs ++ rb) ∧ Far w wx p (Value.slice A n cap).ownBlock ∧ Born w (Value.slice A n cap).ownBlock (Value.slice A' (n + (16 + nk + nv)) c').ownBlock)
    case first =>
      go_region_law (first
        | (go_simp; go_at_call 69; refine (EN.out _ (by first | exact HB3.out | exact HB3.out.drew)).mono ?_; rintro e w4 ⟨A4, c4, rfl, hown, hbel⟩; have HB4 : Hid (Below w.heap.size w w4) := (by first | exact HB3.out.trans (hbel.mono HB3.out.size) | exact (HB3.out.drew).trans (hbel.mono HB3.out.size)); have HO4 := Lib.hid hown; have HX4 : Hid (Cells w4 w.heap.size [.int .i64 ki, .slice Ak nk ck, .slice Av nv cv, .int .i64 ex]) := (by first | exact HX3.out.below hbel HX3.out.lt | exact Cells.below (w := w3.drew) HX3.out hbel HX3.out.lt); have z1 := (HP.out _ HB4.out).cells 1 _ rfl; have z5 := (HP.out _ HB4.out).cells 5 _ rfl; have z6 := (HP.out _ HB4.out).cells 6 _ rfl; have v0 := HX4.out 0 _ rfl; have v1 := HX4.out 1 _ rfl; have v2 := HX4.out 2 _ rfl; have v3 := HX4.out 3 _ rfl; clear hown hbel)
        | (refine step_append_at rfl Tryd.u8w (.tmp 40) (.tmp 52) rfl rfl (HP.out _ HB4.out).own rfl HO4.out ?_ ?_ ?_; omega; exact Nat.le_trans hplt HB4.out.size; intro A5 c5 w5 hown5 hgr5 hat5; have HBo5 := Lib.hid ((Born.refl w _).step HB4.out.size hat5); have HO5 := Lib.hid hown5; have HF5 := Lib.hid ((Far.of_below HB4.out p _).grown hgr5); have hpb := hgr5.block p (Nat.lt_of_lt_of_le hplt HB4.out.size) HNP.out; have HC5 := Lib.hid ((HP.out _ HB4.out).cells.same hpb); have HSo5 := Lib.hid ((HP.out _ HB4.out).soft.same hpb); have HX5 := Lib.hid (HX4.out.same (hgr5.block w.heap.size HX4.out.lt (fun e => by have := (HP.out _ (Below.refl _ _)).own.lt e.symm; omega))); have q1 := HC5.out 1 _ rfl; have q5 := HC5.out 5 _ rfl; have q6 := HC5.out 6 _ rfl; have f6 := HSo5.out 6; have u0 := HX5.out 0 _ rfl; have u1 := HX5.out 1 _ rfl; have u2 := HX5.out 2 _ rfl; have u3 := HX5.out 3 _ rfl; clear hown5 hgr5 hat5 hpb))
      all_goals
        go_wp2_with fail
        (try go_simp)
        go_meet
        exact ⟨A5, c5, ⟨HC5.out.set 6 _, HSo5.out.set _ _, HO5.out.set (by omega) _⟩, HF5.out.set 6 _, HBo5.out⟩
    case rest =>
      obtain ⟨A5, c5, hpk, hfar, hborn⟩ := hcut
      have HP5 := Lib.hid hpk
      have HF5 := Lib.hid hfar
      have HBo5 := Lib.hid hborn
      clear hpk hfar hborn
      go_wp2_with fail
      go_ret3
      refine .inr (.inr ⟨rfl, by rw [HL.out]; push_cast; omega, by rw [HL.out]; rfl, A5, c5, ?_, HF5.out, ?_⟩)
      · rw [HL.out]; exact HP5.out
      · rw [HL.out]; exact HBo5.out
end Go.Proofs.YthgpmnblkhehkaaDoor
