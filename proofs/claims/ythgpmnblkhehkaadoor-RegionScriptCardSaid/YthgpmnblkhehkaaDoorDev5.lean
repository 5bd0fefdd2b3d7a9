/- The device: the walk of Write (tools/mkdev5.py). -/
import Derived.Test.YthgpmnblkhehkaaDoorDev4
namespace Go.Proofs.YthgpmnblkhehkaaDoor
open Go.RowKit
/-- What Write leaves. -/
def DWr (w : World) (d g r S c : Nat) (res : Int × DS) (e : Ending) (w' : World) : Prop := e = .returned (.int .i64 res.1) ∧ Dv w' d g r S c res.2 ∧ Keep w w' (dvL d g r)
section
variable {w : World} {d g r S c : Nat} {s : DS}
theorem dwrite_bad (i : Int) (b : List UInt8) (A : Option Addr) (n cb : Nat) (hn : n ≤ 9223372036854775807) (hb : b.length = n) (h : Dv w d g r S c s) (hbad : s.dead = true ∨ i < 0 ∨ (S : Int) ≤ i ∨ 64 < n ∨ (burnS s).dead = true) :
    Calls Tryd.prog 34 #[.pointer (some ⟨d, 0, none⟩), .int .i64 i, .slice A n cb] w (DWr w d g r S c (writeS S s i b)) := by
  have CK := Lib.hid (dcheck_any i h)
  have HH := Lib.hid h
  have hn' : (n : Int) ≤ 9223372036854775807 := by omega
  by_cases hd : s.dead = true
  · have e : writeS S s i b = (1, s) := by rw [writeS, if_pos hd]
    rw [e]
    have HCK : Hid (checkS S s.dead i = 1) := by show _ = _; rw [checkS, if_pos hd]
    clear h hd hbad hb e
    go_enter Tryd.func34, Tryd.ntmps34
    go_wp2_with (go_at_call 57; refine CK.out.mono ?_; rintro e w0 ⟨rfl, rfl⟩; rw [HCK.out])
    go_ret
    exact ⟨rfl, HH.out, Keep.refl _ _⟩
  by_cases hi : i < 0 ∨ (S : Int) ≤ i
  · have e : writeS S s i b = (2, s) := by rw [writeS, if_neg hd, if_pos hi]
    rw [e]
    have HCK : Hid (checkS S s.dead i = 2) := by show _ = _; rw [checkS, if_neg hd, if_pos hi]
    clear h hd hbad hb e hi
    go_enter Tryd.func34, Tryd.ntmps34
    go_wp2_with (go_at_call 57; refine CK.out.mono ?_; rintro e w0 ⟨rfl, rfl⟩; rw [HCK.out])
    go_ret
    exact ⟨rfl, HH.out, Keep.refl _ _⟩
  have HCK : Hid (checkS S s.dead i = 0) := by show _ = _; rw [checkS, if_neg hd, if_neg hi]
  by_cases h64 : 64 < n
  · have e : writeS S s i b = (3, s) := by rw [writeS, if_neg hd, if_neg hi, if_pos (by rw [hb]; exact h64)]
    rw [e]
    have h64' : (64 : Int) < (n : Int) := by omega
    clear h hd hbad hb e hi h64
    go_enter Tryd.func34, Tryd.ntmps34
    go_wp2_with (go_at_call 57; refine CK.out.mono ?_; rintro e w0 ⟨rfl, rfl⟩; rw [HCK.out])
    go_ret
    exact ⟨rfl, HH.out, Keep.refl _ _⟩
  have hbd : (burnS s).dead = true := by
    rcases hbad with h1 | h1 | h1 | h1 | h1
    · exact absurd h1 hd
    · exact absurd (.inl h1) hi
    · exact absurd (.inr h1) hi
    · exact absurd h1 h64
    · exact h1
  have e : writeS S s i b = (1, burnS s) := by rw [writeS, if_neg hd, if_neg hi, if_neg (by rw [hb]; exact h64), if_pos hbd]
  rw [e]
  have BU := Lib.hid (dburn_any (by simpa using hd) h)
  have HBD := Lib.hid hbd
  have h64' : ¬ (64 : Int) < (n : Int) := by omega
  clear h hd hbad hb e hi h64 hbd
  go_enter Tryd.func34, Tryd.ntmps34
  go_wp2_with (first | (go_at_call 57; refine CK.out.mono ?_; rintro e w0 ⟨rfl, rfl⟩; rw [HCK.out]) | (go_at_call 58; refine BU.out.mono ?_; rintro e w1 ⟨rfl, hdv, hk⟩; rw [HBD.out]; have HD1 := Lib.hid hdv; have HK1 := Lib.hid hk; clear hdv hk))
  go_ret
  exact ⟨rfl, HD1.out, HK1.out⟩

theorem there_new (w : World) (ty : TypeId) (zs : Array Value) {cs : Array Value} (h : cs.size = 64) (hz : zs.size = 64) : (w.alloc (.cells zs ty)).there w.heap.size 0 cs.size := fun j hj => by
  have h2 := heap_alloc_new w (.cells zs ty)
  rw [Nat.zero_add]
  refine ⟨?_, frozen_of_row _ _ j _ _ h2⟩
  rw [cell_of_row _ _ j zs ty _ h2, Array.getElem?_eq_getElem (by omega)]
  rfl
theorem below_set_new (w : World) (o : Obj) (vs : List Value) : Below w.heap.size w ((w.alloc o).setCells w.heap.size 0 vs) := by
  obtain ⟨o1, o2, o3, o4⟩ := setCells_rest w.heap.size vs 0 (w.alloc o)
  refine ⟨o1, o2, o3, by rw [o4]; simp, fun k hk => ?_⟩
  rw [setCells_block _ _ _ _ _ (by omega)]
  exact ((Below.refl w.heap.size w).alloc (Nat.le_refl _) o).block k hk
theorem step_load_mid {P : Program} {ops : Array Oper} {op : Oper} {a : Act} {w : World} {K : Act → World → Prop} {Q : Exit → Act → World → Prop} {E : Prop} (hw : Region.wanted op (yielded ops a.tmps) = true) (ty : TypeId) (x : Operand) (ho : op.op = .load ty x)
    (b o : Nat) (hx : a.eval x = .pointer (some ⟨b, o, none⟩)) (cs : List Value) (d : TypeDesc) (hc : w.rangeAt b o cs)
    (hu : P.underlying ty = some d) (hd : d.isRow = true) (hi : (P.info? ty).map (·.size) = some cs.length)
    (h : K (a.put op.dst (.agg cs.toArray)) w) : if Region.wanted op (yielded ops a.tmps) = true then Oper.wp P op a w K Q else E := by
  rw [if_pos hw]
  exact wp_load_mid ty x ho b o hx cs d hc hu hd hi h
theorem nodup_len : ∀ {S : Nat} {ds : List Nat}, ds.Nodup → (∀ i ∈ ds, i < S) → ds.length ≤ S := by
  intro S ds hn hl
  have h := flags_count hn hl
  have h2 := List.length_filter_le id (flags S ds)
  rw [h, flags_len] at h2
  exact h2
set_option maxRecDepth 100000 in
set_option maxHeartbeats 8000000 in
theorem dwrite_good (i : Nat) (b : List UInt8) (A : Option Addr) (n cb : Nat) (hn : n ≤ 64) (hb : Byt w w.heap.size A n b) (hsep : ∀ ad, A = some ad → ¬ dvL d g r ad.block) (h : Dv w d g r S c s) (hd : s.dead = false) (hi : i < S) (hbd : (burnS s).dead = false) (hwr : s.wr ≤ 1000000000) :
    Calls Tryd.prog 34 #[.pointer (some ⟨d, 0, none⟩), .int .i64 (i : Int), .slice A n cb] w (DWr w d g r S c (writeS S s (i : Int) b)) := by
  have hbl := hb.len
  have e : writeS S s (i : Int) b = (0, { burnS s with img := putS s.img i b, ds := dirtS s.ds i, wr := s.wr + 1 }) := by
    rw [writeS, if_neg (by rw [hd]; simp), if_neg (by omega), if_neg (by omega), if_neg (by rw [hbd]; simp)]
    simp
  rw [e]
  have CK := Lib.hid (dcheck_any (i : Int) h)
  have HCK : Hid (checkS S s.dead (i : Int) = 0) := by show _ = _; rw [checkS, if_neg (by rw [hd]; simp), if_neg (by omega)]
  have BU := Lib.hid (dburn_any hd h)
  have HBD := Lib.hid hbd
  have HH := Lib.hid h
  have hS := h.sz
  have h64' : ¬ (64 : Int) < (n : Int) := by omega
  have HI := Lib.hid hi
  have hwr9 : ((burnS s).wr : Int) ≤ 1000000000 := by rw [(burnS_img s).2.2]; omega
  have hwr0 : (0 : Int) ≤ ((burnS s).wr : Int) := by omega
  have hi9 : (i : Int) ≤ 1048576 := by omega
  have HSZ := Lib.hid hS
  have HBY : Hid (∀ w', Keep w w' (dvL d g r) → Byt w' w.heap.size A n b) := fun w' hk => ⟨hb.len, fun hn => by
    obtain ⟨ad, e, hlt, hc⟩ := hb.mem hn
    exact ⟨ad, e, hlt, fun j u hu => (World.cell?_of_block (by rw [addr_block]; exact hk.block _ hlt (hsep ad e))).trans (hc j u hu)⟩⟩
  have HN := Lib.hid hn
  have HBL := Lib.hid hbl
  obtain ⟨q1, q2, q3⟩ := burnS_img s
  have HOK : Hid (DS.ok S { burnS s with img := putS s.img i b, ds := dirtS s.ds i, wr := s.wr + 1 }) := by have := h.ok.write (i : Int) b; rw [e] at this; exact this
  have HLI := Lib.hid h.ok.len
  have HQ := Lib.hid (And.intro q1 (And.intro q2 q3))
  clear hwr h hd hi hbd hb hsep hbl e hS hn q1 q2 q3
  by_cases hmem : i ∈ s.ds
  · have HHas : Hid (Maps.has (secSet (burnS s).ds) (Lit.int .i64 (i : Int)) = true) := by show _ = _; rw [secSet_has, HQ.out.2.1]; exact decide_eq_true hmem
    have HF : Hid (dirtS s.ds i = s.ds) := by show _ = _; rw [dirtS, if_pos hmem]
    clear hmem
    go_enter Tryd.func34, Tryd.ntmps34
    go_wp2_with (first | (go_at_call 57; refine CK.out.mono ?_; rintro e w0 ⟨rfl, rfl⟩; rw [HCK.out]) | (go_at_call 58; refine BU.out.mono ?_; rintro e w1 ⟨rfl, hdv, hk⟩; rw [HBD.out]; have HD1 := Lib.hid hdv; have HK1 := Lib.hid hk; clear hdv hk) | (go_at_call 59; refine (dat_any i HI.out HD1.out).mono ?_; rintro e w2 ⟨rfl, rfl⟩; have l1 := HD1.out.cells 1 _ rfl) | (at_lookup; refine wpList_lookup_own_ok _ rfl _ _ 83 rfl 3 98 secKey Tryd.underlying83 R64 (secZero _) (.lit (.bool true)) [] secZero_mark r _ _ rfl HD1.out.map _ _ rfl (Maps.keyOf_int_mk Tryd.underlying3 (WalkArith.wf_i64 (by omega))) ?_; intro v ps hv; obtain ⟨cs, rfl, hc1, hc2, _⟩ := R64_inv hv; rw [HHas.out]; have HC1 := Lib.hid hc1; have HC2 := Lib.hid hc2; clear hv hc1 hc2) | (refine wpList_store_mid rfl 98 (.tmp 9) (.tmp 35) rfl w1.heap.size 0 cs rfl rfl (there_new w1 _ z64 HC1.out rfl) (by rw [HC1.out]; exact secInfo) HC2.out ?_; generalize hw2 : World.setCells _ _ _ _ = w2; have hbel : Below w1.heap.size w1 w2 := (by rw [← hw2]; exact below_set_new w1 _ _); have HD2 := Lib.hid (HD1.out.below hbel); have HK2 := Lib.hid (HK1.out.later hbel); have m1 := HD2.out.cells 1 _ rfl; clear hw2 hbel l1) | (refine wpList_clear_mid rfl Tryd.u8w (.tmp 47) rfl g (i * 64) 64 (c - i * 64) rfl (by decide) (byteZero _) (there_of HD2.out (by have := HI.out; omega)) ?_; generalize hw3 : World.setCells _ _ _ _ = w3; have hst := HD2.out.setImg (o := i * 64) (vs := List.replicate 64 0) (by have := HI.out; simp; omega) rfl; rw [hw3] at hst; have HD3 := Lib.hid hst.1; have HK3 := Lib.hid (HK2.out.tran hst.2); clear hw3 hst m1) | (refine wpList_copy_mid rfl Tryd.u8w (.tmp 48) (.tmp 49) rfl g (i * 64) 64 (c - i * 64) rfl rfl (HBY.out _ HK3.out) HN.out (there_of HD3.out (by have := HI.out; have := HN.out; omega)) ?_; generalize hw4 : World.setCells _ _ _ _ = w4; have hst := HD3.out.setImg (o := i * 64) (vs := b) (by have := HI.out; have := HN.out; have := HBL.out; omega) rfl; rw [hw4] at hst; have HD4 := Lib.hid hst.1; have HK4 := Lib.hid (HK3.out.tran hst.2); have n2 := HD4.out.cells 2 _ rfl; have f2 := HD4.out.sd 2; clear hw4 hst))
    go_ret
    have hfin := HD4.out.count (s' := { burnS s with img := putS s.img i b, ds := dirtS s.ds i, wr := s.wr + 1 }) _ rfl (by
      show putS s.img i b = _
      rw [putS_two (by have := HBL.out; have := HN.out; omega) (by have := HLI.out; have := HI.out; omega)]
      simp only [HQ.out.1, List.length_replicate]) (by show dirtS s.ds i = _; rw [HF.out]; exact HQ.out.2.1.symm) rfl rfl HOK.out
    refine ⟨rfl, ?_⟩
    have hw : (s.wr + 1 : Nat) = (burnS s).wr + 1 := by rw [HQ.out.2.2]
    simp only [hw] at hfin ⊢
    exact ⟨hfin.1, HK4.out.tran hfin.2⟩
  · have HHas : Hid (Maps.has (secSet (burnS s).ds) (Lit.int .i64 (i : Int)) = false) := by show _ = _; rw [secSet_has, HQ.out.2.1]; exact decide_eq_false hmem
    have HF : Hid (dirtS s.ds i = s.ds ++ [i]) := by show _ = _; rw [dirtS, if_neg hmem]
    clear hmem
    go_enter Tryd.func34, Tryd.ntmps34
    go_upto_region 11 with (first | (go_at_call 57; refine CK.out.mono ?_; rintro e w0 ⟨rfl, rfl⟩; rw [HCK.out]) | (go_at_call 58; refine BU.out.mono ?_; rintro e w1 ⟨rfl, hdv, hk⟩; rw [HBD.out]; have HD1 := Lib.hid hdv; have HK1 := Lib.hid hk; clear hdv hk) | (go_at_call 59; refine (dat_any i HI.out HD1.out).mono ?_; rintro e w2 ⟨rfl, rfl⟩; have l1 := HD1.out.cells 1 _ rfl) | (at_lookup; refine wpList_lookup_own_ok _ rfl _ _ 83 rfl 3 98 secKey Tryd.underlying83 R64 (secZero _) (.lit (.bool true)) [] secZero_mark r _ _ rfl HD1.out.map _ _ rfl (Maps.keyOf_int_mk Tryd.underlying3 (WalkArith.wf_i64 (by omega))) ?_; intro v ps hv; obtain ⟨cs, rfl, hc1, hc2, _⟩ := R64_inv hv; rw [HHas.out]; have HC1 := Lib.hid hc1; have HC2 := Lib.hid hc2; clear hv hc1 hc2) | (refine wpList_store_mid rfl 98 (.tmp 9) (.tmp 35) rfl w1.heap.size 0 cs rfl rfl (there_new w1 _ z64 HC1.out rfl) (by rw [HC1.out]; exact secInfo) HC2.out ?_; generalize hw2 : World.setCells _ _ _ _ = w2; have hbel : Below w1.heap.size w1 w2 := (by rw [← hw2]; exact below_set_new w1 _ _); have HD2 := Lib.hid (HD1.out.below hbel); have HK2 := Lib.hid (HK1.out.later hbel); have m1 := HD2.out.cells 1 _ rfl; clear hw2 hbel l1))
    have hlenB : (burnS s).img.length = S * 64 := HD2.out.ok.len
    have hby := (HD2.out.img.cut (k := i * 64) (cap := c) (by have := HI.out; omega) HSZ.out.2.2.1).take (k := 64) (by have := HI.out; omega)
    rw [if_neg (by have := HI.out; have := HSZ.out.2.2.1; omega)] at hby
    have hrg : w2.drew.rangeAt g (i * 64) (bytes (((burnS s).img.drop (i * 64)).take 64)) := byt_range (w := w2.drew) (B := g + 1) (n := 64) (by simpa [Addr.add_mid] using hby.drew)
    obtain ⟨cs6, hcs6⟩ : ∃ x, bytes (((burnS s).img.drop (i * 64)).take 64) = x := ⟨_, rfl⟩
    have hcl : cs6.length = 64 := by rw [← hcs6, bytes_len, hby.len]
    have hone : cs6.toArray.all (·.oneCell') = true := by rw [← hcs6]; exact all_oneCell_toArray bytes_one
    rw [hcs6] at hrg
    have HRG := Lib.hid hrg
    have HCL := Lib.hid hcl
    obtain ⟨w6, hrun, hm6, o1, o2, o3, o4, hb6⟩ := DMap.put (w := w2.drew) (r := r) (ds := (burnS s).ds) (i := i) HD2.out.map (by
      have := HD2.out.ok
      exact Nat.le_trans (nodup_len this.nd this.lt) HSZ.out.2.1) (by have := HI.out; have := HSZ.out.2.1; omega) (cs := cs6.toArray) (by simpa using hcl) hone
    have HRUN := Lib.hid hrun
    have hd2d : Dv w2.drew d g r S c (burnS s) := HD2.out.below (Below.drew (Below.refl _ _))
    have HD6 := Lib.hid (hd2d.turnMap hm6 ⟨o1, o2, o3, o4⟩ hb6 (by have := (dirtS_ok HI.out HD2.out.ok.nd HD2.out.ok.lt).1; rw [HQ.out.2.1, HF.out] at this; rw [HQ.out.2.1]; exact this) (by have := (dirtS_ok HI.out HD2.out.ok.nd HD2.out.ok.lt).2; rw [HQ.out.2.1, HF.out] at this; rw [HQ.out.2.1]; exact this))
    have HK2d : Hid (Keep w w2.drew (dvL d g r)) := HK2.out.later (Below.drew (Below.refl _ _))
    clear hlenB hby hrg hcs6 hcl hone hrun hm6 o1 o2 o3 o4 hb6 hd2d
    go_cut [] (fun wx => Dv wx d g r S c { burnS s with ds := (burnS s).ds ++ [i] } ∧ Keep w wx (dvL d g r))
    case first =>
      refine wp_region_inv (F := ?F) (R11 w2 d g r i (c - i * 64) cs6) id ?hF (by kernel_rfl) (by kernel_rfl) ?ha ?h0 ?hs ?hfin
      case hF =>
        intro v
        simp only [putsAll, Act.put, List.setIfInBounds_toArray, List.set_cons_zero, List.set_cons_succ]
        rfl
      case ha =>
        simp only [putsAll, Act.put, List.setIfInBounds_toArray, List.set_cons_zero, List.set_cons_succ]
        rfl
      case h0 => exact { same := fun _ => rfl, fin := nofun, s0 := nofun, s1 := nofun, s2 := nofun, s3 := nofun, s4 := nofun, s5 := nofun, s6 := nofun, s7 := nofun }
      case hs =>
        clear m1
        refine ⟨?_, ?_, ?_, ?_, ?_, ?_, ?_, ?_, ?_, trivial⟩
        · intro b9 v w9 hR hc hb hp K hK
          (try simp [Region.binds] at hp)
          have h8 : b9 8 = false := hc.neg (by kernel_rfl) hb
          clear hc
          have hw9 := hR.same h8
          subst hw9
          go_simp
          exact hK (upd v 0 _) _ { hR with s0 := fun _ => rfl }
        · intro b9 v w9 hR hc hb hp K hK
          (try simp [Region.binds] at hp)
          have h8 : b9 8 = false := hc.neg (by kernel_rfl) hb
          clear hc
          have e0 := hR.s0 (by simp [hp])
          have hw9 := hR.same h8
          subst hw9
          go_simp
          exact hK (upd (upd v 1 _) 0 _) _ { hR with s1 := fun _ => rfl, s0 := fun _ => rfl }
        · intro b9 v w9 hR hc hb hp K hK
          (try simp [Region.binds] at hp)
          have h8 : b9 8 = false := hc.neg (by kernel_rfl) hb
          clear hc
          have e1 := hR.s1 (by simp [hp])
          have hw9 := hR.same h8
          subst hw9
          go_simp
          exact hK (upd (upd v 2 _) 1 _) _ { hR with s2 := fun _ => rfl, s1 := fun _ => rfl }
        · intro b9 v w9 hR hc hb hp K hK
          (try simp [Region.binds] at hp)
          have h8 : b9 8 = false := hc.neg (by kernel_rfl) hb
          clear hc
          have e2 := hR.s2 (by simp [hp])
          have hw9 := hR.same h8
          subst hw9
          have m1 := HD2.out.cells 1 _ rfl
          go_simp
          exact hK (upd (upd v 3 _) 2 _) _ { hR with s3 := fun _ => rfl, s2 := fun _ => rfl }
        · intro b9 v w9 hR hc hb hp K hK
          (try simp [Region.binds] at hp)
          have h8 : b9 8 = false := hc.neg (by kernel_rfl) hb
          clear hc
          have hw9 := hR.same h8
          subst hw9
          go_simp
          exact hK (upd v 4 _) _ { hR with s4 := fun _ => rfl }
        · intro b9 v w9 hR hc hb hp K hK
          (try simp [Region.binds] at hp)
          have h8 : b9 8 = false := hc.neg (by kernel_rfl) hb
          clear hc
          have hw9 := hR.same h8
          subst hw9
          go_simp
          exact hK (upd v 5 _) _ { hR with s5 := fun _ => rfl }
        · intro b9 v w9 hR hc hb hp K hK
          (try simp [Region.binds] at hp)
          have h8 : b9 8 = false := hc.neg (by kernel_rfl) hb
          clear hc
          have e5 := hR.s5 (by simp [hp])
          have hw9 := hR.same h8
          subst hw9
          go_simp
          exact hK (upd (upd v 6 _) 5 _) _ { hR with s6 := fun _ => rfl, s5 := fun _ => rfl }
        · intro b9 v w9 hR hc hb hp K hK
          (try simp [Region.binds] at hp)
          have h8 : b9 8 = false := hc.neg (by kernel_rfl) hb
          clear hc
          have hw9 := hR.same h8
          subst hw9
          refine step_load_mid rfl 98 (.tmp 45) rfl g (i * 64) (hR.s6 (by simp [hp])) cs6 _ HRG.out Tryd.underlying98 rfl (by rw [HCL.out]; exact secInfo) ?_
          exact hK (upd v 7 (.agg cs6.toArray)) _ { hR with s7 := fun _ => rfl }
        · intro b9 v w9 hR hc hb hp K hK
          (try simp [Region.binds] at hp)
          clear hc
          have e3 := hR.s3 (by simp [hp])
          have e4 := hR.s4 (by simp [hp])
          have e7 := hR.s7 (by simp [hp])
          have hw9 := hR.same hb
          subst hw9
          have hrun := HRUN.out
          go_simp
          exact hK (upd (upd (upd v 3 _) 4 _) 7 _) _ { hR with same := fun h => Bool.noConfusion (show true = false from h), fin := fun _ => HRUN.out, s3 := fun _ => rfl, s4 := fun _ => rfl, s7 := fun _ => rfl }
      case hfin =>
        intro b9 v w9 hall hR
        have hx := hR.fin (hall 8 (by decide))
        rw [HRUN.out] at hx
        injection hx with _ hx
        subst hx
        clear hR hall m1
        go_wp2_with fail
        (try go_simp)
        go_meet
        exact ⟨HD6.out.1, HK2d.out.tran HD6.out.2⟩
    case rest =>
      obtain ⟨hd7, hk7⟩ := hcut
      obtain ⟨w7, hw7⟩ : ∃ x, x = wc := ⟨_, rfl⟩
      subst hw7
      have HD2 := Lib.hid hd7
      have HK2 := Lib.hid hk7
      clear hd7 hk7 HD6 HK2d HRUN m1
      have m1 := HD2.out.cells 1 _ rfl
      go_wp2_with (first | (refine wpList_clear_mid rfl Tryd.u8w (.tmp 47) rfl g (i * 64) 64 (c - i * 64) rfl (by decide) (byteZero _) (there_of HD2.out (by have := HI.out; omega)) ?_; generalize hw3 : World.setCells _ _ _ _ = w3; have hst := HD2.out.setImg (o := i * 64) (vs := List.replicate 64 0) (by have := HI.out; simp; omega) rfl; rw [hw3] at hst; have HD3 := Lib.hid hst.1; have HK3 := Lib.hid (HK2.out.tran hst.2); clear hw3 hst m1) | (refine wpList_copy_mid rfl Tryd.u8w (.tmp 48) (.tmp 49) rfl g (i * 64) 64 (c - i * 64) rfl rfl (HBY.out _ HK3.out) HN.out (there_of HD3.out (by have := HI.out; have := HN.out; omega)) ?_; generalize hw4 : World.setCells _ _ _ _ = w4; have hst := HD3.out.setImg (o := i * 64) (vs := b) (by have := HI.out; have := HN.out; have := HBL.out; omega) rfl; rw [hw4] at hst; have HD4 := Lib.hid hst.1; have HK4 := Lib.hid (HK3.out.tran hst.2); have n2 := HD4.out.cells 2 _ rfl; have f2 := HD4.out.sd 2; clear hw4 hst))
      go_ret
      have hfin := HD4.out.count (s' := { burnS s with img := putS s.img i b, ds := dirtS s.ds i, wr := s.wr + 1 }) _ rfl (by
        show putS s.img i b = _
        rw [putS_two (by have := HBL.out; have := HN.out; omega) (by have := HLI.out; have := HI.out; omega)]
        simp only [HQ.out.1, List.length_replicate]) (by show dirtS s.ds i = _; rw [HF.out]; rw [HQ.out.2.1]) rfl rfl HOK.out
      refine ⟨rfl, ?_⟩
      have hw : (s.wr + 1 : Nat) = (burnS s).wr + 1 := by rw [HQ.out.2.2]
      simp only [hw] at hfin ⊢
      exact ⟨hfin.1, HK4.out.tran hfin.2⟩
end
end Go.Proofs.YthgpmnblkhehkaaDoor
