/- An open region: flush (tools/mkreg.py). -/
import Derived.Test.YthgpmnblkhehkaaDoorReg
import Derived.Deep.DeepCutAuto
namespace Go.Proofs.YthgpmnblkhehkaaDoor
open Go.RowKit

/-- A header's numbers. -/
structure Hd where
  v : Int
  slot : Int
  lay : Int
  seq : Int
  tail : Int
  now : Int
def Hd.vals (h : Hd) : List Value := [.int .i64 h.v, .int .i64 h.slot, .int .i64 h.lay, .int .i64 h.seq, .int .i64 h.tail, .int .i64 h.now]
/-- An open region: block q; its device, its packer. -/
structure Rg (w : World) (q d g r S c : Nat) (s : DS) (h : Hd) (p : Nat) (a b cc dd f sq : Int) (A : Option Addr) (n cap tk : Nat) (bs : List UInt8) : Prop where
  cells : Cells w q [.pointer (some ⟨d, 0, none⟩), .int .i64 h.v, .int .i64 h.slot, .int .i64 h.lay, .int .i64 h.seq, .int .i64 h.tail, .int .i64 h.now, .pointer (some ⟨p, 0, none⟩)]
  dv : Dv w d g r S c s
  pk : Pk w p a b cc dd f sq A n cap (tk : Int) bs
  nq : ¬ dvL d g r q ∧ q ≠ p
  np : ¬ dvL d g r p
  nr : ∀ k, (Value.slice A n cap).ownBlock = some k → ¬ dvL d g r k ∧ k ≠ q
/-- What a region's calls touch, but for its stream. -/
def rgL (d g r p : Nat) (k : Nat) : Prop := dvL d g r k ∨ k = p
section
variable {w w' : World} {q d g r S c p : Nat} {s s' : DS} {h : Hd} {a b cc dd f sq : Int} {A : Option Addr} {n cap tk : Nat} {bs : List UInt8}
theorem Rg.below (hR : Rg w q d g r S c s h p a b cc dd f sq A n cap tk bs) (hb : Below w.heap.size w w') : Rg w' q d g r S c s h p a b cc dd f sq A n cap tk bs :=
  ⟨hR.cells.below hb hR.cells.lt, hR.dv.below hb, hR.pk.below hb, hR.nq, hR.np, hR.nr⟩
theorem Dv.far {rr : Option Nat} (h : Dv w d g r S c s) (hf : Far w w' p rr) (hp : ¬ dvL d g r p) (hr : ∀ k, rr = some k → ¬ dvL d g r k) : Dv w' d g r S c s := by
  have hb : ∀ k, dvL d g r k → k < w.heap.size → w'.heap[k]? = w.heap[k]? := fun k hk hlt => hf.block k hlt (fun e => hp (e ▸ hk)) (fun e => hr k e.symm hk)
  exact h.same (hb _ (.inl rfl) h.cells.lt) (hb _ (.inr (.inl rfl)) h.glt) (hb _ (.inr (.inr rfl)) h.map.lt)
theorem Pk.kept (h : Pk w p a b cc dd f sq A n cap (tk : Int) bs) {L : Nat → Prop} (hk : Keep w w' L) (hp : ¬ L p) (hr : ∀ k, (Value.slice A n cap).ownBlock = some k → ¬ L k) : Pk w' p a b cc dd f sq A n cap (tk : Int) bs :=
  ⟨h.cells.kept hk h.cells.lt hp, h.soft.same (hk.block p h.cells.lt hp), h.own.same fun k e => hk.block k (h.own.lt e) (hr k e)⟩
/-- Behind writes to the device alone. -/
theorem Rg.wrote (hR : Rg w q d g r S c s h p a b cc dd f sq A n cap tk bs) (hd : Dv w' d g r S c s') (hk : Keep w w' (dvL d g r)) : Rg w' q d g r S c s' h p a b cc dd f sq A n cap tk bs :=
  ⟨hR.cells.kept hk hR.cells.lt hR.nq.1, hd, hR.pk.kept hk hR.np (fun k e => (hR.nr k e).1), hR.nq, hR.np, hR.nr⟩
/-- Behind a call of the packer. -/
theorem Rg.packed {A' : Option Addr} {n' cap' tk' : Nat} {bs' : List UInt8} {rr : Option Nat} (hR : Rg w q d g r S c s h p a b cc dd f sq A n cap tk bs) (hpk : Pk w' p a b cc dd f sq A' n' cap' (tk' : Int) bs') (hf : Far w w' p rr) (hrr : rr = (Value.slice A n cap).ownBlock ∨ rr = none)
    (hb : Born w (Value.slice A n cap).ownBlock (Value.slice A' n' cap').ownBlock) : Rg w' q d g r S c s h p a b cc dd f sq A' n' cap' tk' bs' := by
  have hq : ∀ k, rr = some k → ¬ dvL d g r k ∧ k ≠ q := fun k e => by
    rcases hrr with h1 | h1
    · exact hR.nr k (h1 ▸ e)
    · rw [h1] at e; cases e
  refine ⟨hR.cells.same (hf.block q hR.cells.lt hR.nq.2 (fun e => (hq q e.symm).2 rfl)), hR.dv.far hf hR.np (fun k e => (hq k e).1), hpk, hR.nq, hR.np, fun k e => ?_⟩
  rcases hb with h1 | h1
  · exact hR.nr k (h1 ▸ e)
  · have hk := h1 k e
    refine ⟨?_, fun e => by have := hR.cells.lt; omega⟩
    rintro (e | e | e)
    · have := hR.dv.cells.lt; omega
    · have := hR.dv.glt; omega
    · have := hR.dv.map.lt; omega
theorem takeS_at {f s : Int} {bs : List UInt8} {t N k : Nat} (hk : k < N) : (takeS f s bs t N)[k]? = some (f + 1 + ((t + k : Nat) : Int), frame 2 s.toNat (f + 1 + ((t + k : Nat) : Int)).toNat (chunk bs (t + k))) := by simp [takeS, hk]
theorem takeS_len (f s : Int) (bs : List UInt8) (t N : Nat) : (takeS f s bs t N).length = N := by simp [takeS]
theorem sect_at {f : Int} {t N k : Nat} (hk : k < N) : (ints (sectS f t N))[k]? = some (.int .i64 (f + 1 + ((t + k : Nat) : Int))) := by simp [ints, sectS, hk]
theorem fram_at {f s : Int} {bs : List UInt8} {t N k : Nat} (hk : k < N) : (framS f s bs t N)[k]? = some (frame 2 s.toNat (f + 1 + ((t + k : Nat) : Int)).toNat (chunk bs (t + k))) := by simp [framS, hk]

/-- A frame is written: what has come up (bb), what the temporaries hold (v). -/
structure R5f (w0 : World) (q d g r S c gA k : Nat) (A3 : Option Addr) (N c3 : Nat) (fv : Value) (sv : Int) (res : Int × DS) (bb : Nat → Bool) (v : Nat → Value) (w : World) : Prop where
  same : bb 9 = false → w = w0.drew
  fin : bb 9 = true → v 9 = .int .i64 res.1 ∧ Dv w d g r S c res.2 ∧ Keep w0 w (dvL d g r)
  s0 : bb 0 = true → v 0 = .pointer (some ⟨q, 0, none⟩)
  s1 : bb 1 = true → v 1 = .pointer (some ⟨q, 0, none⟩)
  s2 : bb 2 = true → v 2 = .pointer (some ⟨q, 0, none⟩)
  s3 : bb 3 = true → v 3 = .pointer (some ⟨d, 0, none⟩)
  s4 : bb 4 = true → v 4 = .int .i64 sv
  s5 : bb 5 = true → v 5 = .slice A3 N c3
  s6 : bb 6 = true → v 6 = .int .i64 (k : Int)
  s7 : bb 7 = true → v 7 = .pointer (some ⟨gA, k, none⟩)
  s8 : bb 8 = true → v 8 = fv
  f10 : bb 10 = true → v 10 = v 9

set_option maxRecDepth 100000 in
set_option maxHeartbeats 4000000 in
theorem flush_any (hR : Rg w q d g r S c s h p a b cc dd f sq A n cap tk bs) (hn : n ≤ 1000000) (hf0 : 0 ≤ f) (hf : f ≤ 100000) (hs0 : 0 ≤ sq) (hs : sq ≤ 281474976710655) (htk : tk * 59 ≤ n) (N : Nat) (hN1 : (tk + N) * 59 ≤ n) (hN2 : n < (tk + N + 1) * 59) (ht : TabAt w) (hp0 : 0 < p) (hwr : s.wr + N ≤ 1000000000) :
    Calls Tryd.prog 37 #[.pointer (some ⟨q, 0, none⟩)] w fun e w' => e = .returned (.int .i64 (flushS S s (takeS f sq bs tk N)).1) ∧ Rg w' q d g r S c (flushS S s (takeS f sq bs tk N)).2 h p a b cc dd f sq A n cap (tk + N) bs ∧ Keep w w' (rgL d g r p) := by
  have TK := Lib.hid (take_any a b cc dd f sq tk p A n cap bs hn hf0 hf hs0 hs htk N hN1 hN2 w ht hp0 hR.pk)
  have l7 := hR.cells 7 _ rfl
  have HR := Lib.hid hR
  have hN9 : N ≤ 100000 := by omega
  have htk9 : tk ≤ 100000 := by omega
  clear hR ht hn hN1 hN2 htk hs0 hs
  go_enter Tryd.func37, Tryd.ntmps37
  go_wp2_with (go_at_call 60; refine TK.out.mono ?_; rintro e w1 ⟨A2, c2, A3, c3, vs, rfl, htk⟩; have HT1 := Lib.hid htk; clear htk)
  have hrg := HR.out.packed HT1.out.pk HT1.out.far (.inr rfl) (Born.refl _ _)
  have HR1 := Lib.hid hrg
  have HK1 : Hid (Keep w w1 (rgL d g r p)) := (Keep.of_far HT1.out.far).mono (fun k e => by rcases e with e | e; exact .inr e; cases e)
  have hsz1 := HT1.out.far.size
  clear hrg
  go_loopw [18] (fun kv wr => ∃ (k : Nat) (sk : DS), kv = .int .i64 (k : Int) ∧ k ≤ N ∧ flushS S s (takeS f sq bs tk N) = flushS S sk ((takeS f sq bs tk N).drop k) ∧ sk.wr ≤ s.wr + k ∧ Dv wr d g r S c sk ∧ Keep w1 wr (dvL d g r)) (fun kv _ => N - (intOf kv).toNat)
  case atStart => exact ⟨0, s, rfl, Nat.zero_le _, rfl, Nat.le_refl _, HR1.out.dv, Keep.refl _ _⟩
  case round =>
    obtain ⟨k, sk, rfl, hkN, hfl, hwk, hdv, hkp⟩ := hrel
    have HF := Lib.hid hfl
    have HD := Lib.hid hdv
    have HK := Lib.hid hkp
    clear hfl hdv hkp
    by_cases hk : k < N
    · have k1 : (k : Int) < (N : Int) := by omega
      have k0 : (0 : Int) ≤ (k : Int) := by omega
      obtain ⟨sec, hsec⟩ : ∃ sec, f + 1 + ((tk + k : Nat) : Int) = sec := ⟨_, rfl⟩
      obtain ⟨fr, hfr⟩ : ∃ fr, frame 2 sq.toNat sec.toNat (chunk bs (tk + k)) = fr := ⟨_, rfl⟩
      have hst := flushS_drop (S := S) (s := sk) (takeS_at (f := f) (s := sq) (bs := bs) (t := tk) hk)
      have hsa := sect_at (f := f) (t := tk) hk
      have hfa := fram_at (f := f) (s := sq) (bs := bs) (t := tk) hk
      rw [hsec, hfr] at hst
      rw [hsec] at hsa
      rw [hsec, hfr] at hfa
      have HST := Lib.hid hst
      obtain ⟨ad2, e2, hb2, hc2⟩ := HT1.out.sec.vat.2 k _ hsa
      obtain ⟨g2, rfl⟩ : ∃ g2, ad2 = ⟨g2, 0, none⟩ := by
        obtain ⟨g2, _, hv, _⟩ := World.ownsRow.form HT1.out.sec (by omega)
        injection hv with hv _ _
        rw [hv] at e2
        injection e2 with e2
        exact ⟨g2, e2.symm⟩
      subst e2
      have hgv : k < vs.length := by rw [HT1.out.fra.len]; exact hk
      obtain ⟨fv, hfv⟩ : ∃ fv, vs[k]? = some fv := ⟨_, List.getElem?_eq_getElem hgv⟩
      obtain ⟨g5, c5, rfl, hb5, hc5, hl5, hn5, hy5⟩ := HT1.out.frs.2 k fv fr hfv hfa
      obtain ⟨ad3, e3, hb3, hc3⟩ := HT1.out.fra.vat.2 k _ hfv
      obtain ⟨g3, rfl⟩ : ∃ g3, ad3 = ⟨g3, 0, none⟩ := by
        obtain ⟨g3, _, hv, _⟩ := World.ownsRow.form HT1.out.fra (by omega)
        injection hv with hv _ _
        rw [hv] at e3
        injection e3 with e3
        exact ⟨g3, e3.symm⟩
      subst e3
      have hdlt : ∀ j, dvL d g r j → j < w.heap.size := fun j hj => by
        rcases hj with e | e | e
        · rw [e]; exact HR.out.dv.cells.lt
        · rw [e]; exact HR.out.dv.glt
        · rw [e]; exact HR.out.dv.map.lt
      have hge2 : ¬ dvL d g r g2 := fun e => by have := hdlt _ e; have := HT1.out.sec.ge (g := g2) rfl; omega
      have hge3 : ¬ dvL d g r g3 := fun e => by have := hdlt _ e; have := HT1.out.fra.ge (g := g3) rfl; omega
      have hge5 : ¬ dvL d g r g5 := fun e => hn5 (.inl (hdlt _ e))
      have z2 : wr.cell? ⟨g2, k, none⟩ = some (.int .i64 sec) := by
        rw [Addr.add_mid, Nat.zero_add] at hc2
        exact (World.cell?_of_block (a := ⟨g2, k, none⟩) (HK.out.block g2 hb2 hge2)).trans hc2
      have z3 : wr.cell? ⟨g3, k, none⟩ = some (.slice (some ⟨g5, 0, none⟩) fr.length c5) := by
        rw [Addr.add_mid, Nat.zero_add] at hc3
        exact (World.cell?_of_block (a := ⟨g3, k, none⟩) (HK.out.block g3 hb3 hge3)).trans hc3
      have zq := HR1.out.cells.kept HK.out HR1.out.cells.lt HR1.out.nq.1
      have HQ := Lib.hid zq
      have HZ3 := Lib.hid z3
      have hby : Byt wr wr.heap.size (some ⟨g5, 0, none⟩) fr.length fr := hy5.inBlock (HK.out.block g5 hl5 hge5) HK.out.size
      have HBY := Lib.hid hby
      have HNE := Lib.hid hge5
      have hfl9 : fr.length ≤ 9223372036854775807 := by omega
      have WR : Hid (∀ (wx : World), Below wr.heap.size wr wx → Calls Tryd.prog 34 #[.pointer (some ⟨d, 0, none⟩), .int .i64 sec, .slice (some ⟨g5, 0, none⟩) fr.length c5] wx (DWr wx d g r S c (writeS S sk sec fr))) := fun wx hb =>
        dwrite_any sec fr (some ⟨g5, 0, none⟩) fr.length c5 hfl9 ((HBY.out.below hb).more hb.size) (fun ad e => by injection e with e; subst e; exact HNE.out) (HD.out.below hb) (by omega)
      obtain ⟨L, hL⟩ : ∃ L, fr.length = L := ⟨_, rfl⟩
      rw [hL] at z3 HZ3 WR
      obtain ⟨res, hres⟩ : ∃ res, writeS S sk sec fr = res := ⟨_, rfl⟩
      have hrw : res.2.wr ≤ sk.wr + 1 := by rw [← hres]; exact writeS_wr _ _ _ _
      rw [hres] at WR HST
      clear hst hsa hfa hc2 hc3 hb2 hb3 hge2 hge3 hge5 hy5 hn5 hl5 hgv hfv hdlt zq hby hfl9 hL hres hsec hfr
      go_upto_region 5 with fail
      go_cut [7] (fun x wx => x = .int .i64 res.1 ∧ Dv wx d g r S c res.2 ∧ Keep wr wx (dvL d g r))
      case first =>
        refine wp_region_inv (F := ?F) (R5f wr q d g r S c g3 k (some ⟨g3, 0, none⟩) N c3 (.slice (some ⟨g5, 0, none⟩) L c5) sec res) id ?hF (by kernel_rfl) (by kernel_rfl) ?ha ?h0 ?hs ?hfin
        case hF =>
          intro v
          simp only [putsAll, Act.put, List.setIfInBounds_toArray, List.set_cons_zero, List.set_cons_succ]
          rfl
        case ha =>
          simp only [putsAll, Act.put, List.setIfInBounds_toArray, List.set_cons_zero, List.set_cons_succ]
          rfl
        case h0 =>
          exact { same := fun _ => rfl, fin := nofun, s0 := nofun, s1 := nofun, s2 := nofun, s3 := nofun, s4 := nofun, s5 := nofun, s6 := nofun, s7 := nofun, s8 := nofun, f10 := nofun }
        case hs =>
          clear z2 z3
          refine ⟨?_, ?_, ?_, ?_, ?_, ?_, ?_, ?_, ?_, ?_, ?_, trivial⟩
          · intro b9 v w9 hR hc hb hp K hK
            (try simp [Region.binds] at hp)
            have hlast : b9 9 = false := hc.neg (by kernel_rfl) hb
            clear hc
            have hw9 := hR.same hlast
            subst hw9
            go_simp
            exact hK (upd v 0 _) _ { hR with s0 := fun _ => rfl }
          · intro b9 v w9 hR hc hb hp K hK
            (try simp [Region.binds] at hp)
            have hlast : b9 9 = false := hc.neg (by kernel_rfl) hb
            clear hc
            have e0 := hR.s0 (by simp [hp])
            have hw9 := hR.same hlast
            subst hw9
            go_simp
            exact hK (upd (upd v 1 _) 0 _) _ { hR with s1 := fun _ => rfl, s0 := fun _ => rfl }
          · intro b9 v w9 hR hc hb hp K hK
            (try simp [Region.binds] at hp)
            have hlast : b9 9 = false := hc.neg (by kernel_rfl) hb
            clear hc
            have e1 := hR.s1 (by simp [hp])
            have hw9 := hR.same hlast
            subst hw9
            go_simp
            exact hK (upd (upd v 2 _) 1 _) _ { hR with s2 := fun _ => rfl, s1 := fun _ => rfl }
          · intro b9 v w9 hR hc hb hp K hK
            (try simp [Region.binds] at hp)
            have hlast : b9 9 = false := hc.neg (by kernel_rfl) hb
            clear hc
            have e2 := hR.s2 (by simp [hp])
            have hw9 := hR.same hlast
            subst hw9
            have y := HQ.out 0 _ rfl
            go_simp
            exact hK (upd (upd v 3 _) 2 _) _ { hR with s3 := fun _ => rfl, s2 := fun _ => rfl }
          · intro b9 v w9 hR hc hb hp K hK
            (try simp [Region.binds] at hp)
            have hlast : b9 9 = false := hc.neg (by kernel_rfl) hb
            clear hc
            have hw9 := hR.same hlast
            subst hw9
            go_simp
            exact hK (upd v 4 _) _ { hR with s4 := fun _ => rfl }
          · intro b9 v w9 hR hc hb hp K hK
            (try simp [Region.binds] at hp)
            have hlast : b9 9 = false := hc.neg (by kernel_rfl) hb
            clear hc
            have hw9 := hR.same hlast
            subst hw9
            go_simp
            exact hK (upd v 5 _) _ { hR with s5 := fun _ => rfl }
          · intro b9 v w9 hR hc hb hp K hK
            (try simp [Region.binds] at hp)
            have hlast : b9 9 = false := hc.neg (by kernel_rfl) hb
            clear hc
            have hw9 := hR.same hlast
            subst hw9
            go_simp
            exact hK (upd v 6 _) _ { hR with s6 := fun _ => rfl }
          · intro b9 v w9 hR hc hb hp K hK
            (try simp [Region.binds] at hp)
            have hlast : b9 9 = false := hc.neg (by kernel_rfl) hb
            clear hc
            have e5 := hR.s5 (by simp [hp])
            have e6 := hR.s6 (by simp [hp])
            have hw9 := hR.same hlast
            subst hw9
            go_simp
            exact hK (upd (upd (upd v 7 _) 5 _) 6 _) _ { hR with s7 := fun _ => rfl, s5 := fun _ => rfl, s6 := fun _ => rfl }
          · intro b9 v w9 hR hc hb hp K hK
            (try simp [Region.binds] at hp)
            have hlast : b9 9 = false := hc.neg (by kernel_rfl) hb
            clear hc
            have e7 := hR.s7 (by simp [hp])
            have hw9 := hR.same hlast
            subst hw9
            have y := HZ3.out
            go_simp
            exact hK (upd (upd v 8 _) 7 _) _ { hR with s8 := fun _ => rfl, s7 := fun _ => rfl }
          · intro b9 v w9 hR hc hb hp K hK
            (try simp [Region.binds] at hp)
            have hc10 : b9 10 = false := hc.neg (by kernel_rfl) hb
            clear hc
            have e3 := hR.s3 (by simp [hp])
            have e4 := hR.s4 (by simp [hp])
            have e8 := hR.s8 (by simp [hp])
            have hw9 := hR.same hb
            subst hw9
            go_simp
            go_wp2_with (go_at_call 34; refine (WR.out _ (Below.drew (Below.refl _ _))).mono ?_; rintro e w6 ⟨rfl, hd6, hk6⟩)
            exact hK (upd (upd (upd (upd v 9 _) 3 _) 4 _) 8 _) _ { hR with same := fun h => Bool.noConfusion (show true = false from h), fin := fun _ => ⟨rfl, hd6, (Keep.of_below (Below.drew (Below.refl _ _)) _).tran hk6⟩, s3 := fun _ => rfl, s4 := fun _ => rfl, s8 := fun _ => rfl, f10 := fun h => Bool.noConfusion ((hc10.symm.trans h)) }
          · intro b9 v w9 hR hc hb hp K hK
            (try simp [Region.binds] at hp)
            clear hc
            go_simp
            exact hK (upd v 10 (v 9)) _ { hR with f10 := fun _ => rfl }
        case hfin =>
          intro b9 v w9 hall hR
          obtain ⟨e9, hd9, hk9⟩ := hR.fin (hall 9 (by decide))
          have e10 := (hR.f10 (hall 10 (by decide))).trans e9
          have HX := Lib.hid (And.intro hd9 hk9)
          clear hR hall hd9 hk9 e9
          go_wp2_with fail
          (try go_simp)
          go_meet
          exact ⟨rfl, HX.out.1, HX.out.2⟩
      case rest =>
        obtain ⟨rfl, hd2, hk2⟩ := hcut
        obtain ⟨wB, hwB⟩ : ∃ x, x = wc := ⟨_, rfl⟩
        subst hwB
        have HD2 := Lib.hid hd2
        have HK2 := Lib.hid hk2
        clear hd2 hk2 z2 z3 WR
        by_cases h0 : res.1 = 0
        · have hst := HST.out
          rw [if_pos h0] at hst
          have HS2 := Lib.hid hst
          rw [h0]
          clear hst h0
          go_wp2
          go_roundw
          case rel => exact ⟨k + 1, res.2, by go_num, by omega, by rw [HF.out, HS2.out], by omega, HD2.out, HK.out.tran HK2.out⟩
          case measure => simp [intOf]; omega
        · have hst := HST.out
          rw [if_neg h0] at hst
          have HS2 := Lib.hid hst
          obtain ⟨er, her⟩ : ∃ er, res.1 = er := ⟨_, rfl⟩
          rw [her] at h0 ⊢
          have HER := Lib.hid her
          clear hst her
          go_wp2
          go_ret
          refine ⟨by rw [HF.out, HS2.out, HER.out]; rfl, by rw [HF.out, HS2.out]; exact HR1.out.wrote HD2.out (HK.out.tran HK2.out), HK1.out.trans (HK.out.tran HK2.out) (fun j _ hj => .inl hj)⟩
    · have k1 : ¬ (k : Int) < (N : Int) := by omega
      have ek : k = N := by omega
      have HS2 : Hid (flushS S s (takeS f sq bs tk N) = (0, sk)) := by
        show _ = _
        rw [HF.out, ek, List.drop_eq_nil_of_le (by rw [takeS_len]; exact Nat.le_refl _)]
        rfl
      clear ek hk
      go_wp2
      go_ret
      exact ⟨by rw [HS2.out]; rfl, by rw [HS2.out]; exact HR1.out.wrote HD.out HK.out, HK1.out.trans HK.out (fun j _ hj => .inl hj)⟩
end
end Go.Proofs.YthgpmnblkhehkaaDoor
