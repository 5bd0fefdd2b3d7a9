/- SuperApart (tools/mksuplaw2.py). -/
import Derived.Test.YthjnbdbbeidhgaaDoorSupAwake
namespace Go.Proofs.YthjnbdbbeidhgaaDoor
open Go.RowKit Go.Sort

/-- The three ways of Encode. -/
theorem senc_kinds (s : Su) (t : Int) : sencS s t = ([], 4) ∨ sencS s t = ([], 2) ∨ (sencS s t = (sencF s t, 0) ∧ svalid s = true ∧ may 3 0 t = true) := by
  cases hv : svalid s
  · exact .inl (sencS_bad hv)
  · cases hm : may 3 0 t
    · exact .inr (.inl (sencS_range hv hm))
    · exact .inr (.inr ⟨sencS_ok hv hm, rfl, rfl⟩)
theorem senc_two (s s' : Su) (t : Int) (la lb : List UInt8) (ea eb : Int) (ha : sencS s t = (la, ea)) (hb : sencS s' t = (lb, eb)) :
    ((ea = 4 ∨ ea = 2) ∨ (ea = 0 ∧ (eb = 4 ∨ eb = 2))) ∨ (ea = 0 ∧ eb = 0 ∧ la.length = 64 ∧ lb.length = 64 ∧ decide (la = lb) = decide (s = s')) := by
  rcases senc_kinds s t with h | h | ⟨h, hv, hm⟩ <;> rw [h] at ha <;> obtain ⟨rfl, rfl⟩ := Prod.mk.inj ha
  · exact .inl (.inl (.inl rfl))
  · exact .inl (.inl (.inr rfl))
  rcases senc_kinds s' t with h' | h' | ⟨h', hv', _⟩ <;> rw [h'] at hb <;> obtain ⟨rfl, rfl⟩ := Prod.mk.inj hb
  · exact .inl (.inr ⟨rfl, .inl rfl⟩)
  · exact .inl (.inr ⟨rfl, .inr rfl⟩)
  · exact .inr ⟨rfl, rfl, sencF_len _ _, sencF_len _ _, by have := senc_inj hv hv' hm; by_cases e : s = s' <;> simp [e, this]⟩

/-- Two structs, written anew. -/
theorem two_set14 {B : Nat} {w0 w : World} {ga gb : Nat} {x0 x1 x2 x3 x4 x5 x6 x7 x8 x9 x10 x11 x12 x13 y0 y1 y2 y3 y4 y5 y6 y7 y8 y9 y10 y11 y12 y13 : Value} (hb : Below B w0 w) (hne : ¬ ga = gb) (hga : B ≤ ga) (hgb : B ≤ gb) (hx : Cells w ga [x0, x1, x2, x3, x4, x5, x6, x7, x8, x9, x10, x11, x12, x13]) (hy : Cells w gb [y0, y1, y2, y3, y4, y5, y6, y7, y8, y9, y10, y11, y12, y13]) (u0 u1 u2 u3 u4 u5 u6 u7 u8 u9 u10 u11 u12 u13 v0 v1 v2 v3 v4 v5 v6 v7 v8 v9 v10 v11 v12 v13 : Value) :
    Cells ((((((((((((((((((((((((((((w.setCell ⟨ga, 0, none⟩ u0).setCell ⟨ga, 1, none⟩ u1).setCell ⟨ga, 2, none⟩ u2).setCell ⟨ga, 3, none⟩ u3).setCell ⟨ga, 4, none⟩ u4).setCell ⟨ga, 5, none⟩ u5).setCell ⟨ga, 6, none⟩ u6).setCell ⟨ga, 7, none⟩ u7).setCell ⟨ga, 8, none⟩ u8).setCell ⟨ga, 9, none⟩ u9).setCell ⟨ga, 10, none⟩ u10).setCell ⟨ga, 11, none⟩ u11).setCell ⟨ga, 12, none⟩ u12).setCell ⟨ga, 13, none⟩ u13).setCell ⟨gb, 0, none⟩ v0).setCell ⟨gb, 1, none⟩ v1).setCell ⟨gb, 2, none⟩ v2).setCell ⟨gb, 3, none⟩ v3).setCell ⟨gb, 4, none⟩ v4).setCell ⟨gb, 5, none⟩ v5).setCell ⟨gb, 6, none⟩ v6).setCell ⟨gb, 7, none⟩ v7).setCell ⟨gb, 8, none⟩ v8).setCell ⟨gb, 9, none⟩ v9).setCell ⟨gb, 10, none⟩ v10).setCell ⟨gb, 11, none⟩ v11).setCell ⟨gb, 12, none⟩ v12).setCell ⟨gb, 13, none⟩ v13) ga [u0, u1, u2, u3, u4, u5, u6, u7, u8, u9, u10, u11, u12, u13] ∧ Cells ((((((((((((((((((((((((((((w.setCell ⟨ga, 0, none⟩ u0).setCell ⟨ga, 1, none⟩ u1).setCell ⟨ga, 2, none⟩ u2).setCell ⟨ga, 3, none⟩ u3).setCell ⟨ga, 4, none⟩ u4).setCell ⟨ga, 5, none⟩ u5).setCell ⟨ga, 6, none⟩ u6).setCell ⟨ga, 7, none⟩ u7).setCell ⟨ga, 8, none⟩ u8).setCell ⟨ga, 9, none⟩ u9).setCell ⟨ga, 10, none⟩ u10).setCell ⟨ga, 11, none⟩ u11).setCell ⟨ga, 12, none⟩ u12).setCell ⟨ga, 13, none⟩ u13).setCell ⟨gb, 0, none⟩ v0).setCell ⟨gb, 1, none⟩ v1).setCell ⟨gb, 2, none⟩ v2).setCell ⟨gb, 3, none⟩ v3).setCell ⟨gb, 4, none⟩ v4).setCell ⟨gb, 5, none⟩ v5).setCell ⟨gb, 6, none⟩ v6).setCell ⟨gb, 7, none⟩ v7).setCell ⟨gb, 8, none⟩ v8).setCell ⟨gb, 9, none⟩ v9).setCell ⟨gb, 10, none⟩ v10).setCell ⟨gb, 11, none⟩ v11).setCell ⟨gb, 12, none⟩ v12).setCell ⟨gb, 13, none⟩ v13) gb [v0, v1, v2, v3, v4, v5, v6, v7, v8, v9, v10, v11, v12, v13] ∧ Below B w0 ((((((((((((((((((((((((((((w.setCell ⟨ga, 0, none⟩ u0).setCell ⟨ga, 1, none⟩ u1).setCell ⟨ga, 2, none⟩ u2).setCell ⟨ga, 3, none⟩ u3).setCell ⟨ga, 4, none⟩ u4).setCell ⟨ga, 5, none⟩ u5).setCell ⟨ga, 6, none⟩ u6).setCell ⟨ga, 7, none⟩ u7).setCell ⟨ga, 8, none⟩ u8).setCell ⟨ga, 9, none⟩ u9).setCell ⟨ga, 10, none⟩ u10).setCell ⟨ga, 11, none⟩ u11).setCell ⟨ga, 12, none⟩ u12).setCell ⟨ga, 13, none⟩ u13).setCell ⟨gb, 0, none⟩ v0).setCell ⟨gb, 1, none⟩ v1).setCell ⟨gb, 2, none⟩ v2).setCell ⟨gb, 3, none⟩ v3).setCell ⟨gb, 4, none⟩ v4).setCell ⟨gb, 5, none⟩ v5).setCell ⟨gb, 6, none⟩ v6).setCell ⟨gb, 7, none⟩ v7).setCell ⟨gb, 8, none⟩ v8).setCell ⟨gb, 9, none⟩ v9).setCell ⟨gb, 10, none⟩ v10).setCell ⟨gb, 11, none⟩ v11).setCell ⟨gb, 12, none⟩ v12).setCell ⟨gb, 13, none⟩ v13) := by
  exact ⟨((((((((((((((((((((((((((((hx.set 0 u0).set 1 u1).set 2 u2).set 3 u3).set 4 u4).set 5 u5).set 6 u6).set 7 u7).set 8 u8).set 9 u9).set 10 u10).set 11 u11).set 12 u12).set 13 u13).other hne 0 _).other hne 1 _).other hne 2 _).other hne 3 _).other hne 4 _).other hne 5 _).other hne 6 _).other hne 7 _).other hne 8 _).other hne 9 _).other hne 10 _).other hne 11 _).other hne 12 _).other hne 13 _), ((((((((((((((((((((((((((((hy.other (fun e => hne e.symm) 0 _).other (fun e => hne e.symm) 1 _).other (fun e => hne e.symm) 2 _).other (fun e => hne e.symm) 3 _).other (fun e => hne e.symm) 4 _).other (fun e => hne e.symm) 5 _).other (fun e => hne e.symm) 6 _).other (fun e => hne e.symm) 7 _).other (fun e => hne e.symm) 8 _).other (fun e => hne e.symm) 9 _).other (fun e => hne e.symm) 10 _).other (fun e => hne e.symm) 11 _).other (fun e => hne e.symm) 12 _).other (fun e => hne e.symm) 13 _).set 0 v0).set 1 v1).set 2 v2).set 3 v3).set 4 v4).set 5 v5).set 6 v6).set 7 v7).set 8 v8).set 9 v9).set 10 v10).set 11 v11).set 12 v12).set 13 v13), (Below.setCell (Below.setCell (Below.setCell (Below.setCell (Below.setCell (Below.setCell (Below.setCell (Below.setCell (Below.setCell (Below.setCell (Below.setCell (Below.setCell (Below.setCell (Below.setCell (Below.setCell (Below.setCell (Below.setCell (Below.setCell (Below.setCell (Below.setCell (Below.setCell (Below.setCell (Below.setCell (Below.setCell (Below.setCell (Below.setCell (Below.setCell (Below.setCell hb (by exact hga) _) (by exact hga) _) (by exact hga) _) (by exact hga) _) (by exact hga) _) (by exact hga) _) (by exact hga) _) (by exact hga) _) (by exact hga) _) (by exact hga) _) (by exact hga) _) (by exact hga) _) (by exact hga) _) (by exact hga) _) (by exact hgb) _) (by exact hgb) _) (by exact hgb) _) (by exact hgb) _) (by exact hgb) _) (by exact hgb) _) (by exact hgb) _) (by exact hgb) _) (by exact hgb) _) (by exact hgb) _) (by exact hgb) _) (by exact hgb) _) (by exact hgb) _) (by exact hgb) _)⟩

set_option maxRecDepth 100000 in
set_option maxHeartbeats 16000000 in
theorem superApart_any (g p m t n a1 b1 c1 d1 a2 b2 c2 d2 g' p' m' t' n' a1' b1' c1' d1' a2' b2' c2' d2' : Int) (sc : Int) (fs fs' : List Ly) (A A' : Option Addr) (k c k' c' : Nat) (w : World) (ht : TabAt w) (h0 : 0 < w.heap.size) (hx : LAt w w.heap.size A k fs) (hy : LAt w w.heap.size A' k' fs') (hk : k ≤ c) (hc : c ≤ 9223372036854775807) (hk' : k' ≤ c') (hc' : c' ≤ 9223372036854775807) (hok : ∀ l ∈ fs, l.ok) (hok' : ∀ l ∈ fs', l.ok)
    (i1 : I64 a1) (i2 : I64 b1) (i3 : I64 c1) (i4 : I64 d1) (i5 : I64 a2) (i6 : I64 b2) (i7 : I64 c2) (i8 : I64 d2) (i1' : I64 a1') (i2' : I64 b1') (i3' : I64 c1') (i4' : I64 d1') (i5' : I64 a2') (i6' : I64 b2') (i7' : I64 c2') (i8' : I64 d2') :
    Calls Tryd.prog 7 #[.agg #[.int .i64 g, .int .i64 p, .int .i64 m, .int .i64 t, .int .i64 n, .int .i64 a1, .int .i64 b1, .int .i64 c1, .int .i64 d1, .int .i64 a2, .int .i64 b2, .int .i64 c2, .int .i64 d2, .slice A k c], .agg #[.int .i64 g', .int .i64 p', .int .i64 m', .int .i64 t', .int .i64 n', .int .i64 a1', .int .i64 b1', .int .i64 c1', .int .i64 d1', .int .i64 a2', .int .i64 b2', .int .i64 c2', .int .i64 d2', .slice A' k' c'], .int .i64 sc] w fun e w' => e = .returned (.bool true) ∧ Below w.heap.size w w' := by
  have HT : Hid (∀ w', Below w.heap.size w w' → TabAt w' ∧ 0 < w'.heap.size) := fun w' hw => ⟨ht.below hw h0, Nat.lt_of_lt_of_le h0 hw.size⟩
  obtain ⟨mk, hmk, hmk1, hmk4⟩ := slen k 4
  obtain ⟨mk', hmk', hmk1', hmk4'⟩ := slen k' 4
  have SHa := Lib.hid (sshort_any g p m t n a1 b1 c1 d1 a2 b2 c2 d2 A k c mk hk hc hmk)
  have SHb := Lib.hid (sshort_any g' p' m' t' n' a1' b1' c1' d1' a2' b2' c2' d2' A' k' c' mk' hk' hc' hmk')
  obtain ⟨gs, hgs⟩ : ∃ gs, fs.take mk = gs := ⟨_, rfl⟩
  obtain ⟨gs', hgs'⟩ : ∃ gs', fs'.take mk' = gs' := ⟨_, rfl⟩
  have HLa : Hid (∀ w', Below w.heap.size w w' → LAt w' w.heap.size A mk gs) := fun w' hb => by rw [← hgs]; exact (hx.take hmk1).below hb
  have HLb : Hid (∀ w', Below w.heap.size w w' → LAt w' w.heap.size A' mk' gs') := fun w' hb => by rw [← hgs']; exact (hy.take hmk1').below hb
  have HOa : Hid (∀ l ∈ gs, l.ok) := fun l hl => hok l (List.mem_of_mem_take (by rw [hgs]; exact hl))
  have HOb : Hid (∀ l ∈ gs', l.ok) := fun l hl => hok' l (List.mem_of_mem_take (by rw [hgs']; exact hl))
  have HI := Lib.hid (And.intro (And.intro i1 (And.intro i2 (And.intro i3 i4))) (And.intro i5 (And.intro i6 (And.intro i7 i8))))
  have HI' := Lib.hid (And.intro (And.intro i1' (And.intro i2' (And.intro i3' i4'))) (And.intro i5' (And.intro i6' (And.intro i7' i8'))))
  have HKC : Hid (mk ≤ c ∧ mk' ≤ c') := ⟨by omega, by omega⟩
  have HBa := Lib.hid (below_al w (.cells #[.int .i64 g, .int .i64 p, .int .i64 m, .int .i64 t, .int .i64 n, .int .i64 a1, .int .i64 b1, .int .i64 c1, .int .i64 d1, .int .i64 a2, .int .i64 b2, .int .i64 c2, .int .i64 d2, .slice A k c] 41))
  have HX0 := Lib.hid ((Cells.new w 41 #[.int .i64 g, .int .i64 p, .int .i64 m, .int .i64 t, .int .i64 n, .int .i64 a1, .int .i64 b1, .int .i64 c1, .int .i64 d1, .int .i64 a2, .int .i64 b2, .int .i64 c2, .int .i64 d2, .slice A k c]).below (below_al (w.alloc (.cells #[.int .i64 g, .int .i64 p, .int .i64 m, .int .i64 t, .int .i64 n, .int .i64 a1, .int .i64 b1, .int .i64 c1, .int .i64 d1, .int .i64 a2, .int .i64 b2, .int .i64 c2, .int .i64 d2, .slice A k c] 41)) (.cells #[.int .i64 g', .int .i64 p', .int .i64 m', .int .i64 t', .int .i64 n', .int .i64 a1', .int .i64 b1', .int .i64 c1', .int .i64 d1', .int .i64 a2', .int .i64 b2', .int .i64 c2', .int .i64 d2', .slice A' k' c'] 41)) (by simp))
  have HSX0 := Lib.hid ((Soft.new w 41 #[.int .i64 g, .int .i64 p, .int .i64 m, .int .i64 t, .int .i64 n, .int .i64 a1, .int .i64 b1, .int .i64 c1, .int .i64 d1, .int .i64 a2, .int .i64 b2, .int .i64 c2, .int .i64 d2, .slice A k c]).same ((below_al (w.alloc (.cells #[.int .i64 g, .int .i64 p, .int .i64 m, .int .i64 t, .int .i64 n, .int .i64 a1, .int .i64 b1, .int .i64 c1, .int .i64 d1, .int .i64 a2, .int .i64 b2, .int .i64 c2, .int .i64 d2, .slice A k c] 41)) (.cells #[.int .i64 g', .int .i64 p', .int .i64 m', .int .i64 t', .int .i64 n', .int .i64 a1', .int .i64 b1', .int .i64 c1', .int .i64 d1', .int .i64 a2', .int .i64 b2', .int .i64 c2', .int .i64 d2', .slice A' k' c'] 41)).block w.heap.size (by simp)))
  have hy0 := Cells.new (w.alloc (.cells #[.int .i64 g, .int .i64 p, .int .i64 m, .int .i64 t, .int .i64 n, .int .i64 a1, .int .i64 b1, .int .i64 c1, .int .i64 d1, .int .i64 a2, .int .i64 b2, .int .i64 c2, .int .i64 d2, .slice A k c] 41)) 41 #[.int .i64 g', .int .i64 p', .int .i64 m', .int .i64 t', .int .i64 n', .int .i64 a1', .int .i64 b1', .int .i64 c1', .int .i64 d1', .int .i64 a2', .int .i64 b2', .int .i64 c2', .int .i64 d2', .slice A' k' c']
  have hsy0 := Soft.new (w.alloc (.cells #[.int .i64 g, .int .i64 p, .int .i64 m, .int .i64 t, .int .i64 n, .int .i64 a1, .int .i64 b1, .int .i64 c1, .int .i64 d1, .int .i64 a2, .int .i64 b2, .int .i64 c2, .int .i64 d2, .slice A k c] 41)) 41 #[.int .i64 g', .int .i64 p', .int .i64 m', .int .i64 t', .int .i64 n', .int .i64 a1', .int .i64 b1', .int .i64 c1', .int .i64 d1', .int .i64 a2', .int .i64 b2', .int .i64 c2', .int .i64 d2', .slice A' k' c']
  rw [World.size_alloc] at hy0 hsy0
  have HY0 := Lib.hid hy0
  have HSY0 := Lib.hid hsy0
  have HB0 := Lib.hid (HBa.out.trans ((below_al (w.alloc (.cells #[.int .i64 g, .int .i64 p, .int .i64 m, .int .i64 t, .int .i64 n, .int .i64 a1, .int .i64 b1, .int .i64 c1, .int .i64 d1, .int .i64 a2, .int .i64 b2, .int .i64 c2, .int .i64 d2, .slice A k c] 41)) (.cells #[.int .i64 g', .int .i64 p', .int .i64 m', .int .i64 t', .int .i64 n', .int .i64 a1', .int .i64 b1', .int .i64 c1', .int .i64 d1', .int .i64 a2', .int .i64 b2', .int .i64 c2', .int .i64 d2', .slice A' k' c'] 41)).mono HBa.out.size))
  clear ht h0 hx hy hok hok' hgs hgs' hmk hmk' i1 i2 i3 i4 i5 i6 i7 i8 i1' i2' i3' i4' i5' i6' i7' i8' hy0 hsy0 HBa
  go_enter Tryd.func7, Tryd.ntmps7
  go_upto_region 1 with fail
  go_cut [] (fun wx => Cells wx w.heap.size [.int .i64 g, .int .i64 p, .int .i64 m, .int .i64 t, .int .i64 n, .int .i64 a1, .int .i64 b1, .int .i64 c1, .int .i64 d1, .int .i64 a2, .int .i64 b2, .int .i64 c2, .int .i64 d2, .slice A mk c] ∧ Cells wx (w.heap.size + 1) [.int .i64 g', .int .i64 p', .int .i64 m', .int .i64 t', .int .i64 n', .int .i64 a1', .int .i64 b1', .int .i64 c1', .int .i64 d1', .int .i64 a2', .int .i64 b2', .int .i64 c2', .int .i64 d2', .slice A' mk' c'] ∧ Below w.heap.size w wx)
  case first =>
    go_region_law (first
      | (go_simp; go_at_call 18; (with_reducible refine (SHa.out _).mono ?_); rintro e w1 ⟨rfl, hbel⟩; have HB1 : Hid (Below w.heap.size w w1) := (by first | exact (Below.drew HB0.out).trans (hbel.mono (Below.drew HB0.out).size) | exact HB0.out.trans (hbel.mono HB0.out.size)); have HX1 : Hid (Cells w1 w.heap.size [.int .i64 g, .int .i64 p, .int .i64 m, .int .i64 t, .int .i64 n, .int .i64 a1, .int .i64 b1, .int .i64 c1, .int .i64 d1, .int .i64 a2, .int .i64 b2, .int .i64 c2, .int .i64 d2, .slice A k c]) := (by first | exact Cells.below (w := ((w.alloc (.cells #[.int .i64 g, .int .i64 p, .int .i64 m, .int .i64 t, .int .i64 n, .int .i64 a1, .int .i64 b1, .int .i64 c1, .int .i64 d1, .int .i64 a2, .int .i64 b2, .int .i64 c2, .int .i64 d2, .slice A k c] 41)).alloc (.cells #[.int .i64 g', .int .i64 p', .int .i64 m', .int .i64 t', .int .i64 n', .int .i64 a1', .int .i64 b1', .int .i64 c1', .int .i64 d1', .int .i64 a2', .int .i64 b2', .int .i64 c2', .int .i64 d2', .slice A' k' c'] 41)).drew) HX0.out hbel (by simp; omega) | exact HX0.out.below hbel (by simp; omega)); have HY1 : Hid (Cells w1 (w.heap.size + 1) [.int .i64 g', .int .i64 p', .int .i64 m', .int .i64 t', .int .i64 n', .int .i64 a1', .int .i64 b1', .int .i64 c1', .int .i64 d1', .int .i64 a2', .int .i64 b2', .int .i64 c2', .int .i64 d2', .slice A' k' c']) := (by first | exact Cells.below (w := ((w.alloc (.cells #[.int .i64 g, .int .i64 p, .int .i64 m, .int .i64 t, .int .i64 n, .int .i64 a1, .int .i64 b1, .int .i64 c1, .int .i64 d1, .int .i64 a2, .int .i64 b2, .int .i64 c2, .int .i64 d2, .slice A k c] 41)).alloc (.cells #[.int .i64 g', .int .i64 p', .int .i64 m', .int .i64 t', .int .i64 n', .int .i64 a1', .int .i64 b1', .int .i64 c1', .int .i64 d1', .int .i64 a2', .int .i64 b2', .int .i64 c2', .int .i64 d2', .slice A' k' c'] 41)).drew) HY0.out hbel (by simp) | exact HY0.out.below hbel (by simp)); have HSX1 : Hid (Soft w1 w.heap.size) := HSX0.out.same (hbel.block w.heap.size (by simp; omega)); have HSY1 : Hid (Soft w1 (w.heap.size + 1)) := HSY0.out.same (hbel.block (w.heap.size + 1) (by simp)); have hs1 : w.heap.size + 1 < w1.heap.size := (by have := hbel.size; simp at this; omega); have r0 := HY1.out 0 _ rfl; have r1 := HY1.out 1 _ rfl; have r2 := HY1.out 2 _ rfl; have r3 := HY1.out 3 _ rfl; have r4 := HY1.out 4 _ rfl; have r5 := HY1.out 5 _ rfl; have r6 := HY1.out 6 _ rfl; have r7 := HY1.out 7 _ rfl; have r8 := HY1.out 8 _ rfl; have r9 := HY1.out 9 _ rfl; have r10 := HY1.out 10 _ rfl; have r11 := HY1.out 11 _ rfl; have r12 := HY1.out 12 _ rfl; have r13 := HY1.out 13 _ rfl; clear hbel)
      | (go_simp; go_at_call 18; (with_reducible refine (SHb.out _).mono ?_); rintro e w2 ⟨rfl, hbel⟩; have HB2 : Hid (Below w.heap.size w w2) := HB1.out.trans (hbel.mono HB1.out.size); have HX2 : Hid (Cells w2 w.heap.size [.int .i64 g, .int .i64 p, .int .i64 m, .int .i64 t, .int .i64 n, .int .i64 a1, .int .i64 b1, .int .i64 c1, .int .i64 d1, .int .i64 a2, .int .i64 b2, .int .i64 c2, .int .i64 d2, .slice A k c]) := HX1.out.below hbel (by omega); have HY2 : Hid (Cells w2 (w.heap.size + 1) [.int .i64 g', .int .i64 p', .int .i64 m', .int .i64 t', .int .i64 n', .int .i64 a1', .int .i64 b1', .int .i64 c1', .int .i64 d1', .int .i64 a2', .int .i64 b2', .int .i64 c2', .int .i64 d2', .slice A' k' c']) := HY1.out.below hbel hs1; have HSX2 : Hid (Soft w2 w.heap.size) := HSX1.out.same (hbel.block w.heap.size (by omega)); have HSY2 : Hid (Soft w2 (w.heap.size + 1)) := HSY1.out.same (hbel.block (w.heap.size + 1) hs1); have ll0 := HX2.out 0 _ rfl; have ll1 := HX2.out 1 _ rfl; have ll2 := HX2.out 2 _ rfl; have ll3 := HX2.out 3 _ rfl; have ll4 := HX2.out 4 _ rfl; have ll5 := HX2.out 5 _ rfl; have ll6 := HX2.out 6 _ rfl; have ll7 := HX2.out 7 _ rfl; have ll8 := HX2.out 8 _ rfl; have ll9 := HX2.out 9 _ rfl; have ll10 := HX2.out 10 _ rfl; have ll11 := HX2.out 11 _ rfl; have ll12 := HX2.out 12 _ rfl; have ll13 := HX2.out 13 _ rfl; have rr0 := HY2.out 0 _ rfl; have rr1 := HY2.out 1 _ rfl; have rr2 := HY2.out 2 _ rfl; have rr3 := HY2.out 3 _ rfl; have rr4 := HY2.out 4 _ rfl; have rr5 := HY2.out 5 _ rfl; have rr6 := HY2.out 6 _ rfl; have rr7 := HY2.out 7 _ rfl; have rr8 := HY2.out 8 _ rfl; have rr9 := HY2.out 9 _ rfl; have rr10 := HY2.out 10 _ rfl; have rr11 := HY2.out 11 _ rfl; have rr12 := HY2.out 12 _ rfl; have rr13 := HY2.out 13 _ rfl; have fl0 := HSX2.out 0; have fl1 := HSX2.out 1; have fl2 := HSX2.out 2; have fl3 := HSX2.out 3; have fl4 := HSX2.out 4; have fl5 := HSX2.out 5; have fl6 := HSX2.out 6; have fl7 := HSX2.out 7; have fl8 := HSX2.out 8; have fl9 := HSX2.out 9; have fl10 := HSX2.out 10; have fl11 := HSX2.out 11; have fl12 := HSX2.out 12; have fl13 := HSX2.out 13; have fr0 := HSY2.out 0; have fr1 := HSY2.out 1; have fr2 := HSY2.out 2; have fr3 := HSY2.out 3; have fr4 := HSY2.out 4; have fr5 := HSY2.out 5; have fr6 := HSY2.out 6; have fr7 := HSY2.out 7; have fr8 := HSY2.out 8; have fr9 := HSY2.out 9; have fr10 := HSY2.out 10; have fr11 := HSY2.out 11; have fr12 := HSY2.out 12; have fr13 := HSY2.out 13; clear hbel)
      | fail)
    all_goals
      go_wp2_with fail
      (try go_simp)
      go_meet
      exact two_set14 HB2.out (by omega) (by omega) (by omega) HX2.out HY2.out _ _ _ _ _ _ _ _ _ _ _ _ _ _ _ _ _ _ _ _ _ _ _ _ _ _ _ _
  case rest =>
    obtain ⟨hca, hcb, hbel⟩ := hcut
    have HXa := Lib.hid hca
    have HXb := Lib.hid hcb
    have HB3 := Lib.hid hbel
    clear hca hcb hbel HX0 HY0 HSX0 HSY0 HB0 SHa SHb
    obtain ⟨w3, hw3⟩ : ∃ x, x = wc := ⟨_, rfl⟩
    subst hw3
    obtain ⟨⟨la, ea⟩, hra⟩ : ∃ r, sencS ⟨g, p, m, t, n, ⟨a1, b1, c1, d1⟩, ⟨a2, b2, c2, d2⟩, gs⟩ sc = r := ⟨_, rfl⟩
    obtain ⟨⟨lb, eb⟩, hrb⟩ : ∃ r, sencS ⟨g', p', m', t', n', ⟨a1', b1', c1', d1'⟩, ⟨a2', b2', c2', d2'⟩, gs'⟩ sc = r := ⟨_, rfl⟩
    obtain ⟨eq, heq⟩ : ∃ eq, decide ((⟨g, p, m, t, n, ⟨a1, b1, c1, d1⟩, ⟨a2, b2, c2, d2⟩, gs⟩ : Su) = ⟨g', p', m', t', n', ⟨a1', b1', c1', d1'⟩, ⟨a2', b2', c2', d2'⟩, gs'⟩) = eq := ⟨_, rfl⟩
    have hc := senc_two _ _ _ _ _ _ _ hra hrb
    rw [heq] at hc
    have HC := Lib.hid hc
    have HRA := Lib.hid hra
    have HRB := Lib.hid hrb
    have HEQ := Lib.hid heq
    have AW := Lib.hid (fun (u : World) (hu : Below w.heap.size w u) => sAwake_any u (HT.out _ hu).1 (HT.out _ hu).2)
    have hsz : w.heap.size + 1 < w3.heap.size := HXb.out.lt
    clear hc hra hrb heq
    have x0 := HXa.out 0 _ rfl
    have x1 := HXa.out 1 _ rfl
    have x2 := HXa.out 2 _ rfl
    have x3 := HXa.out 3 _ rfl
    have x4 := HXa.out 4 _ rfl
    have x5 := HXa.out 5 _ rfl
    have x6 := HXa.out 6 _ rfl
    have x7 := HXa.out 7 _ rfl
    have x8 := HXa.out 8 _ rfl
    have x9 := HXa.out 9 _ rfl
    have x10 := HXa.out 10 _ rfl
    have x11 := HXa.out 11 _ rfl
    have x12 := HXa.out 12 _ rfl
    have x13 := HXa.out 13 _ rfl
    go_wp2_with fail
    refine (sencode_any g p m t n a1 b1 c1 d1 a2 b2 c2 d2 sc gs A mk c w.heap.size _ (HLa.out _ HB3.out) (by omega) (by omega) HB3.out.size HOa.out HI.out.1.1 HI.out.1.2.1 HI.out.1.2.2.1 HI.out.1.2.2.2 HI.out.2.1 HI.out.2.2.1 HI.out.2.2.2.1 HI.out.2.2.2.2 (HT.out _ HB3.out).1 (HT.out _ HB3.out).2 _ HRA.out).mono ?_
    rintro e w4 ⟨A4, c4, rfl, hown, hbel⟩
    simp only at hown ⊢
    have HO4 := Lib.hid hown
    have HB4 := Lib.hid (HB3.out.trans (hbel.mono HB3.out.size))
    have HXa4 := Lib.hid (HXa.out.below hbel (by omega))
    have HXb4 := Lib.hid (HXb.out.below hbel hsz)
    have hw4 : w.heap.size + 1 < w4.heap.size := Nat.lt_of_lt_of_le hsz hbel.size
    clear hown hbel x0 x1 x2 x3 x4 x5 x6 x7 x8 x9 x10 x11 x12 x13
    have y0 := HXb4.out 0 _ rfl
    have y1 := HXb4.out 1 _ rfl
    have y2 := HXb4.out 2 _ rfl
    have y3 := HXb4.out 3 _ rfl
    have y4 := HXb4.out 4 _ rfl
    have y5 := HXb4.out 5 _ rfl
    have y6 := HXb4.out 6 _ rfl
    have y7 := HXb4.out 7 _ rfl
    have y8 := HXb4.out 8 _ rfl
    have y9 := HXb4.out 9 _ rfl
    have y10 := HXb4.out 10 _ rfl
    have y11 := HXb4.out 11 _ rfl
    have y12 := HXb4.out 12 _ rfl
    have y13 := HXb4.out 13 _ rfl
    go_wp2_with fail
    refine (sencode_any g' p' m' t' n' a1' b1' c1' d1' a2' b2' c2' d2' sc gs' A' mk' c' w.heap.size _ (HLb.out _ HB4.out) (by omega) (by omega) HB4.out.size HOb.out HI'.out.1.1 HI'.out.1.2.1 HI'.out.1.2.2.1 HI'.out.1.2.2.2 HI'.out.2.1 HI'.out.2.2.1 HI'.out.2.2.2.1 HI'.out.2.2.2.2 (HT.out _ HB4.out).1 (HT.out _ HB4.out).2 _ HRB.out).mono ?_
    rintro e w5 ⟨A5, c5, rfl, hown, hbel⟩
    simp only at hown ⊢
    have HO5 := Lib.hid hown
    have HO4b := Lib.hid (HO4.out.keep hbel)
    have HB5 := Lib.hid (HB4.out.trans (hbel.mono HB4.out.size))
    have HXa5 := Lib.hid (HXa4.out.below hbel (by omega))
    have HXb5 := Lib.hid (HXb4.out.below hbel hw4)
    clear hown hbel y0 y1 y2 y3 y4 y5 y6 y7 y8 y9 y10 y11 y12 y13
    rcases HC.out with ((rfl | rfl) | ⟨rfl, (rfl | rfl)⟩) | ⟨rfl, rfl, h1, h2, hE⟩
    iterate 4
      · clear HC
        go_wp2_with fail
        refine (AW.out _ HB5.out).mono ?_
        rintro e w6 ⟨rfl, hbel⟩
        have HB6 := Lib.hid (HB5.out.trans (hbel.mono HB5.out.size))
        clear hbel
        go_wp2
        go_ret
        exact ⟨rfl, HB6.out⟩
    · clear HC
      have AWq := Lib.hid (fun (dd : Nat) (oo : Array Obj) => Calls.regrown_of (AW.out (grow (redrawn w5 dd) oo) (HB5.out.trans ((below_regrown w5 dd oo).mono HB5.out.size))))
      have BEq : Hid (∀ (dd : Nat) (oo : Array Obj), Calls Tryd.prog 14 #[.slice A4 la.length c4, .slice A5 lb.length c5] (grow (redrawn w5 dd) oo) fun e w'' => e = .returned (.bool eq) ∧ ∃ p : Regrown, w'' = grow (redrawn w5 p.d) p.os) := fun dd oo => Calls.regrown_of ((eq_any la lb A4 A5 _ _ c4 c5 _ _ (grow (redrawn w5 dd) oo) (HO4b.out.byt.below (below_regrown w5 dd oo)) (HO5.out.byt.below (below_regrown w5 dd oo)) (by omega) (by omega)).mono (by rintro e w'' ⟨rfl, q, rfl⟩; rw [hE]; exact ⟨rfl, ofDrewN (Below.refl _ _) q⟩))
      have hla := HLa.out _ HB5.out
      have hlb := HLb.out _ HB5.out
      have REq := Lib.hid (fun (dd : Nat) (oo : Array Obj) => Calls.regrown_of (refSEq_any g p m t n a1 b1 c1 d1 a2 b2 c2 d2 g' p' m' t' n' a1' b1' c1' d1' a2' b2' c2' d2' gs gs' A A' mk c mk' c' w.heap.size w.heap.size (grow (redrawn w5 dd) oo) (hla.below ((below_regrown w5 dd oo).mono HB5.out.size)) (hlb.below ((below_regrown w5 dd oo).mono HB5.out.size)) (by omega) (by omega) (Nat.le_trans HB5.out.size (below_regrown w5 dd oo).size) (Nat.le_trans HB5.out.size (below_regrown w5 dd oo).size) eq HEQ.out))
      have xa0 := fun dd oo => cell_regrown (HXa5.out 0 _ rfl) dd oo
      have xb0 := fun dd oo => cell_regrown (HXb5.out 0 _ rfl) dd oo
      have xa1 := fun dd oo => cell_regrown (HXa5.out 1 _ rfl) dd oo
      have xb1 := fun dd oo => cell_regrown (HXb5.out 1 _ rfl) dd oo
      have xa2 := fun dd oo => cell_regrown (HXa5.out 2 _ rfl) dd oo
      have xb2 := fun dd oo => cell_regrown (HXb5.out 2 _ rfl) dd oo
      have xa3 := fun dd oo => cell_regrown (HXa5.out 3 _ rfl) dd oo
      have xb3 := fun dd oo => cell_regrown (HXb5.out 3 _ rfl) dd oo
      have xa4 := fun dd oo => cell_regrown (HXa5.out 4 _ rfl) dd oo
      have xb4 := fun dd oo => cell_regrown (HXb5.out 4 _ rfl) dd oo
      have xa5 := fun dd oo => cell_regrown (HXa5.out 5 _ rfl) dd oo
      have xb5 := fun dd oo => cell_regrown (HXb5.out 5 _ rfl) dd oo
      have xa6 := fun dd oo => cell_regrown (HXa5.out 6 _ rfl) dd oo
      have xb6 := fun dd oo => cell_regrown (HXb5.out 6 _ rfl) dd oo
      have xa7 := fun dd oo => cell_regrown (HXa5.out 7 _ rfl) dd oo
      have xb7 := fun dd oo => cell_regrown (HXb5.out 7 _ rfl) dd oo
      have xa8 := fun dd oo => cell_regrown (HXa5.out 8 _ rfl) dd oo
      have xb8 := fun dd oo => cell_regrown (HXb5.out 8 _ rfl) dd oo
      have xa9 := fun dd oo => cell_regrown (HXa5.out 9 _ rfl) dd oo
      have xb9 := fun dd oo => cell_regrown (HXb5.out 9 _ rfl) dd oo
      have xa10 := fun dd oo => cell_regrown (HXa5.out 10 _ rfl) dd oo
      have xb10 := fun dd oo => cell_regrown (HXb5.out 10 _ rfl) dd oo
      have xa11 := fun dd oo => cell_regrown (HXa5.out 11 _ rfl) dd oo
      have xb11 := fun dd oo => cell_regrown (HXb5.out 11 _ rfl) dd oo
      have xa12 := fun dd oo => cell_regrown (HXa5.out 12 _ rfl) dd oo
      have xb12 := fun dd oo => cell_regrown (HXb5.out 12 _ rfl) dd oo
      have xa13 := fun dd oo => cell_regrown (HXa5.out 13 _ rfl) dd oo
      have xb13 := fun dd oo => cell_regrown (HXb5.out 13 _ rfl) dd oo
      clear hla hlb h1 h2 hE
      go_wp2_with fail
      refine wp_region_quiet_below (by kernel_rfl) (by kernel_rfl) ?_
      repeat (first | go_big_quiet_step ((first | (go_at_call 21; exact AWq.out _ _) | (go_at_call 14; (with_reducible exact BEq.out _ _)) | (go_at_call 24; (with_reducible exact REq.out _ _)))) | quiet_step ((first | (go_at_call 21; exact AWq.out _ _) | (go_at_call 14; (with_reducible exact BEq.out _ _)) | (go_at_call 24; (with_reducible exact REq.out _ _)))))
      refine wpQuiet_nil ?_
      intro w6 hw'
      have HBw6 := Lib.hid (below_of_regrown hw')
      clear hw'
      go_wp2_with fail
      go_ret
      exact ⟨by first | rfl | simp, HB5.out.trans (HBw6.out.mono HB5.out.size)⟩
end Go.Proofs.YthjnbdbbeidhgaaDoor
