/- Superblocks: the plain law. -/
import Derived.Test.YthjnbdbbeidhgaaDoorSupRet
import Derived.Test.YthjnbdbbeidhgaaDoorPlanLay
namespace Go.Proofs.YthjnbdbbeidhgaaDoor

def Ly.lb (l : Ly) : List UInt8 := lbytes l.a l.b l.c l.d
theorem Ly.lb_len (l : Ly) : l.lb.length = 7 := lbytes_len _ _ _ _
def Ly.lok (l : Ly) : Prop := LayOk l.a l.b l.c l.d
theorem Ly.lok_wf {l : Ly} (h : l.wf = true) : l.lok := .inl h
theorem Ly.lok_zero : Ly.lok ⟨0, 0, 0, 0⟩ := .inr ⟨rfl, rfl, rfl, rfl⟩
/-- What follows the number of the foreign layouts. -/
def stail (fs : List Ly) : List UInt8 := match fs with
  | [_, F] => F.lb
  | _ => []
def sbytes (s : Su) : List UInt8 :=
  be 5 s.g.toNat ++ ([UInt8.ofNat s.p.toNat] ++ (be 4 s.m.toNat ++ (be 6 s.t.toNat ++ (be 5 s.n.toNat ++ (s.T.lb ++ (s.H.lb ++ ([UInt8.ofNat s.fs.length] ++ stail s.fs)))))))
theorem stail_len (fs : List Ly) : (stail fs).length ≤ 7 := by
  unfold stail
  split
  · rw [Ly.lb_len]; omega
  · simp
theorem sbytes_len (s : Su) : (sbytes s).length ≤ 43 := by
  have := stail_len s.fs
  simp [sbytes, be_len, Ly.lb_len]
  omega

theorem svalid_cases {s : Su} (h : svalid s = true) : 1 ≤ s.g ∧ s.g ≤ 1099511627775 ∧ 0 ≤ s.m ∧ s.m ≤ 4294967295 ∧ 0 ≤ s.t ∧ s.t ≤ 281474976710655 ∧ 0 ≤ s.n ∧ s.n ≤ 549755813888 ∧ s.T.lok ∧ s.H.lok ∧
    ((s.p = 1 ∧ s.fs = []) ∨ (s.p = 2 ∧ s.fs = [s.H]) ∨ (s.p = 3 ∧ ∃ F : Ly, F.lok ∧ s.fs = [s.H, F])) := by
  unfold svalid at h
  rw [Bool.and_eq_true, decide_eq_true_eq] at h
  obtain ⟨⟨g1, g2, m1, m2, t1, t2, n1, n2, hT⟩, hp⟩ := h
  refine ⟨g1, g2, m1, m2, t1, t2, n1, n2, .inl hT, ?_⟩
  unfold phaseB at hp
  split at hp
  · rename_i e
    obtain ⟨hH, hf⟩ := of_decide_eq_true hp
    exact ⟨by rw [hH]; exact Ly.lok_zero, .inl ⟨e, hf⟩⟩
  · split at hp
    · rename_i e
      obtain ⟨_, hH, hf, _⟩ := of_decide_eq_true hp
      exact ⟨.inl hH, .inr (.inl ⟨e, hf⟩)⟩
    · split at hp
      · rename_i e
        rw [Bool.and_eq_true, decide_eq_true_eq] at hp
        obtain ⟨⟨_, hH⟩, hr⟩ := hp
        refine ⟨.inl hH, .inr (.inr ⟨e, ?_⟩)⟩
        unfold retB at hr
        split at hr
        · rename_i x F hfs
          rw [Bool.and_eq_true, Bool.and_eq_true, decide_eq_true_eq] at hr
          exact ⟨F, .inl hr.1.2, by rw [hfs, hr.1.1]⟩
        · cases hr
      · cases hp

/-- The seven bytes of a layout, as the code and as the reference reads them. -/
def lyRd (q : List UInt8) : Ly := ⟨num ((q.drop 0).take 4), num ((q.drop 4).take 1), lrs (num ((q.drop 0).take 4)) (num ((q.drop 5).take 1)), num ((q.drop 6).take 1)⟩
def lyRdR (q : List UInt8) : Ly := ⟨num ((q.drop 0).take 4), num ((q.drop 4).take 1), lrsR (num ((q.drop 0).take 4)) (num ((q.drop 4).take 1)) (num ((q.drop 6).take 1)) (num ((q.drop 5).take 1)), num ((q.drop 6).take 1)⟩
theorem ly_read {l : Ly} (h : l.lok) (z : List UInt8) : lyRd (l.lb ++ z) = l ∧ lyRdR (l.lb ++ z) = l := by
  obtain ⟨a, b, c, d⟩ := l
  have seg : ∀ (id ve g rg : Nat), id < 4294967296 → ve < 256 → g < 256 → rg < 256 → ∀ q, q = (be 4 id ++ [UInt8.ofNat ve, UInt8.ofNat g, UInt8.ofNat rg]) ++ z →
      num ((q.drop 0).take 4) = id ∧ num ((q.drop 4).take 1) = ve ∧ num ((q.drop 5).take 1) = g ∧ num ((q.drop 6).take 1) = rg := by
    rintro id ve g rg h1 h2 h3 h4 q rfl
    have e0 := cut_seg [] (be 4 id) ([UInt8.ofNat ve, UInt8.ofNat g, UInt8.ofNat rg] ++ z) 0 4 rfl (be_len _ _)
    have e1 := cut_seg (be 4 id) [UInt8.ofNat ve] ([UInt8.ofNat g, UInt8.ofNat rg] ++ z) 4 1 (be_len _ _) rfl
    have e2 := cut_seg (be 4 id ++ [UInt8.ofNat ve]) [UInt8.ofNat g] ([UInt8.ofNat rg] ++ z) 5 1 (by simp [be_len]) rfl
    have e3 := cut_seg (be 4 id ++ [UInt8.ofNat ve] ++ [UInt8.ofNat g]) [UInt8.ofNat rg] z 6 1 (by simp [be_len]) rfl
    simp only [List.append_assoc, List.nil_append, List.cons_append] at e0 e1 e2 e3 ⊢
    rw [e0, e1, e2, e3, num_be]
    refine ⟨Nat.mod_eq_of_lt h1, ?_, ?_, ?_⟩ <;> simp only [num, List.foldl_cons, List.foldl_nil, Nat.zero_mul, Nat.zero_add] <;> exact u8_of ‹_›
  rcases h with hf | ⟨h1, h2, h3, h4⟩
  · simp only at hf
    obtain ⟨n, n1, n2, hn, rfl⟩ := form_log hf
    obtain ⟨a1, a2, b12, _, _, _, d1, d2⟩ := form_true hf
    obtain ⟨s0, s1, s2, s3⟩ := seg a.toNat b.toNat n d.toNat (by omega) (by omega) (by omega) (by omega) _ rfl
    have hb : Ly.lb ⟨a, b, ((2 ^ n : Nat) : Int), d⟩ ++ z = (be 4 a.toNat ++ [UInt8.ofNat b.toNat, UInt8.ofNat n, UInt8.ofNat d.toNat]) ++ z := by
      simp only [Ly.lb, lbytes, hn, Int.toNat_natCast]
    rw [hb]
    unfold lyRd lyRdR
    simp only [s0, s1, s2, s3, lrs, lrsR]
    have g1 : 0 < a.toNat := by omega
    have g2 : ¬ ((a.toNat = 0 ∧ b.toNat = 0 ∧ d.toNat = 0) ∧ n = 0) := by omega
    have g3 : min n 30 = n := by omega
    have g4 : min n 12 = n := by omega
    rw [if_pos g1, if_neg g2, g3, g4]
    have ea : (a.toNat : Int) = a := by omega
    have eb : (b.toNat : Int) = b := by omega
    have ed : (d.toNat : Int) = d := by omega
    rw [ea, eb, ed]
    exact ⟨rfl, rfl⟩
  · simp only at h1 h2 h3 h4
    subst h1; subst h2; subst h3; subst h4
    obtain ⟨s0, s1, s2, s3⟩ := seg 0 0 0 0 (by omega) (by omega) (by omega) (by omega) _ rfl
    have hb : Ly.lb ⟨0, 0, 0, 0⟩ ++ z = (be 4 0 ++ [UInt8.ofNat 0, UInt8.ofNat 0, UInt8.ofNat 0]) ++ z := rfl
    rw [hb]
    unfold lyRd lyRdR
    simp only [s0, s1, s2, s3, lrs, lrsR]
    exact ⟨rfl, rfl⟩

/-- The foreign layouts, by their number. -/
def fsRd (H : Ly) (k : Nat) (q : List UInt8) : List Ly := if k = 1 then [H] else if k = 2 then [H, lyRd q] else []
def fsRdR (H : Ly) (k : Nat) (q : List UInt8) : List Ly := if k = 0 then [] else if k = 1 then [H] else [H, lyRdR q]
def sread (p : List UInt8) : Su :=
  ⟨num ((p.drop 0).take 5), num ((p.drop 5).take 1), num ((p.drop 6).take 4), num ((p.drop 10).take 6), num ((p.drop 16).take 5), lyRd (p.drop 21), lyRd (p.drop 28), fsRd (lyRd (p.drop 28)) (num ((p.drop 35).take 1)) (p.drop 36)⟩
def sreadR (p : List UInt8) : Su :=
  ⟨num ((p.drop 0).take 5), num ((p.drop 5).take 1), num ((p.drop 6).take 4), num ((p.drop 10).take 6), num ((p.drop 16).take 5), lyRdR (p.drop 21), lyRdR (p.drop 28), fsRdR (lyRdR (p.drop 28)) (num ((p.drop 35).take 1)) (p.drop 36)⟩

theorem drop_seg {a r p : List UInt8} {j k n : Nat} (h : p.drop j = a ++ r) (ha : a.length = n) (hk : j + n = k) : p.drop k = r ∧ (p.drop j).take n = a := by
  subst hk ha
  refine ⟨?_, by rw [h, List.take_left]⟩
  rw [← List.drop_drop, h, List.drop_left]
theorem num_one (b : UInt8) : num [b] = b.toNat := by simp [num]

theorem sread_bytes {s : Su} (hv : svalid s = true) (z : List UInt8) : sread (sbytes s ++ z) = s ∧ sreadR (sbytes s ++ z) = s := by
  obtain ⟨g1, g2, m1, m2, t1, t2, n1, n2, hT, hH, hc⟩ := svalid_cases hv
  obtain ⟨g, p, m, t, n, T, H, fs⟩ := s
  simp only at g1 g2 m1 m2 t1 t2 n1 n2 hT hH hc
  obtain ⟨q, hq⟩ : ∃ q, sbytes ⟨g, p, m, t, n, T, H, fs⟩ ++ z = q := ⟨_, rfl⟩
  have hq0 : q.drop 0 = be 5 g.toNat ++ ([UInt8.ofNat p.toNat] ++ (be 4 m.toNat ++ (be 6 t.toNat ++ (be 5 n.toNat ++ (T.lb ++ (H.lb ++ ([UInt8.ofNat fs.length] ++ (stail fs ++ z)))))))) := by
    rw [List.drop_zero, ← hq]
    simp only [sbytes, List.append_assoc]
  obtain ⟨d1, e0⟩ := drop_seg (k := 5) hq0 (be_len _ _) rfl
  obtain ⟨d2, e1⟩ := drop_seg (k := 6) d1 rfl rfl
  obtain ⟨d3, e2⟩ := drop_seg (k := 10) d2 (be_len _ _) rfl
  obtain ⟨d4, e3⟩ := drop_seg (k := 16) d3 (be_len _ _) rfl
  obtain ⟨d5, e4⟩ := drop_seg (k := 21) d4 (be_len _ _) rfl
  obtain ⟨d6, e5⟩ := drop_seg (k := 28) d5 (Ly.lb_len _) rfl
  obtain ⟨d7, e6⟩ := drop_seg (k := 35) d6 (Ly.lb_len _) rfl
  obtain ⟨d8, e7⟩ := drop_seg (k := 36) d7 rfl rfl
  rw [hq]
  unfold sread sreadR
  have e5' : (q.drop 5).take 1 = [UInt8.ofNat p.toNat] := e1
  have e7' : (q.drop 35).take 1 = [UInt8.ofNat fs.length] := e7
  rw [e0, e5', e2, e3, e4, e7', d5, d6, d8, num_be, num_be, num_be, num_be, num_one, num_one, (ly_read hT _).1, (ly_read hT _).2, (ly_read hH _).1, (ly_read hH _).2]
  have eg : ((g.toNat % 256 ^ 5 : Nat) : Int) = g := by rw [Nat.mod_eq_of_lt (by omega)]; omega
  have em : ((m.toNat % 256 ^ 4 : Nat) : Int) = m := by rw [Nat.mod_eq_of_lt (by omega)]; omega
  have et : ((t.toNat % 256 ^ 6 : Nat) : Int) = t := by rw [Nat.mod_eq_of_lt (by omega)]; omega
  have en : ((n.toNat % 256 ^ 5 : Nat) : Int) = n := by rw [Nat.mod_eq_of_lt (by omega)]; omega
  rw [eg, em, et, en]
  rcases hc with ⟨rfl, rfl⟩ | ⟨rfl, rfl⟩ | ⟨rfl, F, hF, rfl⟩
  · exact ⟨rfl, rfl⟩
  · exact ⟨rfl, rfl⟩
  · have e : stail [H, F] = F.lb := rfl
    rw [e]
    have hl : (UInt8.ofNat ([H, F] : List Ly).length).toNat = 2 := rfl
    rw [hl]
    unfold fsRd fsRdR
    rw [if_neg (by decide), if_pos rfl, if_neg (by decide), if_neg (by decide), (ly_read hF _).1, (ly_read hF _).2]
    exact ⟨rfl, rfl⟩

/-- What superblock.Encode returns. -/
def sencF (s : Su) (t : Int) : List UInt8 := frame 3 0 t.toNat (sbytes s)
theorem sbytes_le (s : Su) : (sbytes s).length ≤ 59 := Nat.le_trans (sbytes_len s) (by decide)
theorem sencF_len (s : Su) (t : Int) : (sencF s t).length = 64 := frame_len (sbytes_le s)
def sencS (s : Su) (t : Int) : List UInt8 × Int := if svalid s = true then encS 3 0 t (sbytes s) else ([], 4)
theorem sencS_bad {s : Su} {t : Int} (hv : svalid s = false) : sencS s t = ([], 4) := by unfold sencS; rw [hv]; rfl
theorem sencS_range {s : Su} {t : Int} (hv : svalid s = true) (hm : may 3 0 t = false) : sencS s t = ([], 2) := by unfold sencS encS; rw [if_pos hv, hm]; rfl
theorem sencS_ok {s : Su} {t : Int} (hv : svalid s = true) (hm : may 3 0 t = true) : sencS s t = (sencF s t, 0) := by unfold sencS encS; rw [if_pos hv, if_pos hm, if_pos (sbytes_le s)]; rfl

/-- What superblock.Decode returns, with one way to read. -/
def sdecW (rd : List UInt8 → Su) (t : Int) (b : List UInt8) : Option Su :=
  match dec 3 0 t b with
  | none => none
  | some p => if svalid (rd p) = true ∧ sencF (rd p) t = b then some (rd p) else none
theorem sdec_none {rd : List UInt8 → Su} {t : Int} {b : List UInt8} (h : dec 3 0 t b = none) : sdecW rd t b = none := by unfold sdecW; rw [h]
theorem sdec_some {rd : List UInt8 → Su} {t : Int} {b p : List UInt8} (h : dec 3 0 t b = some p) : sdecW rd t b = if svalid (rd p) = true ∧ sencF (rd p) t = b then some (rd p) else none := by unfold sdecW; rw [h]
theorem sdec_enc {s : Su} {t : Int} (hv : svalid s = true) (hm : may 3 0 t = true) : sdecW sread t (sencF s t) = some s := by
  have h1 := dec_frame (kind := 3) (salt := 0) (sector := t) (p := sbytes s) hm (sbytes_le s)
  have h2 : dec 3 0 t (sencF s t) = some (sbytes s ++ List.replicate (59 - (sbytes s).length) 0) := h1
  rw [sdec_some h2, (sread_bytes hv _).1, if_pos ⟨hv, rfl⟩]
/-- The two ways to read decode the same. -/
theorem sdec_two (t : Int) (b : List UInt8) : sdecW sreadR t b = sdecW sread t b := by
  cases hd : dec 3 0 t b with
  | none => rw [sdec_none hd, sdec_none hd]
  | some p =>
    obtain ⟨hm, _, _, _⟩ := dec_some hd
    have key : ∀ x, svalid x = true → sencF x t = b → sread p = x ∧ sreadR p = x := by
      intro x hv he
      have h1 := dec_frame (kind := 3) (salt := 0) (sector := t) (p := sbytes x) hm (sbytes_le x)
      have h2 : dec 3 0 t (sencF x t) = some (sbytes x ++ List.replicate (59 - (sbytes x).length) 0) := h1
      rw [he, hd] at h2
      injection h2 with h2
      rw [h2]
      exact sread_bytes hv _
    rw [sdec_some hd, sdec_some hd]
    by_cases h1 : svalid (sreadR p) = true ∧ sencF (sreadR p) t = b
    · have e := (key _ h1.1 h1.2).1
      rw [e]
    · rw [if_neg h1]
      by_cases h2 : svalid (sread p) = true ∧ sencF (sread p) t = b
      · have e := (key _ h2.1 h2.2).2
        rw [e] at h1
        exact absurd h2 h1
      · rw [if_neg h2]
/-- Two valid superblocks have the same bytes exactly if they are equal. -/
theorem senc_inj {s s' : Su} {t : Int} (hv : svalid s = true) (hv' : svalid s' = true) (hm : may 3 0 t = true) : sencF s t = sencF s' t ↔ s = s' := by
  constructor
  · intro h
    have h1 := sdec_enc hv hm
    rw [h, sdec_enc hv' hm] at h1
    exact (Option.some.inj h1).symm
  · rintro rfl; rfl
end Go.Proofs.YthjnbdbbeidhgaaDoor
