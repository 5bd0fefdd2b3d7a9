/- Two packers with the same records, and the rows of what was taken from the first. -/
import Derived.Test.YthgpmnblkhehkaaDoorPackCmp
import Derived.Test.YthgpmnblkhehkaaDoorKeep
namespace Go.Proofs.YthgpmnblkhehkaaDoor
open Go.RowKit

/-- Two rows that are not the same block. -/
def Diff (r r' : Option Nat) : Prop := ∀ g, r = some g → ¬ r' = some g
theorem Diff.symm {r r' : Option Nat} (h : Diff r r') : Diff r' r := fun g e e' => h g e' e
theorem Diff.none_left (r : Option Nat) : Diff none r := fun g e => by cases e
theorem Diff.born {w : World} {r r' r1 : Option Nat} (h : Diff r r') (hb : Born w r r1) (hlt : ∀ g, r' = some g → g < w.heap.size) : Diff r1 r' := fun g e e' => by
  rcases hb with hb | hb
  · rw [hb] at e; exact h g e e'
  · have := hb g e; have := hlt g e'; omega
theorem Pk.far {w w' : World} {q p : Nat} {a b c d f s tk : Int} {A : Option Addr} {n cap : Nat} {bs : List UInt8} {r : Option Nat} (h : Pk w q a b c d f s A n cap tk bs) (hf : Far w w' p r) (hq : q ≠ p) (hqr : ¬ r = some q)
    (hp : ∀ g, (Value.slice A n cap).ownBlock = some g → g ≠ p) (hd : Diff r (Value.slice A n cap).ownBlock) : Pk w' q a b c d f s A n cap tk bs :=
  have hb := hf.block q h.cells.lt hq (fun e => hqr e.symm)
  ⟨h.cells.same hb, h.soft.same hb, h.own.same fun g e => hf.block g (h.own.lt e) (hp g e) (fun e' => hd g e'.symm e)⟩
theorem framS_cong {f s : Int} {bs bs' : List UInt8} {k : Nat} (h : bs'.take (k * 59) = bs.take (k * 59)) : framS f s bs' 0 k = framS f s bs 0 k := by
  unfold framS
  refine List.map_congr_left fun j hj => ?_
  have hjk : j < k := List.mem_range.1 hj
  have hc : chunk bs' (0 + j) = chunk bs (0 + j) := by
    have e : ∀ l : List UInt8, chunk l (0 + j) = ((l.take (k * 59)).drop ((0 + j) * 59)).take 59 := by
      intro l
      unfold chunk
      rw [List.drop_take, List.take_take]
      congr 1
      have : (j + 1) * 59 ≤ k * 59 := Nat.mul_le_mul_right _ hjk
      omega
    rw [e, e, h]
  rw [hc]
theorem framS_app {f s : Int} {bs x : List UInt8} {k : Nat} (h : k * 59 ≤ bs.length) : framS f s (bs ++ x) 0 k = framS f s bs 0 k :=
  framS_cong (by rw [List.take_append_of_le_length h])
theorem framS_join (f s : Int) (bs : List UInt8) (t k : Nat) : framS f s bs 0 t ++ framS f s bs t k = framS f s bs 0 (t + k) := by
  unfold framS
  rw [List.range_add, List.map_append, List.map_map]
  simp [Function.comp_def]
theorem sectS_join (f : Int) (t k : Nat) : ints (sectS f 0 t) ++ ints (sectS f t k) = ints (sectS f 0 (t + k)) := by
  unfold ints sectS
  rw [← List.map_append, List.range_add, List.map_append, List.map_map]
  simp [Function.comp_def]
theorem FrsAt.join {w : World} {L : Nat → Prop} {vs us : List Value} {F G : List (List UInt8)} (h : FrsAt w L vs F) (h2 : FrsAt w L us G) : FrsAt w L (vs ++ us) (F ++ G) := by
  refine ⟨by simp [h.1, h2.1], fun j v b hv hF => ?_⟩
  rw [List.getElem?_append] at hv hF
  rw [← h.1] at hF
  by_cases hj : j < vs.length
  · rw [if_pos hj] at hv hF
    exact h.2 j v b hv hF
  · rw [if_neg hj] at hv hF
    exact h2.2 _ v b hv hF

/-- The rows that are alive. -/
def Live (B : Nat) (rA rA' r2 r3 : Option Nat) (g : Nat) : Prop := g < B ∨ some g = rA ∨ some g = rA' ∨ some g = r2 ∨ some g = r3

/-- Two packers and the rows of the first, in a loop that began in w7. -/
structure Ts (w7 wr : World) (p q : Nat) (a b c d f s : Int) (A : Option Addr) (n cap : Nat) (bs : List UInt8) (A' : Option Addr) (n' cap' : Nat) (bs' : List UInt8) (t : Nat) (A2 : Option Addr) (c2 : Nat) (A3 : Option Addr) (c3 : Nat) (vs : List Value) : Prop where
  pkp : Pk wr p a b c d f s A n cap (t : Int) bs
  pkq : Pk wr q a b c d f s A' n' cap' 0 bs'
  keep : Keep w7 wr (fun k => k = p ∨ k = q)
  ne : p ≠ q ∧ p < w7.heap.size ∧ q < w7.heap.size
  hiA : ∀ g, (Value.slice A n cap).ownBlock = some g → w7.heap.size ≤ g
  hiA' : ∀ g, (Value.slice A' n' cap').ownBlock = some g → w7.heap.size ≤ g
  sec : Vec wr w7.heap.size 3 (.slice A2 t c2) t (ints (sectS f 0 t))
  fra : Vec wr w7.heap.size 34 (.slice A3 t c3) t vs
  frs : FrsAt wr (Live w7.heap.size (Value.slice A n cap).ownBlock (Value.slice A' n' cap').ownBlock (Value.slice A2 t c2).ownBlock (Value.slice A3 t c3).ownBlock) vs (framS f s bs 0 t)
  d1 : Diff (Value.slice A n cap).ownBlock (Value.slice A' n' cap').ownBlock
  d2 : Diff (Value.slice A n cap).ownBlock (Value.slice A2 t c2).ownBlock
  d3 : Diff (Value.slice A n cap).ownBlock (Value.slice A3 t c3).ownBlock
  d4 : Diff (Value.slice A' n' cap').ownBlock (Value.slice A2 t c2).ownBlock
  d5 : Diff (Value.slice A' n' cap').ownBlock (Value.slice A3 t c3).ownBlock
  d6 : Diff (Value.slice A2 t c2).ownBlock (Value.slice A3 t c3).ownBlock
  le : t * 59 ≤ n
section
variable {w7 wr w' w'' w3 : World} {p q : Nat} {a b c d f s : Int} {A A1 A' : Option Addr} {n n1 n' cap cap1 cap' t k : Nat} {bs bs1 bs' : List UInt8} {A2 A3 A5 A6 A7 A8 : Option Addr} {c2 c3 c5 c6 c7 c8 : Nat} {vs us : List Value}
theorem Ts.later (h : Ts w7 wr p q a b c d f s A n cap bs A' n' cap' bs' t A2 c2 A3 c3 vs) (hb : Below wr.heap.size wr w') : Ts w7 w' p q a b c d f s A n cap bs A' n' cap' bs' t A2 c2 A3 c3 vs :=
  ⟨h.pkp.below hb, h.pkq.below hb, h.keep.later hb, h.ne, h.hiA, h.hiA', h.sec.keep hb, h.fra.keep hb, h.frs.keep hb.size (fun k hk _ => hb.block k hk) (fun _ _ h => h), h.d1, h.d2, h.d3, h.d4, h.d5, h.d6, h.le⟩
/-- A call that may have grown the first packer's stream. -/
theorem Ts.putp (h : Ts w7 wr p q a b c d f s A n cap bs A' n' cap' bs' t A2 c2 A3 c3 vs) (hpk : Pk w' p a b c d f s A1 n1 cap1 (t : Int) bs1) (hf : Far wr w' p (Value.slice A n cap).ownBlock)
    (hb : Born wr (Value.slice A n cap).ownBlock (Value.slice A1 n1 cap1).ownBlock) (hn : n ≤ n1) (hbs : framS f s bs1 0 t = framS f s bs 0 t) : Ts w7 w' p q a b c d f s A1 n1 cap1 bs1 A' n' cap' bs' t A2 c2 A3 c3 vs := by
  obtain ⟨h1, h2, h3⟩ := h.ne
  refine ⟨hpk, h.pkq.far hf (fun e => h1 e.symm) (fun e => by have := h.hiA _ e; omega) (fun g e e' => by have := h.hiA' _ e; omega) h.d1, h.keep.far hf (.inl (.inl rfl)) (fun g e => .inr (h.hiA g e)), h.ne, ?_, h.hiA', ?_, ?_, ?_, ?_, ?_, ?_, h.d4, h.d5, h.d6, Nat.le_trans h.le hn⟩
  · intro g e
    rcases hb with hb | hb
    · rw [hb] at e; exact h.hiA g e
    · exact Nat.le_trans h.keep.size (hb g e)
  · exact h.sec.same fun g e => hf.block g (h.sec.lt e) (fun e' => by have := h.sec.ge e; omega) (fun e' => h.d2 g e'.symm e)
  · exact h.fra.same fun g e => hf.block g (h.fra.lt e) (fun e' => by have := h.fra.ge e; omega) (fun e' => h.d3 g e'.symm e)
  · rw [hbs]
    refine h.frs.keep hf.size (fun k hk hn => hf.block k hk (fun e => hn (.inl (by omega))) (fun e => hn (.inr (.inl e)))) (fun k hk hl => ?_)
    rcases hl with hl | hl | hl | hl | hl
    · exact .inl hl
    · rcases hb with hb | hb
      · rw [hb] at hl; exact .inr (.inl hl)
      · have := hb k hl.symm; omega
    · exact .inr (.inr (.inl hl))
    · exact .inr (.inr (.inr (.inl hl)))
    · exact .inr (.inr (.inr (.inr hl)))
  · exact h.d1.born hb (fun g e => h.pkq.own.lt e)
  · exact h.d2.born hb (fun g e => h.sec.lt e)
  · exact h.d3.born hb (fun g e => h.fra.lt e)
/-- A call that may have grown the second packer's stream. -/
theorem Ts.putq (h : Ts w7 wr p q a b c d f s A n cap bs A' n' cap' bs' t A2 c2 A3 c3 vs) (hpk : Pk w' q a b c d f s A1 n1 cap1 0 bs1) (hf : Far wr w' q (Value.slice A' n' cap').ownBlock)
    (hb : Born wr (Value.slice A' n' cap').ownBlock (Value.slice A1 n1 cap1).ownBlock) : Ts w7 w' p q a b c d f s A n cap bs A1 n1 cap1 bs1 t A2 c2 A3 c3 vs := by
  obtain ⟨h1, h2, h3⟩ := h.ne
  refine ⟨h.pkp.far hf h1 (fun e => by have := h.hiA' _ e; omega) (fun g e e' => by have := h.hiA _ e; omega) h.d1.symm, hpk, h.keep.far hf (.inl (.inr rfl)) (fun g e => .inr (h.hiA' g e)), h.ne, h.hiA, ?_, ?_, ?_, ?_, ?_, h.d2, h.d3, ?_, ?_, h.d6, h.le⟩
  · intro g e
    rcases hb with hb | hb
    · rw [hb] at e; exact h.hiA' g e
    · exact Nat.le_trans h.keep.size (hb g e)
  · exact h.sec.same fun g e => hf.block g (h.sec.lt e) (fun e' => by have := h.sec.ge e; omega) (fun e' => h.d4 g e'.symm e)
  · exact h.fra.same fun g e => hf.block g (h.fra.lt e) (fun e' => by have := h.fra.ge e; omega) (fun e' => h.d5 g e'.symm e)
  · refine h.frs.keep hf.size (fun k hk hn => hf.block k hk (fun e => hn (.inl (by omega))) (fun e => hn (.inr (.inr (.inl e))))) (fun k hk hl => ?_)
    rcases hl with hl | hl | hl | hl | hl
    · exact .inl hl
    · exact .inr (.inl hl)
    · rcases hb with hb | hb
      · rw [hb] at hl; exact .inr (.inr (.inl hl))
      · have := hb k hl.symm; omega
    · exact .inr (.inr (.inr (.inl hl)))
    · exact .inr (.inr (.inr (.inr hl)))
  · exact (h.d1.symm.born hb (fun g e => h.pkp.own.lt e)).symm
  · exact h.d4.born hb (fun g e => h.sec.lt e)
  · exact h.d5.born hb (fun g e => h.fra.lt e)
/-- Behind Take of the first packer: the rows that are appended. -/
theorem Ts.row1 (h : Ts w7 wr p q a b c d f s A n cap bs A' n' cap' bs' t A2 c2 A3 c3 vs) (htk : Tk wr w' p a b c d f s A n cap t bs k A5 c5 A6 c6 us) :
    Vec w' w7.heap.size 3 (.slice A2 t c2) t (ints (sectS f 0 t)) ∧ Vat w' w'.heap.size A5 k (ints (sectS f t k)) ∧ w7.heap.size ≤ w'.heap.size :=
  ⟨h.sec.same fun g e => htk.far.block g (h.sec.lt e) (fun e' => by have := h.sec.ge e; have := h.ne.2.1; omega) (fun e' => by cases e'), htk.sec.vat, Nat.le_trans h.keep.size htk.far.size⟩
theorem Ts.row2 (h : Ts w7 wr p q a b c d f s A n cap bs A' n' cap' bs' t A2 c2 A3 c3 vs) (htk : Tk wr w' p a b c d f s A n cap t bs k A5 c5 A6 c6 us) (hg : w'.grownBy w'' (Value.slice A2 t c2).ownBlock) :
    Vec w'' w7.heap.size 34 (.slice A3 t c3) t vs ∧ Vat w'' w''.heap.size A6 k us ∧ w7.heap.size ≤ w''.heap.size ∧ (∀ u ∈ us, u.oneCell' = true) := by
  refine ⟨?_, ?_, Nat.le_trans (Nat.le_trans h.keep.size htk.far.size) hg.size, ?_⟩
  · refine (h.fra.same (w' := w') fun g e => htk.far.block g (h.fra.lt e) (fun e' => by have := h.fra.ge e; have := h.ne.2.1; omega) (fun e' => by cases e')).same fun g e => ?_
    exact hg.block g (Nat.lt_of_lt_of_le (h.fra.lt e) htk.far.size) (fun e' => h.d6 g e'.symm e)
  · exact (htk.fra.same (w' := w'') fun g e => hg.block g (htk.fra.lt e) (fun e' => by have := htk.fra.ge e; have := h.sec.lt e'.symm; omega)).vat
  · intro u hu
    obtain ⟨j, hj⟩ := List.getElem?_of_mem hu
    have hl : j < (framS f s bs t k).length := by
      rw [← htk.frs.1]
      exact (List.getElem?_eq_some_iff.1 hj).1
    obtain ⟨g, c', e, _⟩ := htk.frs.2 j u _ hj (List.getElem?_eq_getElem hl)
    rw [e]
    rfl
theorem Ts.taken (h : Ts w7 wr p q a b c d f s A n cap bs A' n' cap' bs' t A2 c2 A3 c3 vs) (htk : Tk wr w' p a b c d f s A n cap t bs k A5 c5 A6 c6 us)
    (hv : Vec w'' w7.heap.size 3 (.slice A7 (t + k) c7) (t + k) (ints (sectS f 0 t) ++ ints (sectS f t k))) (hg : w'.grownBy w'' (Value.slice A2 t c2).ownBlock)
    (ha : (Value.slice A7 (t + k) c7).ownBlock = (Value.slice A2 t c2).ownBlock ∨ (Value.slice A7 (t + k) c7).ownBlock = some w'.heap.size)
    (hv2 : Vec w3 w7.heap.size 34 (.slice A8 (t + k) c8) (t + k) (vs ++ us)) (hg2 : w''.grownBy w3 (Value.slice A3 t c3).ownBlock)
    (ha2 : (Value.slice A8 (t + k) c8).ownBlock = (Value.slice A3 t c3).ownBlock ∨ (Value.slice A8 (t + k) c8).ownBlock = some w''.heap.size) (hle : (t + k) * 59 ≤ n) :
    Ts w7 w3 p q a b c d f s A n cap bs A' n' cap' bs' (t + k) A7 c7 A8 c8 (vs ++ us) := by
  obtain ⟨h1, h2, h3⟩ := h.ne
  have s1 := htk.far.size
  have s2 := hg.size
  have s3 := hg2.size
  have sk := h.keep.size
  have lA : ∀ g, (Value.slice A n cap).ownBlock = some g → g < wr.heap.size := fun g e => h.pkp.own.lt e
  have lA' : ∀ g, (Value.slice A' n' cap').ownBlock = some g → g < wr.heap.size := fun g e => h.pkq.own.lt e
  have l2 : ∀ g, (Value.slice A2 t c2).ownBlock = some g → g < wr.heap.size := fun g e => h.sec.lt e
  have l3 : ∀ g, (Value.slice A3 t c3).ownBlock = some g → g < wr.heap.size := fun g e => h.fra.lt e
  have b7 : Born w' (Value.slice A2 t c2).ownBlock (Value.slice A7 (t + k) c7).ownBlock := by
    rcases ha with ha | ha
    · exact .inl ha
    · right; intro g e; rw [ha] at e; injection e with e; omega
  have b8 : Born w'' (Value.slice A3 t c3).ownBlock (Value.slice A8 (t + k) c8).ownBlock := by
    rcases ha2 with ha | ha
    · exact .inl ha
    · right; intro g e; rw [ha] at e; injection e with e; omega
  have pk1 := htk.pk
  have pkq1 : Pk w' q a b c d f s A' n' cap' 0 bs' := h.pkq.far htk.far (fun e => h1 e.symm) (fun e => by cases e) (fun g e e' => by have := h.hiA' _ e; omega) (Diff.none_left _)
  have pk2 : Pk w'' p a b c d f s A n cap ((t + k : Nat) : Int) bs := pk1.grown hg (fun e => by have := h.sec.ge e; omega) (fun g e e' => h.d2 g e e')
  have pkq2 : Pk w'' q a b c d f s A' n' cap' 0 bs' := pkq1.grown hg (fun e => by have := h.sec.ge e; omega) (fun g e e' => h.d4 g e e')
  have pk3 : Pk w3 p a b c d f s A n cap ((t + k : Nat) : Int) bs := pk2.grown hg2 (fun e => by have := h.fra.ge e; omega) (fun g e e' => h.d3 g e e')
  have pkq3 : Pk w3 q a b c d f s A' n' cap' 0 bs' := pkq2.grown hg2 (fun e => by have := h.fra.ge e; omega) (fun g e e' => h.d5 g e e')
  have lt7 : ∀ g, (Value.slice A7 (t + k) c7).ownBlock = some g → g < w''.heap.size := fun g e => hv.lt e
  have d27 : Diff (Value.slice A n cap).ownBlock (Value.slice A7 (t + k) c7).ownBlock := (h.d2.symm.born b7 (fun g e => Nat.lt_of_lt_of_le (lA g e) s1)).symm
  have d47 : Diff (Value.slice A' n' cap').ownBlock (Value.slice A7 (t + k) c7).ownBlock := (h.d4.symm.born b7 (fun g e => Nat.lt_of_lt_of_le (lA' g e) s1)).symm
  have d37 : Diff (Value.slice A7 (t + k) c7).ownBlock (Value.slice A3 t c3).ownBlock := h.d6.born b7 (fun g e => Nat.lt_of_lt_of_le (l3 g e) s1)
  have d38 : Diff (Value.slice A n cap).ownBlock (Value.slice A8 (t + k) c8).ownBlock := (h.d3.symm.born b8 (fun g e => by have := lA g e; omega)).symm
  have d58 : Diff (Value.slice A' n' cap').ownBlock (Value.slice A8 (t + k) c8).ownBlock := (h.d5.symm.born b8 (fun g e => by have := lA' g e; omega)).symm
  have d78 : Diff (Value.slice A7 (t + k) c7).ownBlock (Value.slice A8 (t + k) c8).ownBlock := (d37.symm.born b8 (fun g e => lt7 g e)).symm
  have cases7 : ∀ g, some g = (Value.slice A7 (t + k) c7).ownBlock → g < w'.heap.size → some g = (Value.slice A2 t c2).ownBlock := fun g e hlt => by
    rcases ha with ha | ha
    · rw [ha] at e; exact e
    · rw [ha] at e; injection e with e; omega
  have cases8 : ∀ g, some g = (Value.slice A8 (t + k) c8).ownBlock → g < w''.heap.size → some g = (Value.slice A3 t c3).ownBlock := fun g e hlt => by
    rcases ha2 with ha | ha
    · rw [ha] at e; exact e
    · rw [ha] at e; injection e with e; omega
  have fold : FrsAt w3 (Live w7.heap.size (Value.slice A n cap).ownBlock (Value.slice A' n' cap').ownBlock (Value.slice A7 (t + k) c7).ownBlock (Value.slice A8 (t + k) c8).ownBlock) vs (framS f s bs 0 t) := by
    have f1 := h.frs.keep (w' := w') (L' := Live w7.heap.size (Value.slice A n cap).ownBlock (Value.slice A' n' cap').ownBlock (Value.slice A2 t c2).ownBlock (Value.slice A3 t c3).ownBlock) s1 (fun k hk hn => htk.far.block k hk (fun e => hn (.inl (by omega))) (fun e => by cases e)) (fun _ _ h => h)
    have f2 := f1.keep (w' := w'') (L' := Live w7.heap.size (Value.slice A n cap).ownBlock (Value.slice A' n' cap').ownBlock (Value.slice A7 (t + k) c7).ownBlock (Value.slice A3 t c3).ownBlock) s2 (fun k hk hn => hg.block k hk (fun e => hn (.inr (.inr (.inr (.inl e)))))) (fun k hk hl => by
      rcases hl with hl | hl | hl | hl | hl
      · exact .inl hl
      · exact .inr (.inl hl)
      · exact .inr (.inr (.inl hl))
      · exact .inr (.inr (.inr (.inl (cases7 k hl hk))))
      · exact .inr (.inr (.inr (.inr hl))))
    exact f2.keep s3 (fun k hk hn => hg2.block k hk (fun e => hn (.inr (.inr (.inr (.inr e)))))) (fun k hk hl => by
      rcases hl with hl | hl | hl | hl | hl
      · exact .inl hl
      · exact .inr (.inl hl)
      · exact .inr (.inr (.inl hl))
      · exact .inr (.inr (.inr (.inl hl)))
      · exact .inr (.inr (.inr (.inr (cases8 k hl hk)))))
  have fnew : FrsAt w3 (Live w7.heap.size (Value.slice A n cap).ownBlock (Value.slice A' n' cap').ownBlock (Value.slice A7 (t + k) c7).ownBlock (Value.slice A8 (t + k) c8).ownBlock) us (framS f s bs t k) := by
    have f1 := htk.frs.keep (w' := w'') (L' := fun g => g < wr.heap.size ∨ some g = (Value.slice A7 (t + k) c7).ownBlock) s2 (fun k hk hn => hg.block k hk (fun e => hn (.inl (l2 k e.symm)))) (fun k hk hl => by
      rcases hl with hl | hl
      · exact .inl hl
      · exact .inl (l2 k (cases7 k hl hk).symm))
    exact f1.keep s3 (fun k hk hn => hg2.block k hk (fun e => hn (.inl (l3 k e.symm)))) (fun k hk hl => by
      rcases hl with hl | hl | hl | hl | hl
      · exact .inl (by omega)
      · exact .inl (lA k hl.symm)
      · exact .inl (lA' k hl.symm)
      · exact .inr hl
      · exact .inl (l3 k (cases8 k hl hk).symm))
  refine ⟨pk3, pkq3, ((h.keep.far htk.far (.inl (.inl rfl)) (fun g e => by cases e)).row hg (fun g e => .inr (h.sec.ge e))).row hg2 (fun g e => .inr (h.fra.ge e)), h.ne, h.hiA, h.hiA', ?_, hv2, ?_, h.d1, d27, d38, d47, d58, d78, hle⟩
  · rw [← sectS_join]
    exact hv.same fun g e => hg2.block g (hv.lt e) (fun e' => d37 g e e'.symm)
  · rw [← framS_join]
    exact fold.join fnew
/-- Behind Take of the second packer: the first one's rows still stand. -/
theorem Ts.takeq (h : Ts w7 wr p q a b c d f s A n cap bs A' n' cap' bs' t A2 c2 A3 c3 vs) (htk : Tk wr w' q a b c d f s A' n' cap' 0 bs' k A5 c5 A6 c6 us) :
    Vat w' w'.heap.size A2 t (ints (sectS f 0 t)) ∧ Vat w' w'.heap.size A5 k (ints (sectS f 0 k)) ∧ Vat w' w'.heap.size A3 t vs ∧ Vat w' w'.heap.size A6 k us ∧ Elems w' vs (framS f s bs 0 t) ∧ Elems w' us (framS f s bs' 0 k) ∧ Keep w7 w' (fun k => k = p ∨ k = q) := by
  obtain ⟨h1, h2, h3⟩ := h.ne
  refine ⟨?_, htk.sec.vat, ?_, htk.fra.vat, ?_, htk.frs.elems, h.keep.far htk.far (.inl (.inr rfl)) (fun g e => by cases e)⟩
  · exact Vec.vat (h.sec.same fun g e => htk.far.block g (h.sec.lt e) (fun e' => by have := h.sec.ge e; omega) (fun e' => by cases e'))
  · exact Vec.vat (h.fra.same fun g e => htk.far.block g (h.fra.lt e) (fun e' => by have := h.fra.ge e; omega) (fun e' => by cases e'))
  · exact (h.frs.keep (w' := w') (L' := Live w7.heap.size (Value.slice A n cap).ownBlock (Value.slice A' n' cap').ownBlock (Value.slice A2 t c2).ownBlock (Value.slice A3 t c3).ownBlock) htk.far.size (fun k hk hn => htk.far.block k hk (fun e => hn (.inl (by omega))) (fun e => by cases e)) (fun _ _ h => h)).elems
end
end Go.Proofs.YthgpmnblkhehkaaDoor
