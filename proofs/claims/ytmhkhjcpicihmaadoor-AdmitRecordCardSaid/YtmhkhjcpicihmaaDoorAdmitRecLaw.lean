/- AdmitRecord: the plain law. -/
import Derived.Test.YtmhkhjcpicihmaaDoorAdmitCheck
import Derived.Test.YtmhkhjcpicihmaaDoorRecord
namespace Go.Proofs.YtmhkhjcpicihmaaDoor

/-- The expiry that is set. -/
def wantS (now ttl : Int) : Int := if 0 < ttl then now + ttl else 0
/-- What Check returns is the first error of the record, or that it does not fit. -/
theorem check_rec (a b c d now ttl : Int) (nk nv : Nat) (hf : form a b c d = true) (h1 : 0 ≤ now) (h2 : now ≤ 549755813888) (h3 : 0 ≤ ttl) (hv : nv ≤ 2000) :
    let rc := rcheck b 1 (wantS now ttl) nk nv
    (¬ rc = 0 ∧ (checkS (form a b c d) (mostS b) (capS a b c d) now ttl nk nv) = (0, rc)) ∨
    (rc = 0 ∧ (c - 1) * 59 < 16 + nk + nv ∧ (checkS (form a b c d) (mostS b) (capS a b c d) now ttl nk nv) = (0, 8)) ∨
    (rc = 0 ∧ ¬ (c - 1) * 59 < 16 + nk + nv ∧ (checkS (form a b c d) (mostS b) (capS a b c d) now ttl nk nv) = (wantS now ttl, 0)) := by
  obtain ⟨hc, _, _, _, _, hb⟩ := capS_in hf
  intro rc
  have hrc : rc = rcheck b 1 (wantS now ttl) nk nv := rfl
  clear_value rc
  unfold rcheck at hrc
  rw [if_neg (by omega), if_neg (by omega)] at hrc
  unfold checkS
  rw [hf, if_neg (by decide), if_neg (by omega), hc]
  by_cases hk : nk = 0 ∨ 255 < nk
  · rw [if_pos ⟨by decide, hk⟩] at hrc
    subst hrc
    exact .inl ⟨by decide, by rw [if_pos hk]⟩
  rw [if_neg (by omega), if_neg (by omega)] at hrc
  rw [if_neg hk, if_neg (by omega)]
  have hm : mostS b = if b = 1 then 4294967295 else 1099511627775 := rfl
  by_cases he : ttl ≠ 0 ∧ mostS b - now < ttl
  · have hbad : wantS now ttl < 0 ∨ (b = 1 ∧ 4294967295 < wantS now ttl) ∨ (¬ b = 1 ∧ 1099511627775 < wantS now ttl) := by
      unfold wantS
      rw [if_pos (by omega)]
      rcases hb with rfl | rfl
      · simp at hm; omega
      · simp at hm; omega
    rw [if_pos hbad] at hrc
    subst hrc
    exact .inl ⟨by decide, by rw [if_pos he]⟩
  · have hgood : ¬ (wantS now ttl < 0 ∨ (b = 1 ∧ 4294967295 < wantS now ttl) ∨ (¬ b = 1 ∧ 1099511627775 < wantS now ttl)) := by
      unfold wantS
      split
      · rcases hb with rfl | rfl
        · simp at hm; omega
        · simp at hm; omega
      · omega
    rw [if_neg hgood] at hrc
    subst hrc
    right
    rw [if_neg he]
    by_cases hfit : (c - 1) * 59 < 16 + nk + nv
    · exact .inl ⟨rfl, hfit, by rw [if_pos hfit]⟩
    · refine .inr ⟨rfl, hfit, ?_⟩
      rw [if_neg hfit]
      unfold wantS
      by_cases ht : ttl = 0
      · rw [if_pos ht, if_neg (by omega)]
      · rw [if_neg ht, if_pos (by omega)]
end Go.Proofs.YtmhkhjcpicihmaaDoor
