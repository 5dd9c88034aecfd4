/-
  rle.runs: what is so of the runs of the first k cells of a right pattern. Plain.
-/
import Derived.Test.YtekmldneinnmoaaDoorRunsW
namespace Go.Proofs.YtekmldneinnmoaaDoor
open Go.RowKit
set_option linter.unusedVariables false

theorem chain_at : ∀ {ps : List Cel} {p : Option Cel}, chainB p ps = true → ∀ k, (h : k + 1 < ps.length) → befB ps[k] ps[k + 1] = true
  | [], _, _, k, h => by simp at h
  | [a], _, _, k, h => by simp at h
  | a :: b :: l, p, hc, k, h => by
    rw [chainB, Bool.and_eq_true] at hc
    cases k with
    | zero =>
      have h2 := hc.2
      rw [chainB, Bool.and_eq_true] at h2
      have h3 := h2.1
      unfold okB at h3
      simp only [Bool.and_eq_true] at h3
      exact h3.2
    | succ k => exact chain_at (ps := b :: l) hc.2 k (by simpa using h)
theorem bef_y {a b : Cel} (h : befB a b = true) : a.y ≤ b.y ∧ (a.y = b.y → a.x < b.x) := by
  unfold befB at h
  simp only [Bool.or_eq_true, Bool.and_eq_true, decide_eq_true_eq, beq_iff_eq] at h
  omega
theorem box_hd {ps : List Cel} (h : (boxC ps).2 = true) : (boxC ps).1.y = (hdC ps).y := by
  unfold boxC at *
  split at h
  · rename_i hc; rw [if_pos hc]
  · cases h
/-- the runs of k cells, k > 0: the last cell is a -/
def LastIs (t : RS) (a : Cel) : Prop := t.x = a.x + 1 ∧ t.y = a.y ∧ ∃ m, t.out.getLast? = some (m, a.s)
theorem LastIs.step {bx : Int} {t : RS} {c : Cel} (hy : t.y ≤ c.y) : LastIs (stepR bx t c) c := by
  refine ⟨rfl, ?_, ?_⟩
  · show (lineE bx t c).y = c.y
    unfold lineE
    split
    · rfl
    · omega
  · show ∃ m, (if incs (gapE (lineE bx t c) c) (lineE bx t c).x c = true then bump (gapE (lineE bx t c) c).out else (gapE (lineE bx t c) c).out ++ [(1, c.s)]).getLast? = some (m, c.s)
    split
    · rename_i h
      unfold incs at h
      split at h
      · cases h
      · rename_i r hr
        simp only [Bool.and_eq_true, decide_eq_true_eq] at h
        refine ⟨r.1 + 1, ?_⟩
        unfold bump
        rw [hr]
        simp [h.2]
    · exact ⟨1, by simp⟩
theorem runs_last {bx : Int} {ps : List Cel} (hr : rightC ps = true) : ∀ k, (hk : k < ps.length) → (runsSt bx (hdC ps).y ps k).y ≤ ps[k].y ∧ LastIs (runsSt bx (hdC ps).y ps (k + 1)) ps[k] := by
  have hc : chainB none ps = true := by unfold rightC at hr; simp only [Bool.and_eq_true] at hr; exact hr.2
  intro k
  induction k with
  | zero =>
    intro hk
    have h0 : (runsSt bx (hdC ps).y ps 0).y ≤ ps[0].y := by
      have : hdC ps = ps[0] := by cases ps with | nil => simp at hk | cons a l => rfl
      rw [this]; exact Int.le_refl _
    exact ⟨h0, by rw [runs_snoc _ _ hk]; exact LastIs.step h0⟩
  | succ k ih =>
    intro hk
    have h1 := (ih (by omega)).2
    have h0 : (runsSt bx (hdC ps).y ps (k + 1)).y ≤ ps[k + 1].y := by rw [h1.2.1]; exact (bef_y (chain_at hc k hk)).1
    exact ⟨h0, by rw [runs_snoc _ _ hk]; exact LastIs.step h0⟩
end Go.Proofs.YtekmldneinnmoaaDoor
