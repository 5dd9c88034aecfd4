/-
  What is so of a right pattern's runs and of its text's parts. Plain.
-/
import Derived.Test.YtekmldneinnmoaaDoorTxt0
namespace Go.Proofs.YtekmldneinnmoaaDoor
open Go.RowKit
set_option linter.unusedVariables false

theorem topC_ge : ∀ (ps : List Cel) (m : Int), m ≤ ps.foldl (fun n c => max n c.s) m ∧ ∀ c ∈ ps, c.s ≤ ps.foldl (fun n c => max n c.s) m
  | [], m => ⟨Int.le_refl _, fun c h => by cases h⟩
  | a :: l, m => by
    have h := topC_ge l (max m a.s)
    rw [List.foldl_cons]
    refine ⟨by omega, fun c hc => ?_⟩
    rcases List.mem_cons.1 hc with rfl | hc
    · omega
    · exact h.2 c hc
/-- what is so of each run -/
def RunOk (top : Int) (k : Nat) (r : Int × Int) : Prop := -1 ≤ r.2 ∧ r.2 ≤ top ∧ 1 ≤ r.1 ∧ r.1 ≤ 2097153 + k
theorem RunOk.more {top : Int} {k : Nat} {r : Int × Int} (h : RunOk top k r) : RunOk top (k + 1) r := ⟨h.1, h.2.1, h.2.2.1, by have := h.2.2.2; omega⟩
theorem stepR_runs {bx top : Int} {t : RS} {k : Nat} {c : Cel} (ht : RSok t k) (h0 : 0 ≤ top) (hs : c.s ≤ top) (hs1 : 1 ≤ c.s) (hb : -1048576 ≤ bx ∧ bx ≤ 1048576) (hx : -1048576 ≤ c.x ∧ c.x ≤ 1048576) (hy : -1048576 ≤ c.y ∧ c.y ≤ 1048576)
    (h : ∀ r ∈ t.out, RunOk top k r) : ∀ r ∈ (stepR bx t c).out, RunOk top (k + 1) r := by
  have h1 : (∀ r ∈ (lineE bx t c).out, RunOk top k r) ∧ -1048576 ≤ (lineE bx t c).x := by
    unfold lineE
    split
    · refine ⟨fun r hr => ?_, hb.1⟩
      simp only [List.mem_append, List.mem_singleton] at hr
      rcases hr with hr | hr
      · exact h r hr
      · subst hr
        have := ht.y0
        exact ⟨by simp, by dsimp only; omega, by dsimp only; omega, by dsimp only; omega⟩
    · exact ⟨h, ht.x0⟩
  have h2 : ∀ r ∈ (gapE (lineE bx t c) c).out, RunOk top k r := by
    unfold gapE
    split
    · intro r hr
      simp only [List.mem_append, List.mem_singleton] at hr
      rcases hr with hr | hr
      · exact h1.1 r hr
      · subst hr
        have := h1.2
        exact ⟨by simp, h0, by dsimp only; omega, by dsimp only; omega⟩
    · exact h1.1
  intro r hr
  have key : r ∈ (if incs (gapE (lineE bx t c) c) (lineE bx t c).x c = true then bump (gapE (lineE bx t c) c).out else (gapE (lineE bx t c) c).out ++ [(1, c.s)]) → RunOk top (k + 1) r := by
    intro hr
    split at hr
    · unfold bump at hr
      split at hr
      · exact (h2 r hr).more
      · rename_i q hq
        simp only [List.mem_append, List.mem_singleton] at hr
        rcases hr with hr | hr
        · exact (h2 r (List.dropLast_subset _ hr)).more
        · subst hr
          have := h2 q (List.mem_of_getLast? hq)
          exact ⟨this.1, this.2.1, by have := this.2.2.1; dsimp only; omega, by have := this.2.2.2; dsimp only; omega⟩
    · simp only [List.mem_append, List.mem_singleton] at hr
      rcases hr with hr | hr
      · exact (h2 r hr).more
      · subst hr
        exact ⟨by dsimp only; omega, hs, by dsimp only; omega, by dsimp only; omega⟩
  exact key hr
theorem runs_spec (ps : List Cel) : (runsL ps).length ≤ 3 * ps.length ∧ (runsL ps).length ≤ 15000 ∧ ∀ r ∈ runsL ps, RunOk (topC ps) 5000 r ∧ r.2 ≤ 7 := by
  unfold runsL
  split
  · rename_i hb
    have bd := box_bd hb
    have hp := right_bd bd.1
    have hl : ps.length ≤ 5000 := by have h := bd.1; unfold rightC at h; simp only [Bool.and_eq_true, decide_eq_true_eq] at h; exact h.1
    have hk := runs_ok (ps := ps) hp bd.2.2.1 bd.2.2.2
    have ht := topC_ge ps 0
    have key : ∀ k, k ≤ ps.length → ∀ r ∈ (runsSt (boxC ps).1.x (boxC ps).1.y ps k).out, RunOk (topC ps) k r := by
      intro k
      induction k with
      | zero => intro _ r hr; cases hr
      | succ k ih =>
        intro h
        rw [runs_snoc _ _ (by omega)]
        have hc := hp ps[k] (List.getElem_mem (by omega))
        exact stepR_runs (hk k (by omega)) ht.1 (ht.2 _ (List.getElem_mem (by omega))) hc.2.2.1 bd.2.2.1 hc.1 hc.2.1 (ih (by omega))
    have hn := (hk ps.length (Nat.le_refl _)).n
    refine ⟨hn, by omega, fun r hr => ?_⟩
    have h := key ps.length (Nat.le_refl _) r hr
    refine ⟨⟨h.1, h.2.1, h.2.2.1, by have := h.2.2.2; omega⟩, ?_⟩
    have h7 : topC ps ≤ 7 := by
      unfold topC
      have : ∀ (l : List Cel) (m : Int), m ≤ 7 → (∀ c ∈ l, c.s < 8) → l.foldl (fun n c => max n c.s) m ≤ 7 := by
        intro l
        induction l with
        | nil => intro m hm _; exact hm
        | cons a l ih =>
          intro m hm h
          rw [List.foldl_cons]
          have := h a List.mem_cons_self
          exact ih _ (by omega) (fun c hc => h c (List.mem_cons_of_mem _ hc))
      exact this ps 0 (by omega) (fun c hc => (hp c hc).2.2.2)
    have := h.2.1
    omega
  · exact ⟨by simp, by simp, fun r hr => by cases hr⟩
theorem letC_len (k : Int) (two : Bool) : (letC k two).length = 1 := by
  unfold letC
  split
  · rfl
  · split <;> rfl
theorem itoa_len (n : Int) (h0 : 0 ≤ n) (h1 : n < 10000000) : (Lib.itoa n).length ≤ 7 := by
  rw [show n = ((n.toNat : Nat) : Int) by omega, itoa_nat]
  exact dec_len1 (by omega) _ (by omega)
theorem item_len (two : Bool) (r : Int × Int) (h0 : 0 ≤ r.1) (h1 : r.1 < 10000000) : (itemC two r).length ≤ 8 := by
  unfold itemC
  rw [List.length_append, letC_len]
  split
  · have := itoa_len r.1 h0 h1; omega
  · simp
theorem wrap_len (h : List UInt8) : ∀ (l : List (List UInt8)), (∀ x ∈ l, x.length ≤ 8) → (wrapL h l).1.length + (wrapL h l).2.length ≤ h.length + 9 * l.length := by
  intro l
  unfold wrapL
  have key : ∀ (l : List (List UInt8)) (t : List UInt8 × List UInt8), (∀ x ∈ l, x.length ≤ 8) → (l.foldl putL t).1.length + (l.foldl putL t).2.length ≤ t.1.length + t.2.length + 9 * l.length := by
    intro l
    induction l with
    | nil => intro t _; simp
    | cons a l ih =>
      intro t hl
      rw [List.foldl_cons]
      have h1 := ih (putL t a) (fun x hx => hl x (List.mem_cons_of_mem _ hx))
      have h2 := put_len t a
      have h3 := hl a List.mem_cons_self
      simp
      omega
  intro hl
  have := key l (h, []) hl
  simpa using this
theorem wrap_snoc (h : List UInt8) {l : List (List UInt8)} {k : Nat} (hk : k < l.length) : wrapL h (l.take (k + 1)) = putL (wrapL h (l.take k)) l[k] := by
  unfold wrapL
  rw [List.take_succ_eq_append_getElem hk, List.foldl_append]
  rfl
end Go.Proofs.YtekmldneinnmoaaDoor
