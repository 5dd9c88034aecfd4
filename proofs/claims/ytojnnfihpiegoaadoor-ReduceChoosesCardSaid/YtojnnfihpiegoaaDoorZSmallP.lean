/-
  A reduced tree is valid, equal to its tree, and is not reduced any further. No condition.
-/
import Derived.Test.YtojnnfihpiegoaaDoorZCp
namespace Go.Proofs.YtojnnfihpiegoaaDoor
set_option linter.unusedSimpArgs false
open Go.RowKit Go.Maps
set_option maxRecDepth 100000
set_option linter.unusedVariables false

/-- an operation whose guard does not ask for it -/
theorem wpOp_skip {P : Program} {ops : Array Oper} {i : Nat} {o : Oper} {a : Act} {w : World} {K : Act → World → Prop} {Q : Exit → Act → World → Prop} (ho : ops[i]? = some o) (hw : Region.wanted o (yielded ops a.tmps) = false) (h : K (a.put o.dst undef) w) : wpOp P ops Q i K a w := by
  unfold wpOp
  rw [ho]
  simp only
  rw [if_neg (by rw [hw]; exact Bool.false_ne_true)]
  exact h
section
variable {t a b : PT}
theorem red_eq (h : t.right = true) : redT t = ⟨t.st, t.ps, redN chR t.ns⟩ := by unfold redT; rw [if_pos h]
theorem red_can' (h : t.right = true) : Can t.st.toNat t.ps.length (redT t).ns := by
  obtain ⟨a1, a2, a3, a4, a5, a6, a7, a8, a9⟩ := rightN_parts h
  rw [red_eq h]
  exact red_can a8 (chR_chg _) (by omega) (by omega) a6
theorem red_right (h : t.right = true) : (redT t).right = true := by
  obtain ⟨a1, a2, a3, a4, a5, a6, a7, a8, a9⟩ := rightN_parts h
  obtain ⟨r1, r2, r3, r4, r5, r6, r7⟩ := redT_ok h
  have hc := red_can' h
  unfold PT.right
  refine rightN_of (by rw [r6]; exact a1) (by rw [r6]; exact a2) (by rw [r7]; exact a3) (by omega) (by omega) (by rw [r7]; exact hc.root) (by rw [r6]; exact r1) (fun i hi => by rw [r7]; exact hc.lv i hi)
theorem red_red (h : t.right = true) : redT (redT t) = redT t := by
  obtain ⟨a1, a2, a3, a4, a5, a6, a7, a8, a9⟩ := rightN_parts h
  obtain ⟨r1, r2, r3, r4, r5, r6, r7⟩ := redT_ok h
  have h2 := red_right h
  obtain ⟨s1, s2, s3, s4, s5, s6, s7⟩ := redT_ok h2
  have c1 := red_can' h
  have c2 := red_can' h2
  rw [r6, r7] at c2
  have e : (redT (redT t)).ns = (redT t).ns := c2.uniq c1 (by omega) (fun ins hl hq => s4.2 ins (by rw [c2.root, hl]) (by rw [r6]; exact hq))
  rw [red_eq h2, r6, r7]
  rw [red_eq h2] at e
  dsimp only at e
  rw [e]
  rw [red_eq h]
theorem eq_red (h : t.right = true) : equalP t (redT t) = true := by
  rw [equalP_eq, h, red_right h, red_red h, ex_same]
  rfl
theorem eq_parts (h : equalP a b = true) : b.right = true ∧ redT b = redT a := by
  rw [equalP_eq, Bool.and_eq_true, Bool.and_eq_true] at h
  refine ⟨h.1.2, ?_⟩
  have := h.2
  unfold sameP at this
  rw [Bool.and_eq_true, Bool.and_eq_true, decide_eq_true_iff, decide_eq_true_iff, decide_eq_true_iff] at this
  obtain ⟨⟨e1, e2⟩, e3⟩ := this
  generalize redT a = x at e1 e2 e3 ⊢
  generalize redT b = y at e1 e2 e3 ⊢
  obtain ⟨s, p, n⟩ := x
  obtain ⟨s', p', n'⟩ := y
  dsimp only at e1 e2 e3
  subst e1 e2 e3
  rfl
theorem red_le (h : t.right = true) : (redT t).ns.length ≤ t.ns.length := (redT_ok h).2.2.2.2.1
end
section
variable {w w' : World} {t u : PT} {v x : Value}
theorem rright_tv (h : TreeAt w v t) : Calls Tryd.prog 26 #[v] w fun e w' => e = .returned (.bool t.right) ∧ Below w.heap.size w w' := by
  obtain ⟨A, c, B, d, os, rfl, h1, h2, h3⟩ := h
  have := rright_any t.st A c t.ps B d os w h1 h2
  rw [h3] at this
  exact this
theorem right_tv (h : TreeAt w v t) : Calls Tryd.prog 27 #[v] w fun e w' => e = .returned (.bool t.right) ∧ Below w.heap.size w w' := by
  obtain ⟨A, c, B, d, os, rfl, h1, h2, h3⟩ := h
  have := right_any t.st A c t.ps B d os w h1 h2
  rw [h3] at this
  exact this
end
end Go.Proofs.YtojnnfihpiegoaaDoor
