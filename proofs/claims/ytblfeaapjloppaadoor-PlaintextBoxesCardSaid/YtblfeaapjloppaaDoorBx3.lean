/-
  what is cut out of what is right is right; the sums of the law.
-/
import Derived.Test.YtblfeaapjloppaaDoorBx2
import Derived.Test.YtblfeaapjloppaaDoorShiW
import Derived.Test.YtblfeaapjloppaaDoorDrwW
import Derived.Test.YtblfeaapjloppaaDoorAwake
import Derived.Test.YtblfeaapjloppaaDoorJ
namespace Go.Proofs.YtblfeaapjloppaaDoor
open Go.RowKit
set_option maxRecDepth 100000
set_option linter.unusedVariables false
set_option linter.unusedSimpArgs false

theorem chain_of_pw : ∀ (l : List Cel) (p : Option Cel), l.Pairwise (fun a b => befB a b = true) → (∀ q, p = some q → ∀ c ∈ l, befB q c = true) → (∀ c ∈ l, placeB c.x c.y = true ∧ 1 ≤ c.s ∧ c.s < 8) → chainB p l = true
  | [], _, _, _, _ => rfl
  | a :: l, p, h, hp, hc => by
    obtain ⟨h1, h2⟩ := List.pairwise_cons.1 h
    obtain ⟨c1, c2, c3⟩ := hc a (List.mem_cons_self ..)
    rw [chainB, Bool.and_eq_true]
    refine ⟨?_, chain_of_pw l (some a) h2 (fun q e c hcl => by cases e; exact h1 c hcl) (fun c hcl => hc c (List.mem_cons_of_mem _ hcl))⟩
    unfold okB
    rw [c1, decide_eq_true c2, decide_eq_true c3]
    cases p with
    | none => rfl
    | some q => simpa using hp q rfl a (List.mem_cons_self ..)
theorem cut_right {ps : List Cel} (b : Bx) (h : rightC ps = true) : rightC (cutC ps b) = true := by
  have hl := right_len h
  have hcel : ∀ c ∈ ps, placeB c.x c.y = true ∧ 1 ≤ c.s ∧ c.s < 8 := by
    intro c hc
    obtain ⟨k, hk, e⟩ := List.getElem_of_mem hc
    have := right_cel h hk
    rw [e] at this
    refine ⟨?_, this.2.2.2.2⟩
    unfold placeB
    simp only [Bool.and_eq_true, decide_eq_true_eq]
    omega
  unfold rightC at h
  rw [Bool.and_eq_true] at h
  obtain ⟨h1, -⟩ := chain_pw ps none h.2
  unfold rightC
  rw [Bool.and_eq_true]
  refine ⟨decide_eq_true (Nat.le_trans (cut_len ps b) hl), chain_of_pw _ none ?_ (fun q e => by cases e) (fun c hc => hcel c ?_)⟩
  · exact List.Pairwise.filter _ h1
  · unfold cutC at hc
    exact (List.mem_filter.1 hc).1
theorem bx_mul {w h : Int} (h1 : 1 ≤ w) (h2 : 1 ≤ h) (hs : w * h ≤ 2000) : w ≤ 2000 ∧ h ≤ 2000 ∧ (w + 1) * h ≤ 4000 := by
  have a : w * 1 ≤ w * h := Int.mul_le_mul_of_nonneg_left h2 (by omega)
  have b : 1 * h ≤ w * h := Int.mul_le_mul_of_nonneg_right h1 (by omega)
  rw [Int.add_mul]
  omega
theorem bx_wrap {w h : Int} (h1 : 1 ≤ w) (h1' : w < 2097154) (h2 : 1 ≤ h) (h2' : h < 2097154) : wrap64 (w * h) = w * h := by
  have a : w * h ≤ 2097153 * h := Int.mul_le_mul_of_nonneg_right (by omega) (by omega)
  have b : 0 ≤ w * h := Int.mul_nonneg (by omega) (by omega)
  unfold wrap64
  omega
theorem mov_place {ps : List Cel} {b : Bx} (hX : rightX b = true) (hs : b.w * b.h ≤ 2000) : ∀ i, i < (cutC ps b).length → placeB (nx (cutC ps b) i + -b.x) (ny (cutC ps b) i + -b.y) = true := by
  intro i hi
  have hbd := rightX_bd hX
  obtain ⟨h1, h2, -⟩ := bx_mul hbd.1 hbd.2.2.1 hs
  have hm : (cutC ps b)[i] ∈ cutC ps b := List.getElem_mem hi
  unfold nx ny
  rw [List.getElem?_eq_getElem hi]
  dsimp only
  generalize (cutC ps b)[i] = c at hm
  unfold cutC at hm
  have hin := (List.mem_filter.1 hm).2
  have hib := inX_bd hin
  unfold placeB
  simp only [Bool.and_eq_true, decide_eq_true_eq]
  omega
theorem draw_len (ps : List Cel) {b : Bx} (hX : rightX b = true) : (((drawG ps b).length : Nat) : Int) = (b.w + 1) * b.h := by
  have hbd := rightX_bd hX
  unfold drawG
  rw [puts_len]
  exact grid_len b (by omega) (by omega)
end Go.Proofs.YtblfeaapjloppaaDoor
