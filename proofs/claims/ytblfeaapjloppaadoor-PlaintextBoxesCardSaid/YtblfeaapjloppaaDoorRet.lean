/-
  Reading what was written gives it back; what was read is written no longer. Plain.
-/
import Derived.Test.YtblfeaapjloppaaDoorTx0
import Derived.Test.YtblfeaapjloppaaDoorPars
namespace Go.Proofs.YtblfeaapjloppaaDoor
open Go.RowKit
set_option maxRecDepth 100000
set_option linter.unusedVariables false
set_option linter.unusedSimpArgs false

theorem rm_nls (rest : List UInt8) : ∀ (n : Nat) (out : List Cel) (x y : Int) (b : Bool), ∃ b', rm (List.replicate n 10 ++ rest) ⟨out, x, y, false, b⟩ = rm rest ⟨out, if n = 0 then x else 0, y + n, false, b'⟩
  | 0, out, x, y, b => ⟨b, by simp⟩
  | n + 1, out, x, y, b => by
    obtain ⟨b', h⟩ := rm_nls rest n out 0 (y + 1) true
    refine ⟨b', ?_⟩
    rw [List.replicate_succ, List.cons_append, rm, if_pos rfl]
    dsimp only
    rw [if_neg (by decide : ¬ false = true), h, if_neg (by omega : ¬ n + 1 = 0)]
    congr 2
    · split <;> rfl
    · push_cast; omega
theorem rm_dots (rest : List UInt8) : ∀ (n : Nat) (out : List Cel) (x y : Int) (b : Bool), ∃ b', rm (List.replicate n 46 ++ rest) ⟨out, x, y, false, b⟩ = rm rest ⟨out, x + n, y, false, b'⟩
  | 0, out, x, y, b => ⟨b, by simp⟩
  | n + 1, out, x, y, b => by
    obtain ⟨b', h⟩ := rm_dots rest n out (x + 1) y false
    refine ⟨b', ?_⟩
    have hs : st31 46 = 0 := by decide
    rw [List.replicate_succ, List.cons_append, rm, if_neg (by decide), if_neg (fun h => h.elim (fun h => by cases h) (fun h => absurd h.2 (by decide))), hs, if_neg (by decide)]
    dsimp only
    rw [if_neg (by decide : ¬ (0 : Int) < 0), h]
    congr 2
    push_cast
    omega
theorem ch_st {top s : Int} (h1 : 1 ≤ s) (h2 : s ≤ top) (h3 : top ≤ 7) : st31 (chB top s) = s ∧ chB top s ≠ 10 ∧ chB top s ≠ 33 := by
  have key : top = 1 ∨ top = 2 ∨ top = 3 ∨ top = 4 ∨ top = 5 ∨ top = 6 ∨ top = 7 := by omega
  have key2 : s = 1 ∨ s = 2 ∨ s = 3 ∨ s = 4 ∨ s = 5 ∨ s = 6 ∨ s = 7 := by omega
  rcases key with rfl | rfl | rfl | rfl | rfl | rfl | rfl <;> rcases key2 with rfl | rfl | rfl | rfl | rfl | rfl | rfl <;> first | omega | decide
theorem back_step {ps : List Cel} (hr : rightC ps = true) (hn : ps.any negB = false) (rest : List UInt8) : ∀ k, k ≤ ps.length → ∀ rest, ∃ b, rm ((foldT (topC ps) (ps.take k)).out ++ rest) ⟨[], 0, 0, false, true⟩ = rm rest ⟨ps.take k, (foldT (topC ps) (ps.take k)).x, (foldT (topC ps) (ps.take k)).y, false, b⟩ ∧ TI (topC ps) ps k (foldT (topC ps) (ps.take k))
  | 0, _, rest => ⟨true, rfl, TI.start⟩
  | k + 1, hk, rest => by
    have hk' : k < ps.length := hk
    rw [foldT_snoc _ hk']
    obtain ⟨t, ht⟩ : ∃ t, t = foldT (topC ps) (ps.take k) := ⟨_, rfl⟩
    have ih := back_step hr hn rest k (Nat.le_of_succ_le hk)
    rw [← ht] at ih ⊢
    have hc := right_cel hr hk'
    have hg := neg_no hn hk'
    have htp := ch_st hc.2.2.2.2.1 (top_ge hk') (top_bd hr).2
    obtain ⟨-, -, hI⟩ := ih []
    have hnx := hI.nx hk' hg.1 hg.2
    have hx0 := hI.x0
    obtain ⟨b0, h0, -⟩ := ih (List.replicate (ps[k].y - t.y).toNat 10 ++ (List.replicate (ps[k].x - (if t.y < ps[k].y then 0 else t.x)).toNat 46 ++ (chB (topC ps) ps[k].s :: rest)))
    obtain ⟨b1, h1⟩ := rm_nls (List.replicate (ps[k].x - (if t.y < ps[k].y then 0 else t.x)).toNat 46 ++ (chB (topC ps) ps[k].s :: rest)) (ps[k].y - t.y).toNat (ps.take k) t.x t.y b0
    obtain ⟨b2, h2⟩ := rm_dots (chB (topC ps) ps[k].s :: rest) (ps[k].x - (if t.y < ps[k].y then 0 else t.x)).toNat (ps.take k) (if (ps[k].y - t.y).toNat = 0 then t.x else 0) (t.y + ((ps[k].y - t.y).toNat : Nat)) b1
    refine ⟨false, ?_, hI.step hr hk' hg.1 hg.2⟩
    have e1 : (stepT (topC ps) t ps[k]).out ++ rest = t.out ++ (List.replicate (ps[k].y - t.y).toNat 10 ++ (List.replicate (ps[k].x - (if t.y < ps[k].y then 0 else t.x)).toNat 46 ++ (chB (topC ps) ps[k].s :: rest))) := by
      show t.out ++ _ ++ _ ++ [_] ++ rest = _
      simp only [List.append_assoc, List.cons_append, List.nil_append]
    have e2 : t.y + ((ps[k].y - t.y).toNat : Nat) = ps[k].y := by omega
    have e3 : (if (ps[k].y - t.y).toNat = 0 then t.x else 0) + ((ps[k].x - (if t.y < ps[k].y then 0 else t.x)).toNat : Nat) = ps[k].x := by
      by_cases h : t.y < ps[k].y
      · rw [if_pos h, if_neg (by omega)]; omega
      · rw [if_neg h, if_pos (by omega)]; omega
    rw [e2] at h1 h2
    rw [e3] at h2
    rw [e1, h0, h1, h2, rm, if_neg htp.2.1, if_neg (fun h => h.elim (fun h => by cases h) (fun h => htp.2.2 h.2)), htp.1, if_neg (by omega)]
    dsimp only
    rw [if_pos (by omega), List.take_succ_eq_append_getElem hk']
    rfl
theorem text_back {ps : List Cel} (hr : rightC ps = true) (hn : ps.any negB = false) : rm (bodyT ps) ⟨[], 0, 0, false, true⟩ = (ps, 0) := by
  have hl := right_len hr
  obtain ⟨b, h, -⟩ := back_step hr hn [] ps.length (Nat.le_refl _) (if ps = [] then [] else [10])
  rw [List.take_length] at h
  unfold bodyT
  rw [h]
  by_cases he : ps = []
  · rw [if_pos he, rm, if_neg (by show ¬ 5000 < ps.length; omega)]
  · rw [if_neg he, rm, if_pos rfl, rm, if_neg (by show ¬ 5000 < ps.length; omega)]
theorem text_zero {ps : List Cel} (h : (textT ps).2 = 0) : rightC ps = true ∧ ps.any negB = false ∧ textT ps = (bodyT ps, 0) := by
  unfold textT at h ⊢
  by_cases h1 : rightC ps = false
  · rw [if_pos h1] at h; cases h
  rw [if_neg h1] at h ⊢
  by_cases h2 : ps.any negB = true
  · rw [if_pos h2] at h; cases h
  rw [if_neg h2] at h ⊢
  by_cases h3 : 65536 < (bodyT ps).length
  · rw [if_pos h3] at h; cases h
  rw [if_neg h3] at h ⊢
  exact ⟨by simpa using h1, by simpa using h2, rfl⟩
end Go.Proofs.YtblfeaapjloppaaDoor
