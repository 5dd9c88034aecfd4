/-
  What the limits' statement asks of reading, writing and drawing. Plain.
-/
import Derived.Test.YtblfeaapjloppaaDoorDrw
import Derived.Test.YtblfeaapjloppaaDoorPars
namespace Go.Proofs.YtblfeaapjloppaaDoor
open Go.RowKit
set_option maxRecDepth 100000
set_option linter.unusedVariables false
set_option linter.unusedSimpArgs false

def cntC (c : UInt8) (m : Nat) : Nat := if 0 < st31 c then m else 0
theorem rm_rep {c : UInt8} (h10 : c ≠ 10) (h33 : c ≠ 33) (hs : 0 ≤ st31 c) (rest : List UInt8) (y : Int) : ∀ (m : Nat) (out : List Cel) (x : Int) (b : Bool), ∃ out' x' b', rm (List.replicate m c ++ rest) ⟨out, x, y, false, b⟩ = rm rest ⟨out', x', y, false, b'⟩ ∧ out'.length = out.length + cntC c m
  | 0, out, x, b => ⟨out, x, b, rfl, by unfold cntC; split <;> rfl⟩
  | m + 1, out, x, b => by
    obtain ⟨o, x', b', h1, h2⟩ := rm_rep h10 h33 hs rest y m (if 0 < st31 c then out ++ [⟨x, y, st31 c⟩] else out) (x + 1) false
    refine ⟨o, x', b', ?_, ?_⟩
    · rw [List.replicate_succ, List.cons_append, rm, if_neg h10, if_neg (fun h => h.elim (fun h => by cases h) (fun h => h33 h.2)), if_neg (by omega)]
      exact h1
    · rw [h2]
      unfold cntC
      split
      · rw [List.length_append, List.length_singleton]; omega
      · rfl
theorem rm_rows {c : UInt8} (h10 : c ≠ 10) (h33 : c ≠ 33) (hs : 0 ≤ st31 c) (rest : List UInt8) : ∀ (q : Nat) (out : List Cel) (y : Int), ∃ out' y', rm (Lib.repeatL (List.replicate 128 c ++ [10]) q ++ rest) ⟨out, 0, y, false, true⟩ = rm rest ⟨out', 0, y', false, true⟩ ∧ out'.length = out.length + q * cntC c 128
  | 0, out, y => ⟨out, y, rfl, by simp⟩
  | q + 1, out, y => by
    obtain ⟨o1, x1, b1, h1, h2⟩ := rm_rep h10 h33 hs (10 :: (Lib.repeatL (List.replicate 128 c ++ [10]) q ++ rest)) y 128 out 0 true
    obtain ⟨o2, y2, h3, h4⟩ := rm_rows h10 h33 hs rest q o1 (y + 1)
    refine ⟨o2, y2, ?_, ?_⟩
    · have e : Lib.repeatL (List.replicate 128 c ++ [10]) (q + 1) ++ rest = List.replicate 128 c ++ 10 :: (Lib.repeatL (List.replicate 128 c ++ [10]) q ++ rest) := by
        show (List.replicate 128 c ++ [10]) ++ Lib.repeatL (List.replicate 128 c ++ [10]) q ++ rest = _
        simp only [List.append_assoc, List.cons_append, List.nil_append]
      rw [e, h1, rm, if_pos rfl]
      exact h3
    · rw [h4, h2, Nat.succ_mul]
      omega
/-- the text that is read -/
def limL (c : UInt8) (k : Nat) : List UInt8 := Lib.repeatL (List.replicate 128 c ++ [10]) 39 ++ List.replicate (6 + k) c
theorem lim_read {c : UInt8} (h10 : c ≠ 10) (h33 : c ≠ 33) (hs : 0 ≤ st31 c) (k : Nat) : ∃ o : List Cel, o.length = 39 * cntC c 128 + cntC c (6 + k) ∧ rm (limL c k) ⟨[], 0, 0, false, true⟩ = if 5000 < o.length then ([], 6) else (o, 0) := by
  obtain ⟨o1, y1, h1, h2⟩ := rm_rows h10 h33 hs (List.replicate (6 + k) c ++ []) 39 [] 0
  obtain ⟨o2, x2, b2, h3, h4⟩ := rm_rep h10 h33 hs [] y1 (6 + k) o1 0 true
  refine ⟨o2, by rw [h4, h2]; simp, ?_⟩
  unfold limL
  rw [List.append_nil] at h1 h3
  rw [h1, h3, rm]
theorem lim_len (c : UInt8) (k : Nat) : (limL c k).length = 5037 + k := by
  unfold limL
  rw [List.length_append, Lib.repeatL_length, List.length_append, List.length_replicate, List.length_replicate]
  simp
  omega
theorem far_right {x : Int} (h0 : 0 ≤ x) (h1 : x ≤ 1048576) : rightC [⟨x, 0, 1⟩] = true := by
  unfold rightC chainB okB placeB
  simp [chainB]
  omega
theorem far_neg {x : Int} (h0 : 0 ≤ x) : ([⟨x, 0, 1⟩] : List Cel).any negB = false := by
  simp [negB]
  omega
theorem far_len {x : Int} (h0 : 0 ≤ x) : (bodyT [⟨x, 0, 1⟩]).length = x.toNat + 2 := by
  rw [body_len]
  unfold foldT
  rw [List.foldl_cons, List.foldl_nil, step_len]
  simp
theorem far_text {x : Int} (h0 : 0 ≤ x) (h1 : x ≤ 1048576) : ∃ l : List UInt8, (l.length : Int) = x + 2 ∧ textT [⟨x, 0, 1⟩] = if 65536 < x + 2 then ([], 6) else (l, 0) := by
  refine ⟨bodyT [⟨x, 0, 1⟩], by rw [far_len h0]; omega, ?_⟩
  by_cases hb : 65536 < x + 2
  · rw [if_pos hb]
    exact text_far (far_right h0 h1) (far_neg h0) (by rw [far_len h0]; omega)
  · rw [if_neg hb]
    exact text_ok (far_right h0 h1) (far_neg h0) (by rw [far_len h0]; omega)
theorem far_draw {x : Int} (h0 : 0 ≤ x) (h1 : x ≤ 1048570) : ∃ l : List UInt8, (l.length : Int) = x + 2 ∧ drawT [⟨x, 0, 1⟩] ⟨0, 0, x + 1, 1⟩ = if 65536 < x + 2 then ([], 6) else (l, 0) := by
  have hX : rightX ⟨0, 0, x + 1, 1⟩ = true := by
    unfold rightX inB
    simp
    omega
  refine ⟨drawG [⟨x, 0, 1⟩] ⟨0, 0, x + 1, 1⟩, ?_, ?_⟩
  · unfold drawG
    rw [puts_len, grid_len _ (by dsimp only; omega) (by dsimp only; omega)]
    dsimp only
    omega
  · by_cases hb : 65536 < x + 2
    · rw [if_pos hb]
      exact draw_far (far_right h0 (by omega)) hX (by dsimp only; omega)
    · rw [if_neg hb]
      exact draw_ok (far_right h0 (by omega)) hX (by dsimp only; omega)
end Go.Proofs.YtblfeaapjloppaaDoor
