/-
  What is read is a right pattern, and is written no longer than the text. Plain.
-/
import Derived.Test.YtblfeaapjloppaaDoorRet
namespace Go.Proofs.YtblfeaapjloppaaDoor
open Go.RowKit
set_option maxRecDepth 100000
set_option linter.unusedVariables false
set_option linter.unusedSimpArgs false

def lastOr (p : Option Cel) : List Cel → Option Cel
  | [] => p
  | c :: l => lastOr (some c) l
theorem lastOr_snoc (c : Cel) : ∀ (l : List Cel) (p : Option Cel), lastOr p (l ++ [c]) = some c
  | [], _ => rfl
  | a :: l, _ => lastOr_snoc c l (some a)
theorem chain_snoc (c : Cel) : ∀ (l : List Cel) (p : Option Cel), chainB p (l ++ [c]) = (chainB p l && okB (lastOr p l) c)
  | [], p => by simp [chainB, lastOr]
  | a :: l, p => by
    rw [List.cons_append, chainB, chain_snoc c l (some a), chainB, lastOr, Bool.and_assoc]
theorem fold_top (a b : Int) : ∀ (l : List Cel) (t u : TS), t.out.length = u.out.length → t.x = u.x → t.y = u.y →
    (l.foldl (stepT a) t).out.length = (l.foldl (stepT b) u).out.length
  | [], t, u, h, _, _ => h
  | c :: l, t, u, h, hx, hy => fold_top a b l (stepT a t c) (stepT b u c) (by rw [step_len, step_len, h, hx, hy]) rfl rfl
theorem foldT_top (a b : Int) (ps : List Cel) : (foldT a ps).out.length = (foldT b ps).out.length := fold_top a b ps _ _ rfl rfl rfl
/-- what has been read -/
structure RQ (k : Nat) (q : RM) (t : TS) : Prop where
  e : t = foldT 0 q.out
  ch : chainB none q.out = true
  ng : q.out.any negB = false
  n : q.out.length ≤ k
  x0 : 0 ≤ q.x
  x1 : q.x ≤ k
  y0 : 0 ≤ q.y
  y1 : q.y ≤ k
  cb : (q.com = true ∨ q.beg = true) → q.x = 0
  tx0 : 0 ≤ t.x
  ty : t.y ≤ q.y
  tx : q.y ≤ t.y → t.x ≤ q.x
  la : ∀ c, lastOr none q.out = some c → t.x = c.x + 1 ∧ t.y = c.y
  len : (t.out.length : Int) + (q.y - t.y) + (q.x - (if t.y < q.y then 0 else t.x)) ≤ k
theorem RQ.start : RQ 0 ⟨[], 0, 0, false, true⟩ ⟨[], 0, 0⟩ := ⟨rfl, rfl, rfl, by simp, by simp, by simp, by simp, by simp, fun _ => rfl, by simp, by simp, by simp, (fun c h => by cases h), by simp⟩
def Good (n : Nat) (out : List Cel) : Prop := rightC out = true ∧ out.any negB = false ∧ (foldT 0 out).out.length ≤ n
theorem rm_good : ∀ (l : List UInt8) (k : Nat) (q : RM) (t : TS), RQ k q t → k + l.length ≤ 5000 → ((rm l q).2 = 0 ∧ Good (k + l.length) (rm l q).1) ∨ rm l q = ([], 15)
  | [], k, q, t, h, hk => by
    have hn := h.n
    have hk' : k ≤ 5000 := hk
    rw [rm, if_neg (by omega)]
    refine .inl ⟨rfl, ?_, h.ng, ?_⟩
    · unfold rightC
      rw [h.ch, decide_eq_true (by show q.out.length ≤ 5000; omega)]
      rfl
    · show (foldT 0 q.out).out.length ≤ k + 0
      rw [← h.e]
      have h1 := h.len
      have h2 := h.ty
      have h3 := h.tx
      have h4 := h.x0
      split at h1 <;> omega
  | c :: l, k, q, t, h, hk => by
    have hx0 := h.x0
    have hx1 := h.x1
    have hy0 := h.y0
    have hy1 := h.y1
    have hn := h.n
    have htx0 := h.tx0
    have hty := h.ty
    have htx := h.tx
    have hlen := h.len
    have hcb := h.cb
    have hk2 : k + 1 + l.length ≤ 5000 := by rw [List.length_cons] at hk; omega
    have hkl : k + (c :: l).length = k + 1 + l.length := by rw [List.length_cons]; omega
    rw [hkl]
    obtain ⟨qo, qx, qy, qc, qb⟩ := q
    dsimp only at hx0 hx1 hy0 hy1 hn htx0 hty htx hlen hcb
    by_cases h10 : c = 10
    · rw [rm, if_pos h10]
      refine rm_good l (k + 1) _ t ?_ hk2
      dsimp only
      refine ⟨h.e, h.ch, h.ng, by show qo.length ≤ _; omega, Int.le_refl _, by show (0 : Int) ≤ _; omega, ?_, ?_, fun _ => rfl, htx0, ?_, ?_, h.la, ?_⟩
      · show 0 ≤ if qc = true then qy else qy + 1
        split <;> omega
      · show (if qc = true then qy else qy + 1) ≤ _
        split <;> omega
      · show t.y ≤ if qc = true then qy else qy + 1
        split <;> omega
      · show (if qc = true then qy else qy + 1) ≤ t.y → t.x ≤ 0
        intro hh
        split at hh
        · rename_i hc
          have := hcb (.inl hc)
          have := htx hh
          omega
        · omega
      · show (t.out.length : Int) + ((if qc = true then qy else qy + 1) - t.y) + (0 - (if t.y < (if qc = true then qy else qy + 1) then 0 else t.x)) ≤ _
        by_cases hc : qc = true
        · rw [if_pos hc]
          have hz := hcb (.inl hc)
          rw [hz] at hlen
          push_cast
          omega
        · rw [if_neg hc, if_pos (by omega)]
          push_cast
          split at hlen <;> omega
    · rw [rm, if_neg h10]
      dsimp only
      by_cases h33 : qc = true ∨ (qb = true ∧ c = 33)
      · rw [if_pos h33]
        refine rm_good l (k + 1) _ t ?_ hk2
        have hz : qx = 0 := h33.elim (fun h => hcb (.inl h)) (fun h => hcb (.inr h.1))
        exact ⟨h.e, h.ch, h.ng, by show qo.length ≤ _; omega, hx0, by show qx ≤ _; omega, hy0, by show qy ≤ _; omega, fun _ => hz, htx0, hty, htx, h.la, by show (t.out.length : Int) + (qy - t.y) + (qx - (if t.y < qy then 0 else t.x)) ≤ _; push_cast; omega⟩
      · rw [if_neg h33]
        by_cases hs : st31 c < 0
        · rw [if_pos hs]
          exact .inr rfl
        · rw [if_neg hs]
          have hs7 := st31_le c
          by_cases hs1 : 0 < st31 c
          · rw [if_pos hs1]
            refine rm_good l (k + 1) _ (stepT 0 t ⟨qx, qy, st31 c⟩) ?_ hk2
            refine ⟨?_, ?_, ?_, by show (qo ++ _).length ≤ _; rw [List.length_append]; simp; omega, by show 0 ≤ qx + 1; omega, by show qx + 1 ≤ _; push_cast; omega, hy0, by show qy ≤ _; omega, (by rintro (h | h) <;> cases h), by show 0 ≤ qx + 1; omega, Int.le_refl _, fun _ => Int.le_refl _, ?_, ?_⟩
            · show stepT 0 t _ = foldT 0 (qo ++ [_])
              unfold foldT
              rw [List.foldl_append, h.e]
              rfl
            · show chainB none (qo ++ [_]) = true
              rw [chain_snoc, h.ch, Bool.true_and]
              unfold okB placeB
              dsimp only
              rw [decide_eq_true (by omega), decide_eq_true (by omega), decide_eq_true (by omega), decide_eq_true (by omega), decide_eq_true (by omega), decide_eq_true (by omega)]
              cases hl : lastOr none qo with
              | none => rfl
              | some d =>
                have hd := h.la d hl
                unfold befB
                dsimp only
                by_cases hyy : d.y < qy
                · rw [decide_eq_true hyy]; rfl
                · have h1 := htx (by omega)
                  have h2 : d.y = qy := by omega
                  rw [decide_eq_true (p := d.x < qx) (by omega), h2]
                  simp
            · show (qo ++ [_]).any negB = false
              rw [List.any_append, h.ng]
              simp [negB]
              omega
            · intro d hd
              rw [show lastOr none (qo ++ [(⟨qx, qy, st31 c⟩ : Cel)]) = some ⟨qx, qy, st31 c⟩ from lastOr_snoc _ _ _] at hd
              injection hd with hd
              subst hd
              exact ⟨rfl, rfl⟩
            · show ((stepT 0 t ⟨qx, qy, st31 c⟩).out.length : Int) + (qy - qy) + (qx + 1 - (if qy < qy then 0 else qx + 1)) ≤ _
              have e9 := step_len 0 t ⟨qx, qy, st31 c⟩
              dsimp only at e9
              rw [e9, if_neg (by omega : ¬ qy < qy)]
              push_cast
              by_cases hyy : t.y < qy
              · rw [if_pos hyy] at hlen ⊢
                omega
              · rw [if_neg hyy] at hlen ⊢
                omega
          · rw [if_neg hs1]
            refine rm_good l (k + 1) _ t ?_ hk2
            exact ⟨h.e, h.ch, h.ng, by show qo.length ≤ _; omega, by show 0 ≤ qx + 1; omega, by show qx + 1 ≤ _; push_cast; omega, hy0, by show qy ≤ _; omega, (by rintro (h | h) <;> cases h), htx0, hty, fun hh => by show t.x ≤ qx + 1; have := htx hh; omega, h.la, by show (t.out.length : Int) + (qy - t.y) + (qx + 1 - (if t.y < qy then 0 else t.x)) ≤ _; push_cast; omega⟩
/-- what is read of a text -/
theorem read_good {l : List UInt8} (hl : l.length ≤ 2000) : (∃ out : List Cel, rm l ⟨[], 0, 0, false, true⟩ = (out, 0) ∧ textT out = (bodyT out, 0) ∧ rm (bodyT out) ⟨[], 0, 0, false, true⟩ = (out, 0) ∧ (bodyT out).length ≤ l.length + 1) ∨ rm l ⟨[], 0, 0, false, true⟩ = ([], 15) := by
  rcases rm_good l 0 _ _ RQ.start (by omega) with ⟨h1, h2, h3, h4⟩ | h
  · left
    obtain ⟨out, e⟩ : ∃ out, out = (rm l ⟨[], 0, 0, false, true⟩).1 := ⟨_, rfl⟩
    rw [← e] at h2 h3 h4
    have hb : (bodyT out).length ≤ l.length + 1 := by
      rw [body_len, foldT_top (topC out) 0]
      split <;> omega
    refine ⟨out, Prod.ext e.symm h1, text_ok h2 h3 (by omega), text_back h2 h3, hb⟩
  · exact .inr h
end Go.Proofs.YtblfeaapjloppaaDoor
