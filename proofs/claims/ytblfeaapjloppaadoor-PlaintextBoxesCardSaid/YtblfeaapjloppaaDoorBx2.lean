/-
  Reading a drawing of a box gives the cells of the box, moved to its corner. Plain.
-/
import Derived.Test.YtblfeaapjloppaaDoorBx
namespace Go.Proofs.YtblfeaapjloppaaDoor
open Go.RowKit
set_option maxRecDepth 100000
set_option linter.unusedVariables false
set_option linter.unusedSimpArgs false

theorem idx_rc {b : Bx} (hw : 0 ≤ b.w) (hh : 0 ≤ b.h) {c : Cel} (hi : inX b c.x c.y = true) : idxN b c = (c.y - b.y).toNat * (b.w.toNat + 1) + (c.x - b.x).toNat ∧ (c.y - b.y).toNat < b.h.toNat ∧ (c.x - b.x).toNat < b.w.toNat := by
  obtain ⟨h1, h2, h3, h4⟩ := inX_bd hi
  have h5 := (idx_bd hw hi).1
  refine ⟨?_, by omega, by omega⟩
  have e : ((idxN b c : Nat) : Int) = (((c.y - b.y).toNat * (b.w.toNat + 1) + (c.x - b.x).toNat : Nat) : Int) := by
    unfold idxN
    rw [Int.toNat_of_nonneg h5, Int.natCast_add, Int.natCast_mul, Int.toNat_of_nonneg (by omega), Int.toNat_of_nonneg (by omega), Int.natCast_add, Int.toNat_of_nonneg hw]
    show _ = (c.y - b.y) * (b.w + 1) + (c.x - b.x)
    omega
  exact Int.ofNat.inj e
theorem rc_inj {m r r' j j' : Nat} (hj : j < m) (hj' : j' < m) (h : r * m + j = r' * m + j') : r = r' ∧ j = j' := by
  rcases Nat.lt_trichotomy r r' with h1 | h1 | h1
  · have := Nat.mul_le_mul_right m h1
    rw [Nat.succ_mul] at this
    omega
  · subst h1
    exact ⟨rfl, by omega⟩
  · have := Nat.mul_le_mul_right m h1
    rw [Nat.succ_mul] at this
    omega
theorem put_ok {g : List UInt8} {b : Bx} (hw : 0 ≤ b.w) (hh : 0 ≤ b.h) (hg : GridOK g b.w.toNat b.h.toNat) {top : Int} (ht : top ≤ 7) {c : Cel} (h1 : 1 ≤ c.s) (h2 : c.s ≤ top) : GridOK (putG top b g c) b.w.toNat b.h.toNat := by
  unfold putG
  by_cases hi : inX b c.x c.y = true
  · rw [if_pos hi]
    obtain ⟨e, hr, hj⟩ := idx_rc hw hh hi
    have hch := ch_st h1 h2 ht
    show GridOK (g.set (idxN b c) (chB top c.s)) _ _
    refine ⟨by rw [List.length_set]; exact hg.len, fun r hr2 => ?_, fun r j hr2 hj2 => ?_⟩
    · rw [List.getElem?_set_ne]
      · exact hg.nl r hr2
      · intro h
        rw [e] at h
        have := (rc_inj (by omega) (by omega) h).2
        omega
    · by_cases he : idxN b c = r * (b.w.toNat + 1) + j
      · refine ⟨chB top c.s, ?_, by rw [hch.1]; omega, hch.2.1, hch.2.2⟩
        rw [← he]
        refine List.getElem?_set_self ?_
        rw [he, hg.len]
        exact in_grid hr2 (by omega)
      · rw [List.getElem?_set_ne he]
        exact hg.st r j hr2 hj2
  · rw [if_neg hi]
    exact hg
theorem puts_ok {b : Bx} (hw : 0 ≤ b.w) (hh : 0 ≤ b.h) {top : Int} (ht : top ≤ 7) : ∀ (ps : List Cel) (g : List UInt8), (∀ c ∈ ps, 1 ≤ c.s ∧ c.s ≤ top) → GridOK g b.w.toNat b.h.toNat → GridOK (ps.foldl (putG top b) g) b.w.toNat b.h.toNat
  | [], g, _, hg => hg
  | a :: ps, g, h, hg => puts_ok hw hh ht ps _ (fun c hc => h c (List.mem_cons_of_mem _ hc)) (put_ok hw hh hg ht (h a List.mem_cons_self).1 (h a List.mem_cons_self).2)
theorem line_nat (b : Bx) : (lineG b).length = b.w.toNat + 1 := by unfold lineG; simp
theorem grid_ok (b : Bx) : GridOK (gridG b) b.w.toNat b.h.toNat := by
  refine ⟨by unfold gridG; rw [Lib.repeatL_length, line_nat], fun r hr => ?_, fun r j hr hj => ⟨46, ?_, by decide, by decide, by decide⟩⟩
  · have h := rep_get (lineG b) b.h.toNat r b.w.toNat hr (by rw [line_nat]; omega)
    rw [line_nat] at h
    unfold gridG
    rw [h]
    unfold lineG
    rw [List.getElem?_append_right (by simp)]
    simp
  · have h := rep_get (lineG b) b.h.toNat r j hr (by rw [line_nat]; omega)
    rw [line_nat] at h
    unfold gridG
    rw [h]
    unfold lineG
    rw [List.getElem?_append_left (by simpa using hj)]
    simp [hj]
theorem rep_mem {l : List UInt8} {x : UInt8} : ∀ h, x ∈ Lib.repeatL l h → x ∈ l
  | 0, hx => by cases hx
  | h + 1, hx => by
    rcases List.mem_append.1 (show x ∈ l ++ Lib.repeatL l h from hx) with h1 | h1
    · exact h1
    · exact rep_mem h h1
theorem grid_low (b : Bx) {i : Nat} {x : UInt8} (h : (gridG b)[i]? = some x) : st31 x ≤ 0 := by
  have h1 := rep_mem b.h.toNat (List.mem_of_getElem? h)
  unfold lineG at h1
  rcases List.mem_append.1 h1 with h1 | h1
  · rw [(List.mem_replicate.1 h1).2]; decide
  · rw [List.mem_singleton.1 h1]; decide
theorem cellAt_idx {g : List UInt8} {b : Bx} (hw : 0 ≤ b.w) (hh : 0 ≤ b.h) {top : Int} (ht : top ≤ 7) {c : Cel} (hi : inX b c.x c.y = true) (h1 : 1 ≤ c.s) (h2 : c.s ≤ top) (hg : g[idxN b c]? = some (chB top c.s)) :
    cellAt g (b.w.toNat + 1) (idxN b c) = some ⟨c.x + -b.x, c.y + -b.y, c.s⟩ := by
  obtain ⟨e, hr, hj⟩ := idx_rc hw hh hi
  obtain ⟨a1, a2, a3, a4⟩ := inX_bd hi
  have hch := ch_st h1 h2 ht
  have hdiv : idxN b c / (b.w.toNat + 1) = (c.y - b.y).toNat := by rw [e, Nat.mul_comm, Nat.mul_add_div (by omega), Nat.div_eq_of_lt (by omega), Nat.add_zero]
  have hmod : idxN b c % (b.w.toNat + 1) = (c.x - b.x).toNat := by rw [e, Nat.mul_comm, Nat.mul_add_mod, Nat.mod_eq_of_lt (by omega)]
  unfold cellAt
  rw [hg]
  dsimp only
  rw [hch.1, if_pos (by omega), hdiv, hmod, Int.toNat_of_nonneg (by omega), Int.toNat_of_nonneg (by omega)]
  rfl
theorem draw_back {ps : List Cel} {b : Bx} (hr : rightC ps = true) (hX : rightX b = true) (hs : b.w * b.h ≤ 2000) : rm (drawG ps b) ⟨[], 0, 0, false, true⟩ = (movC (-b.x) (-b.y) (cutC ps b), 0) := by
  have hbd := rightX_bd hX
  have hw : 0 ≤ b.w := by omega
  have hh : 0 ≤ b.h := by omega
  have ht := (top_bd hr).2
  have hcs : ∀ c ∈ ps, 1 ≤ c.s ∧ c.s ≤ topC ps := by
    intro c hc
    obtain ⟨k, hk, rfl⟩ := List.getElem_of_mem hc
    exact ⟨(right_cel hr hk).2.2.2.2.1, top_ge hk⟩
  have hG : GridOK (drawG ps b) b.w.toNat b.h.toNat := puts_ok hw hh ht ps _ hcs (grid_ok b)
  have hbw : b.h * 1 ≤ b.w * b.h := by rw [Int.mul_comm b.w b.h]; exact Int.mul_le_mul_of_nonneg_left hbd.1 hh
  have hsz : b.h.toNat * (b.w.toNat + 1) ≤ 5000 := by
    have e : ((b.h.toNat * (b.w.toNat + 1) : Nat) : Int) = b.h * (b.w + 1) := by rw [Int.natCast_mul, Int.natCast_add, Int.toNat_of_nonneg hw, Int.toNat_of_nonneg hh]; rfl
    have e2 : b.h * (b.w + 1) = b.w * b.h + b.h := by rw [Int.mul_add, Int.mul_one, Int.mul_comm b.h b.w]
    omega
  rw [rm_grid_end hG hsz]
  have hpw : ps.Pairwise (fun a c => befB a c = true) := by
    unfold rightC at hr
    rw [Bool.and_eq_true] at hr
    exact (chain_pw ps none hr.2).1
  have hne : ps.Pairwise (fun a c => inX b a.x a.y = true → inX b c.x c.y = true → idxN b a ≠ idxN b c) := hpw.imp fun {a c} h ha hc => by
    have := key_lt hw ha hc h
    omega
  have hil : ∀ c ∈ ps, inX b c.x c.y = true → idxN b c < (gridG b).length := by
    intro c hc hi
    obtain ⟨e, h1, h2⟩ := idx_rc hw hh hi
    rw [e, (grid_ok b).len]
    exact in_grid h1 (by omega)
  have hin : ∀ c ∈ ps, inX b c.x c.y = true → (drawG ps b)[idxN b c]? = some (chB (topC ps) c.s) := fun c hc hi => puts_in (topC ps) b ps (gridG b) hne c hc hi (hil c hc hi)
  refine Prod.ext ?_ rfl
  refine sorted_eq (m := b.w.toNat + 1) _ _ range_pw ?_ ?_
  · unfold movC cutC
    rw [List.pairwise_map, List.pairwise_filter]
    refine hpw.imp fun {a c} h ha hc => ?_
    have e1 := key_mov hw ha
    have e2 := key_mov hw hc
    have e3 := key_lt hw ha hc h
    show keyC (b.w.toNat + 1) ⟨a.x + -b.x, a.y + -b.y, a.s⟩ < keyC (b.w.toNat + 1) ⟨c.x + -b.x, c.y + -b.y, c.s⟩
    omega
  · intro d
    rw [List.mem_filterMap]
    constructor
    · rintro ⟨i, hi, hd⟩
      by_cases hex : ∃ c ∈ ps, inX b c.x c.y = true ∧ idxN b c = i
      · obtain ⟨c, hc, hic, rfl⟩ := hex
        rw [cellAt_idx hw hh ht hic (hcs c hc).1 (hcs c hc).2 (hin c hc hic)] at hd
        injection hd with hd
        unfold movC cutC
        exact List.mem_map.2 ⟨c, List.mem_filter.2 ⟨hc, hic⟩, hd⟩
      · exfalso
        have h1 := puts_out (topC ps) b ps (gridG b) i fun c hc hic h => hex ⟨c, hc, hic, h⟩
        unfold cellAt at hd
        rw [show (drawG ps b)[i]? = (gridG b)[i]? from h1] at hd
        split at hd
        · rename_i x hx
          have := grid_low b hx
          rw [if_neg (by omega)] at hd
          cases hd
        · cases hd
    · intro hd
      unfold movC cutC at hd
      obtain ⟨c, hc, e⟩ := List.mem_map.1 hd
      obtain ⟨hc1, hc2⟩ := List.mem_filter.1 hc
      refine ⟨idxN b c, ?_, ?_⟩
      · rw [List.mem_range, hG.len, ← (grid_ok b).len]
        exact hil c hc1 hc2
      · rw [cellAt_idx hw hh ht hc2 (hcs c hc1).1 (hcs c hc1).2 (hin c hc1 hc2), ← e]
end Go.Proofs.YtblfeaapjloppaaDoor
