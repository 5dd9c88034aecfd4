/-
  Reading a drawing of a box gives the cells of the box, moved to its corner. Plain.
-/
import Derived.Test.YtblfeaapjloppaaDoorDrw
import Derived.Test.YtblfeaapjloppaaDoorRet2
namespace Go.Proofs.YtblfeaapjloppaaDoor
open Go.RowKit
set_option maxRecDepth 100000
set_option linter.unusedVariables false
set_option linter.unusedSimpArgs false

/-- a cell's place in rows of m -/
def keyC (m : Nat) (c : Cel) : Int := c.y * (m : Int) + c.x
theorem sorted_eq {m : Nat} : ∀ (l1 l2 : List Cel), l1.Pairwise (fun a b => keyC m a < keyC m b) → l2.Pairwise (fun a b => keyC m a < keyC m b) → (∀ c, c ∈ l1 ↔ c ∈ l2) → l1 = l2
  | [], [], _, _, _ => rfl
  | [], b :: l2, _, _, h => absurd ((h b).2 List.mem_cons_self) (by simp)
  | a :: l1, [], _, _, h => absurd ((h a).1 List.mem_cons_self) (by simp)
  | a :: l1, b :: l2, h1, h2, h => by
    rw [List.pairwise_cons] at h1 h2
    have hab : a = b := by
      rcases List.mem_cons.1 ((h a).1 List.mem_cons_self) with e | ha
      · exact e
      · rcases List.mem_cons.1 ((h b).2 List.mem_cons_self) with e | hb
        · exact e.symm
        · have := h1.1 b hb
          have := h2.1 a ha
          omega
    subst hab
    rw [sorted_eq l1 l2 h1.2 h2.2 fun c => ?_]
    constructor
    · intro hc
      rcases List.mem_cons.1 ((h c).1 (List.mem_cons_of_mem _ hc)) with e | h'
      · subst e
        have := h1.1 c hc
        omega
      · exact h'
    · intro hc
      rcases List.mem_cons.1 ((h c).2 (List.mem_cons_of_mem _ hc)) with e | h'
      · subst e
        have := h2.1 c hc
        omega
      · exact h'
theorem bef_trans {a b c : Cel} (h1 : befB a b = true) (h2 : befB b c = true) : befB a c = true := by
  unfold befB at *
  simp only [Bool.or_eq_true, Bool.and_eq_true, decide_eq_true_eq, beq_iff_eq] at *
  omega
theorem chain_pw : ∀ (l : List Cel) (p : Option Cel), chainB p l = true → l.Pairwise (fun a b => befB a b = true) ∧ ∀ q, p = some q → ∀ c ∈ l, befB q c = true
  | [], _, _ => ⟨List.Pairwise.nil, fun _ _ c hc => by cases hc⟩
  | a :: l, p, h => by
    rw [chainB, Bool.and_eq_true] at h
    obtain ⟨h1, h2⟩ := chain_pw l (some a) h.2
    have hq : ∀ q, p = some q → befB q a = true := by
      rintro q rfl
      have h3 := h.1
      unfold okB at h3
      rw [Bool.and_eq_true] at h3
      exact h3.2
    refine ⟨List.pairwise_cons.2 ⟨fun c hc => h2 a rfl c hc, h1⟩, fun q e c hc => ?_⟩
    rcases List.mem_cons.1 hc with rfl | hc
    · exact hq q e
    · exact bef_trans (hq q e) (h2 a rfl c hc)
/-- the cell that a byte of a drawing makes -/
def cellAt (g : List UInt8) (m i : Nat) : Option Cel := match g[i]? with
  | some c => if 0 < st31 c then some ⟨((i % m : Nat) : Int), ((i / m : Nat) : Int), st31 c⟩ else none
  | none => none
theorem cellAt_key {g : List UInt8} {m i : Nat} {c : Cel} (h : cellAt g m i = some c) : keyC m c = i := by
  unfold cellAt at h
  split at h
  · split at h
    · injection h with h
      subst h
      unfold keyC
      dsimp only
      rw [← Int.natCast_mul, ← Int.natCast_add, Nat.mul_comm, Nat.div_add_mod]
    · cases h
  · cases h
/-- a drawing of rows of w bytes, each with a line feed -/
structure GridOK (g : List UInt8) (w h : Nat) : Prop where
  len : g.length = h * (w + 1)
  nl : ∀ r, r < h → g[r * (w + 1) + w]? = some 10
  st : ∀ r j, r < h → j < w → ∃ c, g[r * (w + 1) + j]? = some c ∧ 0 ≤ st31 c ∧ c ≠ 10 ∧ c ≠ 33
theorem in_grid {w h r j : Nat} (hr : r < h) (hj : j ≤ w) : r * (w + 1) + j < h * (w + 1) := by
  have h1 : (r + 1) * (w + 1) ≤ h * (w + 1) := Nat.mul_le_mul_right _ hr
  rw [Nat.succ_mul] at h1
  omega
theorem rm_grid {g : List UInt8} {w h : Nat} (hg : GridOK g w h) : ∀ k, k ≤ h * (w + 1) → ∃ r j b, k = r * (w + 1) + j ∧ j ≤ w ∧
    rm g ⟨[], 0, 0, false, true⟩ = rm (g.drop k) ⟨(List.range k).filterMap (cellAt g (w + 1)), j, r, false, b⟩
  | 0, _ => ⟨0, 0, true, by simp, Nat.zero_le _, rfl⟩
  | k + 1, hk => by
    obtain ⟨r, j, b, e, hj, hr⟩ := rm_grid hg k (Nat.le_of_succ_le hk)
    have hlt : k < g.length := by rw [hg.len]; exact hk
    have hrh : r < h := by
      rcases Nat.lt_or_ge r h with h1 | h1
      · exact h1
      · have h2 : h * (w + 1) ≤ r * (w + 1) := Nat.mul_le_mul_right _ h1
        omega
    have hdr : g.drop k = g[k] :: g.drop (k + 1) := List.drop_eq_getElem_cons hlt
    have hdiv : k / (w + 1) = r := by rw [e, Nat.mul_comm, Nat.mul_add_div (by omega), Nat.div_eq_of_lt (by omega), Nat.add_zero]
    have hmod : k % (w + 1) = j := by rw [e, Nat.mul_comm, Nat.mul_add_mod, Nat.mod_eq_of_lt (by omega)]
    have hca : cellAt g (w + 1) k = if 0 < st31 g[k] then some ⟨(j : Int), (r : Int), st31 g[k]⟩ else none := by
      unfold cellAt
      rw [List.getElem?_eq_getElem hlt, hdiv, hmod]
    rw [List.range_succ, List.filterMap_append, hr, hdr]
    by_cases hjw : j = w
    · subst hjw
      have h10 : g[k] = 10 := by
        have h1 := hg.nl r hrh
        rw [← e, List.getElem?_eq_getElem hlt] at h1
        exact Option.some.inj h1
      refine ⟨r + 1, 0, true, by rw [e, Nat.succ_mul]; omega, Nat.zero_le _, ?_⟩
      rw [rm, if_pos h10]
      dsimp only
      rw [if_neg (by decide : ¬ false = true)]
      have : List.filterMap (cellAt g (j + 1)) [k] = [] := by
        rw [List.filterMap_cons, hca, h10]
        rfl
      rw [this, List.append_nil]
      rfl
    · obtain ⟨c, hc, hs, hn, h33⟩ := hg.st r j hrh (by omega)
      have hck : g[k] = c := by
        rw [← e, List.getElem?_eq_getElem hlt] at hc
        exact Option.some.inj hc
      refine ⟨r, j + 1, false, by omega, by omega, ?_⟩
      rw [rm, hck, if_neg hn, if_neg (fun h => h.elim (fun h => by cases h) (fun h => h33 h.2)), if_neg (by omega)]
      have : List.filterMap (cellAt g (w + 1)) [k] = if 0 < st31 c then [⟨(j : Int), (r : Int), st31 c⟩] else [] := by
        rw [hck] at hca
        by_cases hp : 0 < st31 c
        · rw [if_pos hp] at hca ⊢
          simp [List.filterMap_cons, hca]
        · rw [if_neg hp] at hca ⊢
          simp [List.filterMap_cons, hca]
      rw [this]
      dsimp only
      congr 2
      split <;> simp
theorem rm_grid_end {g : List UInt8} {w h : Nat} (hg : GridOK g w h) (hs : h * (w + 1) ≤ 5000) : rm g ⟨[], 0, 0, false, true⟩ = ((List.range g.length).filterMap (cellAt g (w + 1)), 0) := by
  obtain ⟨r, j, b, -, -, h1⟩ := rm_grid hg (h * (w + 1)) (Nat.le_refl _)
  have hl : ((List.range (h * (w + 1))).filterMap (cellAt g (w + 1))).length ≤ h * (w + 1) := by
    have := List.length_filterMap_le (cellAt g (w + 1)) (List.range (h * (w + 1)))
    rwa [List.length_range] at this
  rw [h1, ← hg.len, List.drop_length, rm, if_neg (by show ¬ 5000 < (List.filterMap _ (List.range g.length)).length; rw [hg.len]; omega)]
theorem range_pw {g : List UInt8} {m n : Nat} : ((List.range n).filterMap (cellAt g m)).Pairwise (fun a b => keyC m a < keyC m b) := by
  refine List.Pairwise.filterMap (cellAt g m) (R := (· < ·)) (fun a a' hlt b hb b' hb' => ?_) List.pairwise_lt_range
  rw [cellAt_key hb, cellAt_key hb']
  omega
/-- where a cell of the box lies in its drawing -/
def idxN (b : Bx) (c : Cel) : Nat := ((c.y - b.y) * (b.w + 1) + c.x - b.x).toNat
theorem puts_out (top : Int) (b : Bx) : ∀ (ps : List Cel) (g : List UInt8) (i : Nat), (∀ c ∈ ps, inX b c.x c.y = true → idxN b c ≠ i) → (ps.foldl (putG top b) g)[i]? = g[i]?
  | [], g, i, _ => rfl
  | a :: ps, g, i, h => by
    rw [List.foldl_cons, puts_out top b ps _ i fun c hc => h c (List.mem_cons_of_mem _ hc)]
    unfold putG
    by_cases hi : inX b a.x a.y = true
    · rw [if_pos hi]
      exact List.getElem?_set_ne (h a List.mem_cons_self hi)
    · rw [if_neg hi]
theorem puts_in (top : Int) (b : Bx) : ∀ (ps : List Cel) (g : List UInt8), ps.Pairwise (fun a c => inX b a.x a.y = true → inX b c.x c.y = true → idxN b a ≠ idxN b c) → ∀ c ∈ ps, inX b c.x c.y = true → idxN b c < g.length → (ps.foldl (putG top b) g)[idxN b c]? = some (chB top c.s)
  | [], g, _, c, hc, _, _ => by cases hc
  | a :: ps, g, hp, c, hc, hi, hl => by
    rw [List.pairwise_cons] at hp
    rw [List.foldl_cons]
    rcases List.mem_cons.1 hc with rfl | hc
    · rw [puts_out top b ps _ _ fun d hd hdi => fun e => hp.1 d hd hi hdi e.symm]
      unfold putG
      rw [if_pos hi]
      exact List.getElem?_set_self hl
    · exact puts_in top b ps _ hp.2 c hc hi (by rw [put_len]; exact hl)
/-- the cells of the box, moved -/
def cutC (ps : List Cel) (b : Bx) : List Cel := ps.filter fun c => inX b c.x c.y
def movC (dx dy : Int) (ps : List Cel) : List Cel := ps.map fun c => ⟨c.x + dx, c.y + dy, c.s⟩
theorem key_mov {b : Bx} (hw : 0 ≤ b.w) {c : Cel} (hi : inX b c.x c.y = true) : keyC (b.w.toNat + 1) ⟨c.x + -b.x, c.y + -b.y, c.s⟩ = idxN b c := by
  have h := (idx_bd hw hi).1
  unfold keyC idxN
  dsimp only
  rw [Int.toNat_of_nonneg h]
  have e : ((b.w.toNat + 1 : Nat) : Int) = b.w + 1 := by omega
  rw [e, show c.y + -b.y = c.y - b.y by omega]
  omega
theorem key_lt {b : Bx} {a c : Cel} (hw : 0 ≤ b.w) (ha : inX b a.x a.y = true) (hc : inX b c.x c.y = true) (h : befB a c = true) : (idxN b a : Int) < idxN b c := by
  have h1 := idx_bd hw ha
  have h2 := idx_bd hw hc
  obtain ⟨a1, a2, a3, a4⟩ := inX_bd ha
  obtain ⟨c1, c2, c3, c4⟩ := inX_bd hc
  unfold idxN
  rw [Int.toNat_of_nonneg h1.1, Int.toNat_of_nonneg h2.1]
  unfold befB at h
  simp only [Bool.or_eq_true, Bool.and_eq_true, decide_eq_true_eq, beq_iff_eq] at h
  rcases h with h | ⟨h, h'⟩
  · have e1 : (a.y - b.y + 1) * (b.w + 1) ≤ (c.y - b.y) * (b.w + 1) := Int.mul_le_mul_of_nonneg_right (by omega) (by omega)
    rw [Int.add_mul, Int.one_mul] at e1
    omega
  · rw [h]
    omega
theorem rep_get (l : List UInt8) : ∀ (h r j : Nat), r < h → j < l.length → (Lib.repeatL l h)[r * l.length + j]? = l[j]?
  | 0, r, j, hr, _ => by omega
  | h + 1, 0, j, _, hj => by
    show (l ++ Lib.repeatL l h)[_]? = _
    rw [Nat.zero_mul, Nat.zero_add, List.getElem?_append_left hj]
  | h + 1, r + 1, j, hr, hj => by
    show (l ++ Lib.repeatL l h)[_]? = _
    rw [List.getElem?_append_right (by rw [Nat.succ_mul]; omega), show (r + 1) * l.length + j - l.length = r * l.length + j by rw [Nat.succ_mul]; omega]
    exact rep_get l h r j (by omega) hj
end Go.Proofs.YtblfeaapjloppaaDoor
