/-
  The text of a pattern reads back as the pattern moved home. Plain.
-/
import Derived.Test.YtekmldneinnmoaaDoorHdrP
namespace Go.Proofs.YtekmldneinnmoaaDoor
open Go.RowKit
set_option maxRecDepth 100000
set_option linter.unusedVariables false
set_option linter.unusedSimpArgs false

/-- a run, with no limits -/
def ex (s : PS) (r : Int × Int) : PS := if r.2 < 0 then ⟨s.out, 0, s.y + r.1⟩ else if 0 < r.2 then ⟨s.out ++ cellsP s.x s.y r.1.toNat r.2, s.x + r.1, s.y⟩ else ⟨s.out, s.x + r.1, s.y⟩
def exL (s : PS) (l : List (Int × Int)) : PS := l.foldl ex s
def mv (bx y0 : Int) (c : Cel) : Cel := ⟨c.x - bx, c.y - y0, c.s⟩
theorem exL_snoc (s : PS) (l : List (Int × Int)) (r : Int × Int) : exL s (l ++ [r]) = ex (exL s l) r := by unfold exL; rw [List.foldl_append]; rfl
theorem exL_bump {s : PS} {l : List (Int × Int)} {m k : Int} (h : l.getLast? = some (m, k)) (hk : 0 < k) (hm : 0 ≤ m) : exL s (bump l) = ⟨(exL s l).out ++ [⟨(exL s l).x, (exL s l).y, k⟩], (exL s l).x + 1, (exL s l).y⟩ := by
  obtain ⟨l0, rfl⟩ := List.getLast?_eq_some_iff.1 h
  unfold bump
  rw [h]
  dsimp only
  rw [List.dropLast_concat, exL_snoc, exL_snoc]
  unfold ex
  dsimp only
  rw [if_neg (by omega), if_pos hk, if_neg (by omega), if_pos hk]
  dsimp only
  rw [show (m + 1).toNat = m.toNat + 1 by omega, cellsP_snoc, show ((m.toNat : Nat) : Int) = m by omega]
  simp
  omega
theorem ex_line {bx y0 : Int} {t : RS} {c : Cel} {o : List Cel} (h : exL ps0 t.out = ⟨o, t.x - bx, t.y - y0⟩) (hy : t.y ≤ c.y) : exL ps0 (lineE bx t c).out = ⟨o, (lineE bx t c).x - bx, c.y - y0⟩ ∧ (lineE bx t c).y = c.y := by
  unfold lineE
  split
  · refine ⟨?_, rfl⟩
    dsimp only
    rw [exL_snoc, h]
    unfold ex
    dsimp only
    rw [if_pos (by omega)]
    simp only [PS.mk.injEq, true_and]
    omega
  · have he : t.y = c.y := by omega
    rw [← he]
    exact ⟨h, rfl⟩
theorem ex_gap {bx y1 : Int} {t : RS} {c : Cel} {o : List Cel} (h : exL ps0 t.out = ⟨o, t.x - bx, y1⟩) (hx : t.x ≤ c.x) : exL ps0 (gapE t c).out = ⟨o, c.x - bx, y1⟩ := by
  unfold gapE
  split
  · dsimp only
    rw [exL_snoc, h]
    unfold ex
    dsimp only
    rw [if_neg (by omega), if_neg (by omega)]
    simp only [PS.mk.injEq, true_and, and_true]
    omega
  · have he : t.x = c.x := by omega
    rw [← he]
    exact h
theorem gap_out {t : RS} {c : Cel} {k : Nat} (ht : ∀ r ∈ t.out, 1 ≤ r.2 → 0 ≤ r.1) : ∀ r ∈ (gapE t c).out, 1 ≤ r.2 → 0 ≤ r.1 := by
  unfold gapE
  split
  · intro r hr h1
    simp only [List.mem_append, List.mem_singleton] at hr
    rcases hr with hr | rfl
    · exact ht r hr h1
    · dsimp only at h1; omega
  · exact ht
theorem line_out {bx : Int} {t : RS} {c : Cel} (ht : ∀ r ∈ t.out, 1 ≤ r.2 → 0 ≤ r.1) : ∀ r ∈ (lineE bx t c).out, 1 ≤ r.2 → 0 ≤ r.1 := by
  unfold lineE
  split
  · intro r hr h1
    simp only [List.mem_append, List.mem_singleton] at hr
    rcases hr with hr | rfl
    · exact ht r hr h1
    · dsimp only at h1; omega
  · exact ht
theorem ex_step {bx y0 : Int} {t : RS} {c : Cel} {o : List Cel} (h : exL ps0 t.out = ⟨o, t.x - bx, t.y - y0⟩) (hy : t.y ≤ c.y) (hx : (lineE bx t c).x ≤ c.x) (hs : 1 ≤ c.s) (ht : ∀ r ∈ t.out, 1 ≤ r.2 → 0 ≤ r.1) :
    exL ps0 (stepR bx t c).out = ⟨o ++ [mv bx y0 c], (stepR bx t c).x - bx, (stepR bx t c).y - y0⟩ := by
  obtain ⟨h1, h2⟩ := ex_line h hy
  have h3 := ex_gap (y1 := c.y - y0) h1 hx
  have h4 := gap_out (k := 0) (c := c) (line_out (bx := bx) (c := c) ht)
  show exL ps0 (if incs (gapE (lineE bx t c) c) (lineE bx t c).x c = true then bump (gapE (lineE bx t c) c).out else (gapE (lineE bx t c) c).out ++ [(1, c.s)]) = ⟨o ++ [mv bx y0 c], c.x + 1 - bx, (lineE bx t c).y - y0⟩
  rw [h2]
  split
  · rename_i hi
    unfold incs at hi
    split at hi
    · cases hi
    · rename_i r hr
      simp only [Bool.and_eq_true, decide_eq_true_eq] at hi
      obtain ⟨m, k⟩ := r
      dsimp only at hi
      have hk : k = c.s := hi.2
      subst hk
      rw [exL_bump hr (by omega) (h4 _ (List.mem_of_getLast? hr) hs), h3]
      unfold mv
      simp only [PS.mk.injEq, true_and, and_true]
      omega
  · rw [exL_snoc, h3]
    unfold ex
    dsimp only
    rw [if_neg (by omega), if_pos (by omega)]
    unfold mv cellsP
    simp only [PS.mk.injEq]
    refine ⟨?_, by omega, trivial⟩
    rw [show (1 : Int).toNat = 1 from rfl]
    simp [List.range, List.range.loop]
theorem lo_le {f : Cel → Int} {ps : List Cel} : ∀ k j, (h : j < k) → (hk : k ≤ ps.length) → lo f ps k ≤ f (ps[j]'(by omega)) := by
  intro k
  induction k with
  | zero => intro j h; omega
  | succ k ih =>
    intro j h hk
    rw [lo_snoc f (by omega)]
    by_cases hj : j = k
    · subst hj; omega
    · have := ih j (by omega) (by omega)
      omega
theorem run_ex {ps : List Cel} (hb : (boxC ps).2 = true) : ∀ k, k ≤ ps.length → exL ps0 (runsSt (boxC ps).1.x (boxC ps).1.y ps k).out = ⟨(ps.take k).map (mv (boxC ps).1.x (boxC ps).1.y), (runsSt (boxC ps).1.x (boxC ps).1.y ps k).x - (boxC ps).1.x, (runsSt (boxC ps).1.x (boxC ps).1.y ps k).y - (boxC ps).1.y⟩ := by
  have bd := box_bd hb
  have hp := right_bd bd.1
  have hok := runs_ok (ps := ps) hp bd.2.2.1 bd.2.2.2
  have hch : chainB none ps = true := by have h := bd.1; unfold rightC at h; simp only [Bool.and_eq_true] at h; exact h.2
  have hlo : ∀ c ∈ ps, (boxC ps).1.x ≤ c.x := by
    intro c hc
    obtain ⟨j, hj, rfl⟩ := List.mem_iff_getElem.1 hc
    have : (boxC ps).1.x = lo (·.x) ps ps.length := by unfold boxC; rw [if_pos ⟨bd.2.1, bd.1⟩]
    rw [this]
    exact lo_le (f := (·.x)) ps.length j hj (Nat.le_refl _)
  have hy0 : (boxC ps).1.y = (hdC ps).y := box_hd hb
  intro k
  induction k with
  | zero => intro _; show (⟨[], 0, 0⟩ : PS) = ⟨[], _ - _, _ - _⟩; simp only [PS.mk.injEq, true_and]; exact ⟨by show (0 : Int) = (boxC ps).1.x - (boxC ps).1.x; omega, by show (0 : Int) = (boxC ps).1.y - (boxC ps).1.y; omega⟩
  | succ k ih =>
    intro hk
    have hl := runs_last (bx := (boxC ps).1.x) bd.1 k (by omega)
    rw [← hy0] at hl
    have hc := hp ps[k] (List.getElem_mem (by omega))
    have hx : (lineE (boxC ps).1.x (runsSt (boxC ps).1.x (boxC ps).1.y ps k) ps[k]).x ≤ ps[k].x := by
      unfold lineE
      split
      · exact hlo _ (List.getElem_mem (by omega))
      · rename_i hn
        cases k with
        | zero => exact hlo _ (List.getElem_mem (by omega))
        | succ j =>
          have h2 := (runs_last (bx := (boxC ps).1.x) bd.1 j (by omega)).2
          rw [← hy0] at h2
          have h3 := bef_y (chain_at hch j (by omega))
          have h4 := hl.1
          rw [h2.1]
          rw [h2.2.1] at hn h4
          have := h3.2 (by omega)
          omega
    have hr := (hok k (by omega)).c
    rw [runs_snoc _ _ (by omega), ex_step (ih (by omega)) hl.1 hx hc.2.2.1 (fun r h1 h2 => (hr r h1 h2).1), List.take_succ_eq_append_getElem (by omega), List.map_append]
    rfl
theorem runs_home {ps : List Cel} (hb : (boxC ps).2 = true) : (exL ps0 (runsL ps)).out = ps.map (mv (boxC ps).1.x (boxC ps).1.y) := by
  unfold runsL
  rw [if_pos hb, run_ex hb ps.length (Nat.le_refl _), List.take_length]
/-- with limits -/
theorem ex_grow : ∀ (l : List (Int × Int)) (s : PS), ∃ t, (exL s l).out = s.out ++ t
  | [], s => ⟨[], by simp [exL]⟩
  | r :: l, s => by
    obtain ⟨t, ht⟩ := ex_grow l (ex s r)
    have h1 : ∃ t, (ex s r).out = s.out ++ t := by
      unfold ex
      split
      · exact ⟨[], by simp⟩
      · split
        · exact ⟨_, rfl⟩
        · exact ⟨[], by simp⟩
    obtain ⟨t1, h1⟩ := h1
    refine ⟨t1 ++ t, ?_⟩
    show (exL (ex s r) l).out = _
    rw [ht, h1, List.append_assoc]
theorem ex_ok {w h : Int} {s : PS} {r : Int × Int} {l : List (Int × Int)} (h1 : 1 ≤ r.1) (hin : ∀ c ∈ (exL s (r :: l)).out, c.x < w ∧ c.y < h) (hn : (exL s (r :: l)).out.length ≤ 5000) : stepP w h s r.2 r.1 = (ex s r, 0) := by
  obtain ⟨n, k⟩ := r
  dsimp only at *
  by_cases k0 : k < 0
  · rw [st_line k0]; unfold ex; rw [if_pos k0]
  · by_cases k1 : 0 < k
    · have he : ex s (n, k) = ⟨s.out ++ cellsP s.x s.y n.toNat k, s.x + n, s.y⟩ := by unfold ex; rw [if_neg k0, if_pos k1]
      obtain ⟨t, ht⟩ := ex_grow l (ex s (n, k))
      have ht2 : (exL s ((n, k) :: l)).out = s.out ++ cellsP s.x s.y n.toNat k ++ t := by show (exL (ex s (n, k)) l).out = _; rw [ht, he]
      rw [ht2] at hin hn
      have hm : (⟨s.x + ((n.toNat - 1 : Nat) : Int), s.y, k⟩ : Cel) ∈ s.out ++ cellsP s.x s.y n.toNat k ++ t := by
        refine List.mem_append_left _ (List.mem_append_right _ ?_)
        unfold cellsP
        rw [List.mem_map]
        exact ⟨n.toNat - 1, List.mem_range.2 (by omega), rfl⟩
      have h2 := hin _ hm
      dsimp only at h2
      rw [List.length_append, List.length_append, cellsP_len] at hn
      rw [st_push k1 (by omega) (by omega), he]
    · rw [st_gap (by omega)]; unfold ex; rw [if_neg k0, if_neg k1]
/-- numbers -/
theorem dec_dig : ∀ n : Nat, ∀ c ∈ Lib.decDigits n, isDig c = true := by
  intro n
  induction n using Nat.strongRecOn with
  | ind n ih =>
    by_cases h : n < 10
    · rw [dec_small h]
      intro c hc
      rw [List.mem_singleton] at hc
      subst hc
      have : n = 0 ∨ n = 1 ∨ n = 2 ∨ n = 3 ∨ n = 4 ∨ n = 5 ∨ n = 6 ∨ n = 7 ∨ n = 8 ∨ n = 9 := by omega
      rcases this with rfl | rfl | rfl | rfl | rfl | rfl | rfl | rfl | rfl | rfl <;> decide
    · rw [dec_big h]
      intro c hc
      rw [List.mem_append] at hc
      rcases hc with hc | hc
      · exact ih _ (by omega) c hc
      · exact ih _ (by omega) c hc
theorem numF_app (a b : List UInt8) : numL (a ++ b) = b.foldl (fun n c => 10 * n + digOf c) (numL a) := by unfold numL; rw [List.foldl_append]
theorem dec_one {n : Nat} (h : n < 10) : digOf (UInt8.ofNat (48 + n)) = n := by
  have : n = 0 ∨ n = 1 ∨ n = 2 ∨ n = 3 ∨ n = 4 ∨ n = 5 ∨ n = 6 ∨ n = 7 ∨ n = 8 ∨ n = 9 := by omega
  rcases this with rfl | rfl | rfl | rfl | rfl | rfl | rfl | rfl | rfl | rfl <;> decide
theorem dec_num : ∀ n : Nat, numL (Lib.decDigits n) = n := by
  intro n
  induction n using Nat.strongRecOn with
  | ind n ih =>
    by_cases h : n < 10
    · rw [dec_small h]
      show 10 * 0 + digOf (UInt8.ofNat (48 + n)) = n
      rw [dec_one h]; omega
    · rw [dec_big h, dec_small (n := n % 10) (by omega), numL_snoc, ih _ (by omega), dec_one (by omega)]
      omega
theorem dec_ne (n : Nat) : Lib.decDigits n ≠ [] := by
  by_cases h : n < 10
  · rw [dec_small h]; simp
  · rw [dec_big h, dec_small (n := n % 10) (by omega)]; simp
theorem dec_head : ∀ n : Nat, 1 ≤ n → (Lib.decDigits n).headD 0 ≠ 48 := by
  intro n
  induction n using Nat.strongRecOn with
  | ind n ih =>
    intro h1
    by_cases h : n < 10
    · rw [dec_small h]
      have : n = 1 ∨ n = 2 ∨ n = 3 ∨ n = 4 ∨ n = 5 ∨ n = 6 ∨ n = 7 ∨ n = 8 ∨ n = 9 := by omega
      rcases this with rfl | rfl | rfl | rfl | rfl | rfl | rfl | rfl | rfl <;> decide
    · have h2 := ih (n / 10) (by omega) (by omega)
      rw [dec_big h]
      cases hd : Lib.decDigits (n / 10) with
      | nil => exact absurd hd (dec_ne _)
      | cons a l => rw [hd] at h2; exact h2
/-- an item is read as its run -/
theorem let_read {k : Int} {two : Bool} (h0 : -1 ≤ k) (h1 : k ≤ 7) (h2 : two = true → k ≤ 1) : ∃ c, letC k two = [c] ∧ isDig c = false ∧ (¬ (c = 32 ∨ c = 10) ∧ ¬ c = 33) ∧ stateC c.toNat = k := by
  have hk : k = -1 ∨ k = 0 ∨ k = 1 ∨ k = 2 ∨ k = 3 ∨ k = 4 ∨ k = 5 ∨ k = 6 ∨ k = 7 := by omega
  cases two
  · rcases hk with rfl | rfl | rfl | rfl | rfl | rfl | rfl | rfl | rfl
    · exact ⟨36, by decide, by decide, by decide, by decide⟩
    · exact ⟨46, by decide, by decide, by decide, by decide⟩
    · exact ⟨65, by decide, by decide, by decide, by decide⟩
    · exact ⟨66, by decide, by decide, by decide, by decide⟩
    · exact ⟨67, by decide, by decide, by decide, by decide⟩
    · exact ⟨68, by decide, by decide, by decide, by decide⟩
    · exact ⟨69, by decide, by decide, by decide, by decide⟩
    · exact ⟨70, by decide, by decide, by decide, by decide⟩
    · exact ⟨71, by decide, by decide, by decide, by decide⟩
  · have h3 := h2 rfl
    have hk : k = -1 ∨ k = 0 ∨ k = 1 := by omega
    rcases hk with rfl | rfl | rfl
    · exact ⟨36, by decide, by decide, by decide, by decide⟩
    · exact ⟨98, by decide, by decide, by decide, by decide⟩
    · exact ⟨111, by decide, by decide, by decide, by decide⟩
theorem item_read {w h : Int} {s q : PS} {n k : Int} {two : Bool} {r : List UInt8} (h0 : -1 ≤ k) (h1 : k ≤ 7) (h2 : two = true → k ≤ 1) (hn : 1 ≤ n) (hn2 : n < 10000000) (hs : stepP w h s k n = (q, 0)) :
    readM w h (itemC two (n, k) ++ r) [] s = readM w h r [] q := by
  obtain ⟨c, hc, hd, hb, hk⟩ := let_read h0 h1 h2
  unfold itemC
  dsimp only
  rw [hc]
  have hk2 : ¬ stateC c.toNat = -2 := by rw [hk]; omega
  by_cases h1n : 1 < n
  · rw [if_pos h1n, show n = ((n.toNat : Nat) : Int) by omega, itoa_nat]
    obtain ⟨m, hm⟩ : ∃ m, m = n.toNat := ⟨_, rfl⟩
    rw [← hm]
    have hmn : (m : Int) = n := by omega
    rw [List.append_assoc, rd_run w h s (Lib.decDigits m) ([c] ++ r) [] (dec_dig m) (by simpa using dec_ne m) (by simpa using dec_head m (by omega)) (by simpa using dec_len1 (k := 7) (by omega) m (by omega))]
    rw [List.nil_append]
    have hrn : runN (Lib.decDigits m) = n := by unfold runN; rw [if_neg (dec_ne m), dec_num, hmn]
    show readM w h (c :: r) _ s = _
    rw [rd_step hd (fun hh => absurd hh (dec_ne m)) hk2 (by rw [hk, hrn, hs]), hk, hrn, hs]
  · have hn1 : n = 1 := by omega
    subst hn1
    rw [if_neg h1n]
    show readM w h (c :: r) [] s = _
    have hrn : runN [] = 1 := rfl
    rw [rd_step hd (fun _ => hb) hk2 (by rw [hk, hrn, hs]), hk, hrn, hs]
end Go.Proofs.YtekmldneinnmoaaDoor
