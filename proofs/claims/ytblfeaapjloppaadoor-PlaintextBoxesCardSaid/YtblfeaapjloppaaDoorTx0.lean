/-
  What writing a drawing does. Plain.
-/
import Derived.Test.YtblfeaapjloppaaDoorPat3
import Derived.Test.YtblfeaapjloppaaDoorPl31
namespace Go.Proofs.YtblfeaapjloppaaDoor
open Go.RowKit
set_option linter.unusedVariables false
set_option linter.unusedSimpArgs false

theorem chain_get : ∀ (l : List Cel) (p : Option Cel), chainB p l = true → ∀ k (h : k < l.length), okB (if k = 0 then p else l[k - 1]?) l[k] = true
  | [], _, _, k, h => by simp at h
  | c :: l, p, hc, 0, h => by
    simp only [chainB, Bool.and_eq_true] at hc
    exact hc.1
  | c :: l, p, hc, k + 1, h => by
    simp only [chainB, Bool.and_eq_true] at hc
    have := chain_get l (some c) hc.2 k (by simpa using h)
    cases k with
    | zero => exact this
    | succ k => exact this
theorem right_cel {ps : List Cel} (h : rightC ps = true) {k : Nat} (hk : k < ps.length) : -1048576 ≤ ps[k].x ∧ ps[k].x ≤ 1048576 ∧ -1048576 ≤ ps[k].y ∧ ps[k].y ≤ 1048576 ∧ 1 ≤ ps[k].s ∧ ps[k].s < 8 := by
  unfold rightC at h
  rw [Bool.and_eq_true] at h
  have h1 := chain_get ps none h.2 k hk
  unfold okB placeB at h1
  simp only [Bool.and_eq_true, decide_eq_true_eq] at h1
  obtain ⟨⟨⟨⟨⟨⟨a, b⟩, c⟩, d⟩, e⟩, f⟩, g⟩ := h1
  exact ⟨a, b, c, d, e, f⟩
theorem right_ord {ps : List Cel} (h : rightC ps = true) {k : Nat} (hk : k + 1 < ps.length) : ps[k].y < ps[k + 1].y ∨ (ps[k].y = ps[k + 1].y ∧ ps[k].x < ps[k + 1].x) := by
  unfold rightC at h
  rw [Bool.and_eq_true] at h
  have h1 := chain_get ps none h.2 (k + 1) hk
  unfold okB at h1
  rw [if_neg (by omega), Bool.and_eq_true, Nat.add_sub_cancel, List.getElem?_eq_getElem (by omega)] at h1
  have h2 := h1.2
  dsimp only at h2
  unfold befB at h2
  simpa using h2
theorem right_len {ps : List Cel} (h : rightC ps = true) : ps.length ≤ 5000 := by
  unfold rightC at h
  rw [Bool.and_eq_true] at h
  exact of_decide_eq_true h.1
theorem fold_max : ∀ (l : List Cel) (n : Int), n ≤ l.foldl (fun n c => max n c.s) n ∧ ∀ c ∈ l, c.s ≤ l.foldl (fun n c => max n c.s) n
  | [], n => ⟨Int.le_refl _, fun c hc => by cases hc⟩
  | a :: l, n => by
    obtain ⟨h1, h2⟩ := fold_max l (max n a.s)
    refine ⟨Int.le_trans (by omega) h1, fun c hc => ?_⟩
    rcases List.mem_cons.1 hc with rfl | hc
    · exact Int.le_trans (by omega) h1
    · exact h2 c hc
theorem top_ge {ps : List Cel} {k : Nat} (hk : k < ps.length) : ps[k].s ≤ topC ps := (fold_max ps 0).2 _ (List.getElem_mem hk)
theorem top_bd {ps : List Cel} (h : rightC ps = true) : 0 ≤ topC ps ∧ topC ps ≤ 7 := by
  refine ⟨(fold_max ps 0).1, ?_⟩
  have key : ∀ (l : List Cel) (n : Int), n ≤ 7 → (∀ c ∈ l, c.s ≤ 7) → l.foldl (fun n c => max n c.s) n ≤ 7 := by
    intro l
    induction l with
    | nil => intro n hn _; exact hn
    | cons a l ih => intro n hn hl; exact ih _ (by have := hl a List.mem_cons_self; show max n a.s ≤ 7; omega) (fun c hc => hl c (List.mem_cons_of_mem _ hc))
  refine key ps 0 (by omega) fun c hc => ?_
  obtain ⟨k, hk, rfl⟩ := List.getElem_of_mem hc
  have := right_cel h hk
  omega
/-- the byte of a state -/
def chB (top s : Int) : UInt8 := if s = 0 then 46 else if top = 1 then 79 else UInt8.ofNat (48 + s).toNat
structure TS where
  out : List UInt8
  x : Int
  y : Int
def stepT (top : Int) (t : TS) (c : Cel) : TS := ⟨t.out ++ List.replicate (c.y - t.y).toNat 10 ++ List.replicate (c.x - (if t.y < c.y then 0 else t.x)).toNat 46 ++ [chB top c.s], c.x + 1, c.y⟩
def foldT (top : Int) (ps : List Cel) : TS := ps.foldl (stepT top) ⟨[], 0, 0⟩
def negB (c : Cel) : Bool := decide (c.x < 0) || decide (c.y < 0)
def bodyT (ps : List Cel) : List UInt8 := (foldT (topC ps) ps).out ++ (if ps = [] then [] else [10])
def textT (ps : List Cel) : List UInt8 × Int :=
  if rightC ps = false then ([], 2) else if ps.any negB = true then ([], 5) else if 65536 < (bodyT ps).length then ([], 6) else (bodyT ps, 0)
theorem foldT_snoc (top : Int) {ps : List Cel} {k : Nat} (hk : k < ps.length) : foldT top (ps.take (k + 1)) = stepT top (foldT top (ps.take k)) ps[k] := by
  unfold foldT
  rw [List.take_succ_eq_append_getElem hk, List.foldl_append]
  rfl
theorem step_len (top : Int) (t : TS) (c : Cel) : (stepT top t c).out.length = t.out.length + (c.y - t.y).toNat + (c.x - (if t.y < c.y then 0 else t.x)).toNat + 1 := by
  unfold stepT
  simp
  omega
theorem fold_len (top : Int) : ∀ (l : List Cel) (t : TS), t.out.length ≤ (l.foldl (stepT top) t).out.length
  | [], _ => Nat.le_refl _
  | c :: l, t => Nat.le_trans (by rw [step_len]; omega) (fold_len top l (stepT top t c))
theorem foldT_le (top : Int) (ps : List Cel) (k : Nat) : (foldT top (ps.take k)).out.length ≤ (foldT top ps).out.length := by
  have h : foldT top ps = (ps.drop k).foldl (stepT top) (foldT top (ps.take k)) := by
    unfold foldT
    rw [← List.foldl_append, List.take_append_drop]
  rw [h]
  exact fold_len top _ _
/-- what the cells that have been written have made -/
structure TI (top : Int) (ps : List Cel) (k : Nat) (t : TS) : Prop where
  e : t = foldT top (ps.take k)
  x0 : 0 ≤ t.x
  xl : t.x ≤ t.out.length
  x1 : t.x ≤ 1048577
  y0 : 0 ≤ t.y
  y1 : t.y ≤ 1048576
  nx : ∀ h : k < ps.length, 0 ≤ ps[k].x → 0 ≤ ps[k].y → t.y ≤ ps[k].y ∧ (ps[k].y ≤ t.y → t.x ≤ ps[k].x)
  nl : t.out.length ≤ 3000000 * k
theorem neg_no {ps : List Cel} (h : ps.any negB = false) {k : Nat} (hk : k < ps.length) : 0 ≤ ps[k].x ∧ 0 ≤ ps[k].y := by
  have := List.any_eq_false.1 h ps[k] (List.getElem_mem hk)
  unfold negB at this
  simp at this
  omega
theorem TI.start {top : Int} {ps : List Cel} : TI top ps 0 ⟨[], 0, 0⟩ :=
  ⟨rfl, Int.le_refl _, by simp, by simp, Int.le_refl _, by simp, fun h h0 h1 => ⟨h1, fun _ => h0⟩, by simp⟩
theorem TI.step {top : Int} {ps : List Cel} {k : Nat} {t : TS} (h : TI top ps k t) (hr : rightC ps = true) (hk : k < ps.length) (h20 : 0 ≤ ps[k].x) (h21 : 0 ≤ ps[k].y) : TI top ps (k + 1) (stepT top t ps[k]) := by
  have h1 := right_cel hr hk
  have h3 := h.nx hk h20 h21
  have h6 := h.nl
  have h7 := h.x0
  have h8 := h.y0
  have h4 := h.xl
  refine ⟨by rw [foldT_snoc top hk, ← h.e], by show 0 ≤ ps[k].x + 1; omega, ?_, by show ps[k].x + 1 ≤ _; omega, h21, h1.2.2.2.1, fun hk' _ _ => ?_, ?_⟩
  · rw [step_len]
    show ps[k].x + 1 ≤ _
    split <;> omega
  · have h5 := right_ord hr hk'
    show ps[k].y ≤ ps[k + 1].y ∧ (ps[k + 1].y ≤ ps[k].y → ps[k].x + 1 ≤ ps[k + 1].x)
    omega
  · rw [step_len]
    split <;> omega
theorem TI.over {top : Int} {ps : List Cel} {k : Nat} {t : TS} (h : TI top ps k t) (hn : ps.any negB = false) (hk : k < ps.length) (ho : 65536 < (t.out.length : Int) + ps[k].y - t.y ∨ 65536 < ps[k].x) : 65536 < (foldT top ps).out.length := by
  have h1 := foldT_le top ps (k + 1)
  rw [foldT_snoc top hk, ← h.e, step_len] at h1
  have h2 := h.nx hk (neg_no hn hk).1 (neg_no hn hk).2
  have h3 := h.xl
  split at h1 <;> omega
theorem TI.over2 {top : Int} {ps : List Cel} {k : Nat} {t : TS} (h : TI top ps k t) (ho : 65536 < t.out.length) : 65536 < (foldT top ps).out.length := by
  have h1 := foldT_le top ps k
  rw [← h.e] at h1
  omega
theorem body_len (ps : List Cel) : (bodyT ps).length = (foldT (topC ps) ps).out.length + (if ps = [] then 0 else 1) := by
  unfold bodyT
  rw [List.length_append]
  split <;> rfl
theorem text_bad {ps : List Cel} (h : rightC ps = false) : textT ps = ([], 2) := by unfold textT; rw [if_pos h]
theorem text_neg {ps : List Cel} (h : rightC ps = true) (hn : ps.any negB = true) : textT ps = ([], 5) := by unfold textT; rw [if_neg (by simp [h]), if_pos hn]
theorem text_far {ps : List Cel} (h : rightC ps = true) (hn : ps.any negB = false) (hb : 65536 < (bodyT ps).length) : textT ps = ([], 6) := by unfold textT; rw [if_neg (by simp [h]), if_neg (by simp [hn]), if_pos hb]
theorem text_ok {ps : List Cel} (h : rightC ps = true) (hn : ps.any negB = false) (hb : ¬ 65536 < (bodyT ps).length) : textT ps = (bodyT ps, 0) := by unfold textT; rw [if_neg (by simp [h]), if_neg (by simp [hn]), if_neg hb]
theorem TI.far {ps : List Cel} {k : Nat} {t : TS} (h : TI (topC ps) ps k t) (hr : rightC ps = true) (hn : ps.any negB = false) (hk : k < ps.length) (ho : 65536 < (t.out.length : Int) + ps[k].y - t.y ∨ 65536 < ps[k].x) : textT ps = ([], 6) :=
  text_far hr hn (by rw [body_len]; have := h.over hn hk ho; omega)
theorem TI.far2 {ps : List Cel} {k : Nat} {t : TS} (h : TI (topC ps) ps k t) (hr : rightC ps = true) (hn : ps.any negB = false) (ho : 65536 < t.out.length) : textT ps = ([], 6) :=
  text_far hr hn (by rw [body_len]; have := h.over2 ho; omega)
theorem TI.done {ps : List Cel} {t : TS} (h : TI (topC ps) ps ps.length t) : t.out ++ (if ps = [] then [] else [10]) = bodyT ps := by
  unfold bodyT
  rw [h.e, List.take_length]
end Go.Proofs.YtblfeaapjloppaaDoor
