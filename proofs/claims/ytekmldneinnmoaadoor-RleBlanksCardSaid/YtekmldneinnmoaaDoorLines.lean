/-
  No line of a text behind its header is longer than 70 bytes. Plain.
-/
import Derived.Test.YtekmldneinnmoaaDoorTrip2
namespace Go.Proofs.YtekmldneinnmoaaDoor
open Go.RowKit
set_option maxRecDepth 100000
set_option linter.unusedVariables false
set_option linter.unusedSimpArgs false

/-- from a line of n bytes on: no line is longer than 70 -/
def lok : Nat → List UInt8 → Bool
  | _, [] => true
  | n, c :: r => if c = 10 then decide (n ≤ 70) && lok 0 r else lok (n + 1) r
/-- the length of the last line -/
def lastN : Nat → List UInt8 → Nat
  | n, [] => n
  | n, c :: r => if c = 10 then lastN 0 r else lastN (n + 1) r
theorem lok_app : ∀ (a : List UInt8) (n : Nat) (b : List UInt8), lok n (a ++ b) = (lok n a && lok (lastN n a) b)
  | [], n, b => by simp [lok, lastN]
  | c :: a, n, b => by
    rw [List.cons_append, lok, lok, lastN]
    split
    · rw [lok_app a 0 b, Bool.and_assoc]
    · rw [lok_app a (n + 1) b]
theorem last_app : ∀ (a : List UInt8) (n : Nat) (b : List UInt8), lastN n (a ++ b) = lastN (lastN n a) b
  | [], n, b => rfl
  | c :: a, n, b => by
    rw [List.cons_append, lastN, lastN]
    split
    · exact last_app a 0 b
    · exact last_app a (n + 1) b
theorem plain_line : ∀ (a : List UInt8) (n : Nat), (∀ c ∈ a, c ≠ 10) → lok n a = true ∧ lastN n a = n + a.length
  | [], n, _ => ⟨rfl, rfl⟩
  | c :: a, n, h => by
    have hc := h c List.mem_cons_self
    have ih := plain_line a (n + 1) (fun x hx => h x (List.mem_cons_of_mem _ hx))
    rw [lok, lastN, if_neg hc, if_neg hc]
    refine ⟨ih.1, ?_⟩
    rw [ih.2, List.length_cons]
    omega
/-- a wrapped text: the body, all behind the header -/
structure Wr (hd B : List UInt8) (t : List UInt8 × List UInt8) : Prop where
  eq : t.1 ++ t.2 = hd ++ B
  lk : lok 0 B = true
  ls : lastN 0 B = t.2.length
  le : t.2.length ≤ 70
theorem Wr.put {hd B : List UInt8} {t : List UInt8 × List UInt8} (h : Wr hd B t) {s : List UInt8} (hs : ∀ c ∈ s, c ≠ 10) (hl : s.length ≤ 70) : ∃ B', Wr hd B' (putL t s) := by
  by_cases hp : 70 < t.2.length + s.length
  · rw [put_yes hp]
    refine ⟨B ++ (10 :: s), ?_, ?_, ?_, hl⟩
    · dsimp only
      rw [h.eq]
      simp [List.append_assoc]
    · rw [lok_app, h.lk, h.ls, Bool.true_and, lok, if_pos rfl, decide_eq_true h.le, (plain_line s 0 hs).1]
      rfl
    · rw [last_app, lastN, if_pos rfl, (plain_line s 0 hs).2]
      simp
  · rw [put_no hp]
    refine ⟨B ++ s, ?_, ?_, ?_, ?_⟩
    · dsimp only
      rw [← List.append_assoc, h.eq, List.append_assoc]
    · rw [lok_app, h.lk, (plain_line s _ hs).1]
      rfl
    · rw [last_app, h.ls, (plain_line s _ hs).2]
      simp
    · dsimp only
      rw [List.length_append]
      omega
theorem wr_fold (hd : List UInt8) : ∀ (l : List (List UInt8)) (t : List UInt8 × List UInt8) (B : List UInt8), (∀ s ∈ l, (∀ c ∈ s, c ≠ 10) ∧ s.length ≤ 70) → Wr hd B t → ∃ B', Wr hd B' (l.foldl putL t)
  | [], t, B, _, h => ⟨B, h⟩
  | s :: l, t, B, hl, h => by
    have h1 := hl s List.mem_cons_self
    obtain ⟨B', h2⟩ := h.put h1.1 h1.2
    exact wr_fold hd l _ B' (fun x hx => hl x (List.mem_cons_of_mem _ hx)) h2
theorem item_no10 {n k : Int} {two : Bool} (h0 : -1 ≤ k) (h1 : k ≤ 7) (h2 : two = true → k ≤ 1) (hn : 1 ≤ n) (hn2 : n < 10000000) : (∀ c ∈ itemC two (n, k), c ≠ 10) ∧ (itemC two (n, k)).length ≤ 70 := by
  refine ⟨?_, Nat.le_trans (item_len two (n, k) (by dsimp only; omega) (by dsimp only; omega)) (by decide)⟩
  obtain ⟨c, hc, -, hb, -⟩ := let_read h0 h1 h2
  intro x hx
  unfold itemC at hx
  rw [List.mem_append] at hx
  rcases hx with hx | hx
  · dsimp only at hx
    split at hx
    · have hd := (itoa_ok (n := n) (by omega) hn2).1 x hx
      rintro rfl
      revert hd
      decide
    · cases hx
  · dsimp only at hx
    rw [hc, List.mem_singleton] at hx
    subst hx
    exact fun h => hb.1 (.inr h)
theorem full_lines {ps : List Cel} {rule : List UInt8} (hr : rightC ps = true) : ∃ B, fullT ps rule = preL (boxC ps).1.w (boxC ps).1.h rule ++ 10 :: B ∧ lok 0 B = true := by
  have hsp := runs_spec ps
  have hits : ∀ s ∈ itemsL ps ++ [[33]], (∀ c ∈ s, c ≠ 10) ∧ s.length ≤ 70 := by
    intro s hs
    rw [List.mem_append, List.mem_singleton] at hs
    rcases hs with hs | rfl
    · unfold itemsL at hs
      rw [List.mem_map] at hs
      obtain ⟨r, hr2, rfl⟩ := hs
      have h := hsp.2.2 r hr2
      refine item_no10 h.1.1 h.2 (fun h2 => ?_) h.1.2.2.1 (by have := h.1.2.2.2; omega)
      have h3 := h.1.2.1
      have h4 : topC ps ≤ 1 := by simpa using h2
      omega
    · exact ⟨by decide, by decide⟩
  obtain ⟨B, hB⟩ := wr_fold (headL (boxC ps).1 rule) (itemsL ps ++ [[33]]) (headL (boxC ps).1 rule, []) [] hits ⟨by simp, rfl, rfl, by simp⟩
  rw [List.foldl_append] at hB
  refine ⟨B ++ [10], ?_, ?_⟩
  · have h1 := hB.eq
    have h2 : fullT ps rule = (headL (boxC ps).1 rule ++ B) ++ [10] := by rw [← h1]; rfl
    rw [h2, head_pre]
    simp [List.append_assoc]
  · rw [lok_app, hB.lk, hB.ls, Bool.true_and, lok, if_pos rfl, decide_eq_true hB.le]
    rfl
end Go.Proofs.YtekmldneinnmoaaDoor
